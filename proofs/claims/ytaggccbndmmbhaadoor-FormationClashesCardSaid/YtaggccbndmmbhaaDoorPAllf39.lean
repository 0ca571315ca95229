-- Written by wip/tools/handprint.py: walks of the functions that the law reaches; Lean checks them.
import Derived.Test.YtaggccbndmmbhaaDoorBase
import Derived.Test.YtaggccbndmmbhaaDoorPAllf46
import Derived.Test.YtaggccbndmmbhaaDoorPAllf62
namespace Go.Proofs.YtaggccbndmmbhaaDoor.PAll
open Go.RowKit Go.Proofs.YtaggccbndmmbhaaDoorW.PrintWords Go.Proofs.YtaggccbndmmbhaaDoorW.PrintLast Go.Proofs.YtaggccbndmmbhaaDoorW.PrintMore
attribute [local go_sem] max2_int min2_int max_two min_two max_three min_three max_four min_four   -- for this text's walks alone
set_option linter.unusedVariables false
set_option linter.unusedSimpArgs false

/-! ### geom_Touch: function 39 -/
def geom_Touch.f (k : Nat) (a0_0 : Int) (a0_1 : Int) (a0_2 : Int) (a0_3 : Int) (a0_4 : Int) (a1_0 : Int) (a1_1 : Int) (a1_2 : Int) (a1_3 : Int) (a1_4 : Int) : Option (Bool × Int) := (geom_valid.f k (([(⟨a0_0, a0_1⟩ : S52), (⟨a0_2, a0_3⟩ : S52), (⟨a1_0, a1_1⟩ : S52), (⟨a1_2, a1_3⟩ : S52)] : List (S52))) (([a0_4, a1_4] : List Int))).bind fun t335 => (if t335 = true then ((geom_minus.f a0_0 a0_1 a1_0 a1_1).bind fun bt336 => ((geom_minus.f a0_2 a0_3 a0_0 a0_1).bind fun bt338 => ((geom_minus.f a1_2 a1_3 a1_0 a1_1).bind fun bt340 => ((geom_minus.f bt338.1 bt338.2 bt340.1 bt340.2).bind fun bt342 => ((geom_nearest.f k bt336.1 bt336.2 bt342.1 bt342.2 (wrap64 ((wrap64 (a0_4 + a1_4)) * (wrap64 (a0_4 + a1_4))))).bind fun t344 => (some (decide (t344 < 0), 0))))))) else (some (false, 1)))
def geom_Touch.T4 : Bool × List (List Nat × List Nat) := (true, [([], []), ([0], [0]), ([], []), ([2], [2]), ([1, 3], [1, 3]), ([], []), ([5], [5]), ([], []), ([7], [7]), ([6, 8, 4], [6, 8]), ([], []), ([10], [10]), ([], []), ([12], [12]), ([11, 13, 9], [11, 13]), ([9, 14, 14], [9, 14]), ([], []), ([], []), ([16, 17], [16, 17]), ([4, 15, 18, 15], [4, 15, 18]), ([19], [19]), ([20, 19, 0, 1, 2, 3, 4, 5, 6, 7, 8, 9, 10, 11, 12, 13, 14, 15, 16, 17, 18, 19, 20], [20]), ([21, 0, 1, 2, 3, 4, 5, 6, 7, 8, 9, 10, 11, 12, 13, 14, 15, 16, 17, 18, 19, 20, 21], [])])
def geom_Touch.B4 : List Nat := [0, 1, 0, 4, 15, 0, 32, 0, 128, 511, 0, 1024, 0, 4096, 16383, 32767, 0, 0, 196608, 524287, 1048575, 2097151, 4194303]
theorem geom_Touch.tab4 : rtab .any (opsOf Tryd.f39 4) = geom_Touch.T4 := by kernel_rfl
theorem geom_Touch.bits4 : waitsOk geom_Touch.T4.2 geom_Touch.B4 = true := by kernel_rfl
set_option maxHeartbeats 8000000 in
set_option maxRecDepth 100000 in
theorem geom_Touch.calls (k : Nat) (a0_0 : Int) (a0_1 : Int) (a0_2 : Int) (a0_3 : Int) (a0_4 : Int) (a1_0 : Int) (a1_1 : Int) (a1_2 : Int) (a1_3 : Int) (a1_4 : Int) (r1 : Bool) (r2 : Int) (w : World) (h : geom_Touch.f k a0_0 a0_1 a0_2 a0_3 a0_4 a1_0 a1_1 a1_2 a1_3 a1_4 = some (r1, r2)) :
  Calls Tryd.prog 39 #[.agg #[.int .i64 a0_0, .int .i64 a0_1, .int .i64 a0_2, .int .i64 a0_3, .int .i64 a0_4], .agg #[.int .i64 a1_0, .int .i64 a1_1, .int .i64 a1_2, .int .i64 a1_3, .int .i64 a1_4]] w fun e w' => e = .returned (.tuple #[.bool r1, .int .i64 r2]) ∧ Below w.heap.size w w' := by
 have hu55 := Tryd.underlying55
 have hu52 := Tryd.underlying52
 have HB := Aside0.mk (Below.refl w.heap.size w)
 have H := h
 unfold geom_Touch.f at H
 clear h
 obtain ⟨y329, hy329⟩ : ∃ y_ : List (S52), y_ = (([(⟨a0_0, a0_1⟩ : S52), (⟨a0_2, a0_3⟩ : S52), (⟨a1_0, a1_1⟩ : S52), (⟨a1_2, a1_3⟩ : S52)] : List (S52))) := ⟨_, rfl⟩
 rw [← hy329] at H
 have Ny329 := Aside0.mk hy329
 clear hy329
 obtain ⟨y332, hy332⟩ : ∃ y_ : List Int, y_ = (([a0_4, a1_4] : List Int)) := ⟨_, rfl⟩
 rw [← hy332] at H
 have Ny332 := Aside0.mk hy332
 clear hy332
 replace H := Option.bind_eq_some_iff.mp H
 obtain ⟨t335, A30, H⟩ := H
 try dsimp only at H
 have A3 := Aside0.mk A30
 clear A30
 by_cases c4 : t335 = true
 rotate_left
 ·
  replace c4 := Bool.eq_false_iff.mpr c4
  subst c4
  rw [if_neg (show ¬ (false = true) by decide)] at H
  simp only [Option.some.injEq, Prod.mk.injEq] at H
  obtain ⟨rfl, rfl⟩ := H
  go_enter Tryd.func39, Tryd.ntmps39
  go_wp2_with (first | ((with_reducible refine gate_dst (N := 2) rfl ?_); refine box_event rfl (N := 2) rfl (cs := #[.int .i64 a0_0, .int .i64 a0_1, .int .i64 a0_2, .int .i64 a0_3, .int .i64 a0_4]) (t := 55) (by first | (go_simp; done) | (go_simp; rfl)) ?_; intro gb1 hg w32 hbox hb; have BK1 := Aside0.mk hbox; have GW1 := mGw HB hg; have GE1 := GW1; replace HB := mSt HB hb; clear hb hbox hg) | ((with_reducible refine gate_dst (N := 3) rfl ?_); refine box_event rfl (N := 3) rfl (cs := #[.int .i64 a1_0, .int .i64 a1_1, .int .i64 a1_2, .int .i64 a1_3, .int .i64 a1_4]) (t := 55) (by first | (go_simp; done) | (go_simp; rfl)) ?_; intro gb2 hg w33 hbox hb; have BK2 := Aside0.mk hbox; have GW2 := mGw HB hg; have GE2 := GW2; replace HB := mSt HB hb; have NB1_2 := mNe BK1 hg; have NB2_1 := mSy NB1_2; replace BK1 := mBb BK1 hb; clear hb hbox hg; have hnb34 := NB1_2.out; have hnc34 := NB2_1.out; have hcz35 := blk_cell BK1.out; have hfz35 := blk_frozen BK1.out; have hcz36 := blk_cell BK2.out; have hfz36 := blk_frozen BK2.out) | ((with_reducible refine gate_dst (N := 15) rfl ?_); refine Kd.R_lit k52 _ 52 ?hg (N := 15) ?hd (xs := ([(⟨a0_0, a0_1⟩ : S52), (⟨a0_2, a0_3⟩ : S52), (⟨a1_0, a1_1⟩ : S52), (⟨a1_2, a1_3⟩ : S52)] : List (S52))) (inner := [.int .i64 a0_0, .int .i64 a0_1, .int .i64 a0_2, .int .i64 a0_3, .int .i64 a1_0, .int .i64 a1_1, .int .i64 a1_2, .int .i64 a1_3]) (ok := fun _ => True) (okp := fun _ => True) ?hr ?hp (fun _ hk => hk) trivial (Below.refl _ _) (Nat.le_refl _) (by simp) ?_; (case hd => rfl); (case hg => rfl); (case hr => first | (go_simp; done) | (go_simp; rfl)); (case hp => exact (Reps.c2 (k52_mkM _ _ _ _) (Reps.c2 (k52_mkM _ _ _ _) (Reps.c2 (k52_mkM _ _ _ _) (Reps.c2 (k52_mkM _ _ _ _) (Reps.none _ _)))))); intro v330 w37 ho38 hb hg_ hnew_; clear hg_ hnew_; (first | rw [← Ny329.out] at ho38 | (simp only [Int.reduceToNat] at ho38; rw [← Ny329.out] at ho38)); have HO331 := Aside0.mk (Kd.R_lower ho38 (below_size HB.out)); replace BK1 := mBb BK1 hb; replace BK2 := mBb BK2 hb; replace HB := mSt HB hb; clear hb ho38; have hcz39 := blk_cell BK1.out; have hfz39 := blk_frozen BK1.out; have hcz40 := blk_cell BK2.out; have hfz40 := blk_frozen BK2.out) | ((with_reducible refine gate_dst (N := 20) rfl ?_); refine Kd.R_lit (Kd.int .i64) _ 3 ?hg (N := 20) ?hd (xs := ([a0_4, a1_4] : List Int)) (inner := [.int .i64 a0_4, .int .i64 a1_4]) (ok := fun _ => True) (okp := fun _ => True) ?hr ?hp (fun _ hk => hk) trivial (Below.refl _ _) (Nat.le_refl _) (by simp) ?_; (case hd => rfl); (case hg => rfl); (case hr => first | (go_simp; done) | (go_simp; rfl)); (case hp => exact (Reps.one (show Kd.M (Kd.int .i64) _ _ _ a0_4 [.int .i64 a0_4] from rfl) (Reps.one (show Kd.M (Kd.int .i64) _ _ _ a1_4 [.int .i64 a1_4] from rfl) (Reps.none _ _)))); intro v333 w41 ho42 hb hg_ hnew_; clear hg_ hnew_; (first | rw [← Ny332.out] at ho42 | (simp only [Int.reduceToNat] at ho42; rw [← Ny332.out] at ho42)); replace HO331 := Aside0.mk (Kd.R_below HO331.out hb); have HO334 := Aside0.mk (Kd.R_lower ho42 (below_size HB.out)); replace BK1 := mBb BK1 hb; replace BK2 := mBb BK2 hb; replace HB := mSt HB hb; clear hb ho42; obtain ⟨Ao43, co43, eo43⟩ := Kd.R_slice HO331.out; subst eo43; obtain ⟨Ao44, co44, eo44⟩ := Kd.R_slice HO334.out; subst eo44) | ((with_reducible refine gate_callee (f := 46) rfl ?_); refine goesL_ (some 21) rfl rfl Tryd.func46 (by kernel_rfl) rfl #[.slice Ao43 y329.length co43, .slice Ao44 y332.length co44] rfl (mA2 rfl rfl) ?_; (with_reducible refine (geom_valid.calls k _ _ y329 _ _ y332 false _ ((Kd.R_reads' HO331.out).2.2) ((Kd.R_reads' HO331.out).2.1) ((Kd.R_reads' HO334.out).2.2) ((Kd.R_reads' HO334.out).2.1) A3.out).mono ?_); rintro e w45 ⟨rfl, hb⟩; refine ⟨_, rfl, ?_⟩; replace HO331 := Aside0.mk (Kd.R_below HO331.out hb); replace HO334 := Aside0.mk (Kd.R_below HO334.out hb); replace BK1 := mBb BK1 hb; replace BK2 := mBb BK2 hb; replace HB := mSt HB hb; (try clear hb)))
  go_ret2
  exact ⟨rfl, HB.out⟩
 subst c4
 rw [if_pos rfl] at H
 replace H := Option.bind_eq_some_iff.mp H
 obtain ⟨⟨t336, t337⟩, A50, H⟩ := H
 try dsimp only at H
 have A5 := Aside0.mk A50
 clear A50
 replace H := Option.bind_eq_some_iff.mp H
 obtain ⟨⟨t338, t339⟩, A60, H⟩ := H
 try dsimp only at H
 have A6 := Aside0.mk A60
 clear A60
 replace H := Option.bind_eq_some_iff.mp H
 obtain ⟨⟨t340, t341⟩, A70, H⟩ := H
 try dsimp only at H
 have A7 := Aside0.mk A70
 clear A70
 replace H := Option.bind_eq_some_iff.mp H
 obtain ⟨⟨t342, t343⟩, A80, H⟩ := H
 try dsimp only at H
 have A8 := Aside0.mk A80
 clear A80
 replace H := Option.bind_eq_some_iff.mp H
 obtain ⟨t344, A90, H⟩ := H
 try dsimp only at H
 have A9 := Aside0.mk A90
 clear A90
 simp only [Option.some.injEq, Prod.mk.injEq] at H
 obtain ⟨rfl, rfl⟩ := H
 go_enter Tryd.func39, Tryd.ntmps39
 try go_wp2_with (first | ((with_reducible refine gate_dst (N := 2) rfl ?_); refine box_event rfl (N := 2) rfl (cs := #[.int .i64 a0_0, .int .i64 a0_1, .int .i64 a0_2, .int .i64 a0_3, .int .i64 a0_4]) (t := 55) (by first | (go_simp; done) | (go_simp; rfl)) ?_; intro gb1 hg w10 hbox hb; have BK1 := Aside0.mk hbox; have GW1 := mGw HB hg; have GE1 := GW1; replace HB := mSt HB hb; clear hb hbox hg) | ((with_reducible refine gate_dst (N := 3) rfl ?_); refine box_event rfl (N := 3) rfl (cs := #[.int .i64 a1_0, .int .i64 a1_1, .int .i64 a1_2, .int .i64 a1_3, .int .i64 a1_4]) (t := 55) (by first | (go_simp; done) | (go_simp; rfl)) ?_; intro gb2 hg w11 hbox hb; have BK2 := Aside0.mk hbox; have GW2 := mGw HB hg; have GE2 := GW2; replace HB := mSt HB hb; have NB1_2 := mNe BK1 hg; have NB2_1 := mSy NB1_2; replace BK1 := mBb BK1 hb; clear hb hbox hg; have hnb12 := NB1_2.out; have hnc12 := NB2_1.out; have hcz13 := blk_cell BK1.out; have hfz13 := blk_frozen BK1.out; have hcz14 := blk_cell BK2.out; have hfz14 := blk_frozen BK2.out) | ((with_reducible refine gate_dst (N := 15) rfl ?_); refine Kd.R_lit k52 _ 52 ?hg (N := 15) ?hd (xs := ([(⟨a0_0, a0_1⟩ : S52), (⟨a0_2, a0_3⟩ : S52), (⟨a1_0, a1_1⟩ : S52), (⟨a1_2, a1_3⟩ : S52)] : List (S52))) (inner := [.int .i64 a0_0, .int .i64 a0_1, .int .i64 a0_2, .int .i64 a0_3, .int .i64 a1_0, .int .i64 a1_1, .int .i64 a1_2, .int .i64 a1_3]) (ok := fun _ => True) (okp := fun _ => True) ?hr ?hp (fun _ hk => hk) trivial (Below.refl _ _) (Nat.le_refl _) (by simp) ?_; (case hd => rfl); (case hg => rfl); (case hr => first | (go_simp; done) | (go_simp; rfl)); (case hp => exact (Reps.c2 (k52_mkM _ _ _ _) (Reps.c2 (k52_mkM _ _ _ _) (Reps.c2 (k52_mkM _ _ _ _) (Reps.c2 (k52_mkM _ _ _ _) (Reps.none _ _)))))); intro v330 w15 ho16 hb hg_ hnew_; clear hg_ hnew_; (first | rw [← Ny329.out] at ho16 | (simp only [Int.reduceToNat] at ho16; rw [← Ny329.out] at ho16)); have HO331 := Aside0.mk (Kd.R_lower ho16 (below_size HB.out)); replace BK1 := mBb BK1 hb; replace BK2 := mBb BK2 hb; replace HB := mSt HB hb; clear hb ho16; have hcz17 := blk_cell BK1.out; have hfz17 := blk_frozen BK1.out; have hcz18 := blk_cell BK2.out; have hfz18 := blk_frozen BK2.out) | ((with_reducible refine gate_dst (N := 20) rfl ?_); refine Kd.R_lit (Kd.int .i64) _ 3 ?hg (N := 20) ?hd (xs := ([a0_4, a1_4] : List Int)) (inner := [.int .i64 a0_4, .int .i64 a1_4]) (ok := fun _ => True) (okp := fun _ => True) ?hr ?hp (fun _ hk => hk) trivial (Below.refl _ _) (Nat.le_refl _) (by simp) ?_; (case hd => rfl); (case hg => rfl); (case hr => first | (go_simp; done) | (go_simp; rfl)); (case hp => exact (Reps.one (show Kd.M (Kd.int .i64) _ _ _ a0_4 [.int .i64 a0_4] from rfl) (Reps.one (show Kd.M (Kd.int .i64) _ _ _ a1_4 [.int .i64 a1_4] from rfl) (Reps.none _ _)))); intro v333 w19 ho20 hb hg_ hnew_; clear hg_ hnew_; (first | rw [← Ny332.out] at ho20 | (simp only [Int.reduceToNat] at ho20; rw [← Ny332.out] at ho20)); replace HO331 := Aside0.mk (Kd.R_below HO331.out hb); have HO334 := Aside0.mk (Kd.R_lower ho20 (below_size HB.out)); replace BK1 := mBb BK1 hb; replace BK2 := mBb BK2 hb; replace HB := mSt HB hb; clear hb ho20; obtain ⟨Ao21, co21, eo21⟩ := Kd.R_slice HO331.out; subst eo21; obtain ⟨Ao22, co22, eo22⟩ := Kd.R_slice HO334.out; subst eo22) | ((with_reducible refine gate_callee (f := 46) rfl ?_); refine goesL_ (some 21) rfl rfl Tryd.func46 (by kernel_rfl) rfl #[.slice Ao21 y329.length co21, .slice Ao22 y332.length co22] rfl (mA2 rfl rfl) ?_; (with_reducible refine (geom_valid.calls k _ _ y329 _ _ y332 true _ ((Kd.R_reads' HO331.out).2.2) ((Kd.R_reads' HO331.out).2.1) ((Kd.R_reads' HO334.out).2.2) ((Kd.R_reads' HO334.out).2.1) A3.out).mono ?_); rintro e w23 ⟨rfl, hb⟩; refine ⟨_, rfl, ?_⟩; replace HO331 := Aside0.mk (Kd.R_below HO331.out hb); replace HO334 := Aside0.mk (Kd.R_below HO334.out hb); replace BK1 := mBb BK1 hb; replace BK2 := mBb BK2 hb; replace HB := mSt HB hb; (try clear hb); have hcz24 := blk_cell BK1.out; have hfz24 := blk_frozen BK1.out; have hcz25 := blk_cell BK2.out; have hfz25 := blk_frozen BK2.out))
 replace HO331 := Aside0.mk (Kd.R_drew HO331.out); replace HO334 := Aside0.mk (Kd.R_drew HO334.out); replace BK1 := Aside0.mk (blk_drew BK1.out); replace BK2 := Aside0.mk (blk_drew BK2.out); replace HB := Aside0.mk (below_drew1 HB.out)
 refine start_ (n := 23) (S := fun w' => w'.cell? ⟨gb1, 0, none⟩ = some (.int .i64 a0_0) ∧ w'.cell? ⟨gb1, 1, none⟩ = some (.int .i64 a0_1) ∧ w'.cell? ⟨gb1, 2, none⟩ = some (.int .i64 a0_2) ∧ w'.cell? ⟨gb1, 3, none⟩ = some (.int .i64 a0_3) ∧ w'.cell? ⟨gb1, 4, none⟩ = some (.int .i64 a0_4) ∧ w'.cell? ⟨gb2, 0, none⟩ = some (.int .i64 a1_0) ∧ w'.cell? ⟨gb2, 1, none⟩ = some (.int .i64 a1_1) ∧ w'.cell? ⟨gb2, 2, none⟩ = some (.int .i64 a1_2) ∧ w'.cell? ⟨gb2, 3, none⟩ = some (.int .i64 a1_3) ∧ w'.cell? ⟨gb2, 4, none⟩ = some (.int .i64 a1_4)) (ds := []) #[false, false, false, false, false, false, false, false, false, false, false, false, false, false, false, false, false, false, false, false, false, false, false] (by kernel_rfl) rfl rfl ⟨(blk_cell BK1.out 0).trans rfl, (blk_cell BK1.out 1).trans rfl, (blk_cell BK1.out 2).trans rfl, (blk_cell BK1.out 3).trans rfl, (blk_cell BK1.out 4).trans rfl, (blk_cell BK2.out 0).trans rfl, (blk_cell BK2.out 1).trans rfl, (blk_cell BK2.out 2).trans rfl, (blk_cell BK2.out 3).trans rfl, (blk_cell BK2.out 4).trans rfl⟩ (fun hHeld => ?_); refine with_tabW geom_Touch.tab4 geom_Touch.bits4 (fun HT_ HW_ => ?_)
 generalize w23.drew = w26 at HO331 HO334 BK1 BK2 HB hHeld ⊢
 refine pM 0 28 HT_ ?_
 refine pM 2 30 HT_ ?_
 refine pM 5 33 HT_ ?_
 refine pM 7 35 HT_ ?_
 refine pM 10 38 HT_ ?_
 refine pM 12 40 HT_ ?_
 refine pM 16 44 HT_ ?_
 refine pM 17 45 HT_ ?_
 refine pM 18 46 HT_ ?_
 refine tM 1 29 rfl HT_ HW_ (by rintro w' ⟨s0, s1, s2, s3, s4, s5, s6, s7, s8, s9⟩; go_simp; with_reducible rfl) hHeld ?_
 refine tM 3 31 rfl HT_ HW_ (by rintro w' ⟨s0, s1, s2, s3, s4, s5, s6, s7, s8, s9⟩; go_simp; with_reducible rfl) hHeld ?_
 refine tM 6 34 rfl HT_ HW_ (by rintro w' ⟨s0, s1, s2, s3, s4, s5, s6, s7, s8, s9⟩; go_simp; with_reducible rfl) hHeld ?_
 refine tM 8 36 rfl HT_ HW_ (by rintro w' ⟨s0, s1, s2, s3, s4, s5, s6, s7, s8, s9⟩; go_simp; with_reducible rfl) hHeld ?_
 refine tM 11 39 rfl HT_ HW_ (by rintro w' ⟨s0, s1, s2, s3, s4, s5, s6, s7, s8, s9⟩; go_simp; with_reducible rfl) hHeld ?_
 refine tM 13 41 rfl HT_ HW_ (by rintro w' ⟨s0, s1, s2, s3, s4, s5, s6, s7, s8, s9⟩; go_simp; with_reducible rfl) hHeld ?_
 refine one_ (i := 4) (N := some 32) #[true, true, true, true, true, true, true, true, true, false, true, true, true, true, false, false, true, true, true, false, false, false, false] rfl rfl (one_of HT_.out (by kernel_rfl)) (by decide) (fun K hK => ?_)
 refine goes_ Tryd.func47 (by kernel_rfl) rfl #[.agg #[.int .i64 a0_0, .int .i64 a0_1], .agg #[.int .i64 a1_0, .int .i64 a1_1]] (by rfl) rfl rfl (by (try simp only [List.map_toArray, List.map_cons, List.map_nil]); first | done | rfl | (simp only [List.length_drop, List.length_take]; rfl)) ?_
 with_reducible refine (geom_minus.calls a0_0 a0_1 a1_0 a1_1 t336 t337 _ A5.out).mono ?_
 rintro e w27 ⟨rfl, hb⟩
 refine ⟨_, rfl, ?_⟩
 replace HO331 := Aside0.mk (Kd.R_below HO331.out hb); replace HO334 := Aside0.mk (Kd.R_below HO334.out hb); replace BK1 := mBb BK1 hb; replace BK2 := mBb BK2 hb; replace HB := mSt HB hb
 (try clear hb)
 (try clear hb2)
 (try clear hk)
 (try clear hi)
 refine hK.out _ _ ⟨blk_cell BK1.out 0, blk_cell BK1.out 1, blk_cell BK1.out 2, blk_cell BK1.out 3, blk_cell BK1.out 4, blk_cell BK2.out 0, blk_cell BK2.out 1, blk_cell BK2.out 2, blk_cell BK2.out 3, blk_cell BK2.out 4⟩ (fun hHeld => ?_)
 clear hK K
 refine norm_ (by show Act.put _ (some 32) _ = _; simp only [mP]; rfl) ?_
 refine one_ (i := 9) (N := some 37) #[true, true, true, true, true, true, true, true, true, true, true, true, true, true, false, false, true, true, true, false, false, false, false] rfl rfl (one_of HT_.out (by kernel_rfl)) (by decide) (fun K hK => ?_)
 refine goes_ Tryd.func47 (by kernel_rfl) rfl #[.agg #[.int .i64 a0_2, .int .i64 a0_3], .agg #[.int .i64 a0_0, .int .i64 a0_1]] (by rfl) rfl rfl (by (try simp only [List.map_toArray, List.map_cons, List.map_nil]); first | done | rfl | (simp only [List.length_drop, List.length_take]; rfl)) ?_
 with_reducible refine (geom_minus.calls a0_2 a0_3 a0_0 a0_1 t338 t339 _ A6.out).mono ?_
 rintro e w28 ⟨rfl, hb⟩
 refine ⟨_, rfl, ?_⟩
 replace HO331 := Aside0.mk (Kd.R_below HO331.out hb); replace HO334 := Aside0.mk (Kd.R_below HO334.out hb); replace BK1 := mBb BK1 hb; replace BK2 := mBb BK2 hb; replace HB := mSt HB hb
 (try clear hb)
 (try clear hb2)
 (try clear hk)
 (try clear hi)
 refine hK.out _ _ ⟨blk_cell BK1.out 0, blk_cell BK1.out 1, blk_cell BK1.out 2, blk_cell BK1.out 3, blk_cell BK1.out 4, blk_cell BK2.out 0, blk_cell BK2.out 1, blk_cell BK2.out 2, blk_cell BK2.out 3, blk_cell BK2.out 4⟩ (fun hHeld => ?_)
 clear hK K
 refine norm_ (by show Act.put _ (some 37) _ = _; simp only [mP]; rfl) ?_
 refine one_ (i := 14) (N := some 42) #[true, true, true, true, true, true, true, true, true, true, true, true, true, true, true, false, true, true, true, false, false, false, false] rfl rfl (one_of HT_.out (by kernel_rfl)) (by decide) (fun K hK => ?_)
 refine goes_ Tryd.func47 (by kernel_rfl) rfl #[.agg #[.int .i64 a1_2, .int .i64 a1_3], .agg #[.int .i64 a1_0, .int .i64 a1_1]] (by rfl) rfl rfl (by (try simp only [List.map_toArray, List.map_cons, List.map_nil]); first | done | rfl | (simp only [List.length_drop, List.length_take]; rfl)) ?_
 with_reducible refine (geom_minus.calls a1_2 a1_3 a1_0 a1_1 t340 t341 _ A7.out).mono ?_
 rintro e w29 ⟨rfl, hb⟩
 refine ⟨_, rfl, ?_⟩
 replace HO331 := Aside0.mk (Kd.R_below HO331.out hb); replace HO334 := Aside0.mk (Kd.R_below HO334.out hb); replace BK1 := mBb BK1 hb; replace BK2 := mBb BK2 hb; replace HB := mSt HB hb
 (try clear hb)
 (try clear hb2)
 (try clear hk)
 (try clear hi)
 refine hK.out _ _ ⟨blk_cell BK1.out 0, blk_cell BK1.out 1, blk_cell BK1.out 2, blk_cell BK1.out 3, blk_cell BK1.out 4, blk_cell BK2.out 0, blk_cell BK2.out 1, blk_cell BK2.out 2, blk_cell BK2.out 3, blk_cell BK2.out 4⟩ (fun hHeld => ?_)
 clear hK K
 refine norm_ (by show Act.put _ (some 42) _ = _; simp only [mP]; rfl) ?_
 refine one_ (i := 15) (N := some 43) #[true, true, true, true, true, true, true, true, true, true, true, true, true, true, true, true, true, true, true, false, false, false, false] rfl rfl (one_of HT_.out (by kernel_rfl)) (by decide) (fun K hK => ?_)
 refine goes_ Tryd.func47 (by kernel_rfl) rfl #[.agg #[.int .i64 t338, .int .i64 t339], .agg #[.int .i64 t340, .int .i64 t341]] (by rfl) rfl rfl (by (try simp only [List.map_toArray, List.map_cons, List.map_nil]); first | done | rfl | (simp only [List.length_drop, List.length_take]; rfl)) ?_
 with_reducible refine (geom_minus.calls t338 t339 t340 t341 t342 t343 _ A8.out).mono ?_
 rintro e w30 ⟨rfl, hb⟩
 refine ⟨_, rfl, ?_⟩
 replace HO331 := Aside0.mk (Kd.R_below HO331.out hb); replace HO334 := Aside0.mk (Kd.R_below HO334.out hb); replace BK1 := mBb BK1 hb; replace BK2 := mBb BK2 hb; replace HB := mSt HB hb
 (try clear hb)
 (try clear hb2)
 (try clear hk)
 (try clear hi)
 refine hK.out _ _ ⟨blk_cell BK1.out 0, blk_cell BK1.out 1, blk_cell BK1.out 2, blk_cell BK1.out 3, blk_cell BK1.out 4, blk_cell BK2.out 0, blk_cell BK2.out 1, blk_cell BK2.out 2, blk_cell BK2.out 3, blk_cell BK2.out 4⟩ (fun hHeld => ?_)
 clear hK K
 refine norm_ (by show Act.put _ (some 43) _ = _; simp only [mP]; rfl) ?_
 refine one_ (i := 19) (N := some 47) #[true, true, true, true, true, true, true, true, true, true, true, true, true, true, true, true, true, true, true, true, false, false, false] rfl rfl (one_of HT_.out (by kernel_rfl)) (by decide) (fun K hK => ?_)
 refine goes_ Tryd.func62 (by kernel_rfl) rfl #[.agg #[.int .i64 t336, .int .i64 t337], .agg #[.int .i64 t342, .int .i64 t343], .int .i64 (wrap64 ((wrap64 (a0_4 + a1_4)) * (wrap64 (a0_4 + a1_4))))] (by rfl) rfl rfl (by (try simp only [List.map_toArray, List.map_cons, List.map_nil]); first | done | rfl | (simp only [List.length_drop, List.length_take]; rfl)) ?_
 with_reducible refine (geom_nearest.calls k t336 t337 t342 t343 (wrap64 ((wrap64 (a0_4 + a1_4)) * (wrap64 (a0_4 + a1_4)))) t344 _ A9.out).mono ?_
 rintro e w31 ⟨rfl, hb⟩
 refine ⟨_, rfl, ?_⟩
 replace HO331 := Aside0.mk (Kd.R_below HO331.out hb); replace HO334 := Aside0.mk (Kd.R_below HO334.out hb); replace BK1 := mBb BK1 hb; replace BK2 := mBb BK2 hb; replace HB := mSt HB hb
 (try clear hb)
 (try clear hb2)
 (try clear hk)
 (try clear hi)
 refine hK.out _ _ ⟨blk_cell BK1.out 0, blk_cell BK1.out 1, blk_cell BK1.out 2, blk_cell BK1.out 3, blk_cell BK1.out 4, blk_cell BK2.out 0, blk_cell BK2.out 1, blk_cell BK2.out 2, blk_cell BK2.out 3, blk_cell BK2.out 4⟩ (fun hHeld => ?_)
 clear hK K
 refine norm_ (by show Act.put _ (some 47) _ = _; simp only [mP]; rfl) ?_
 refine pM 20 48 HT_ ?_
 refine pM 21 4 HT_ ?_
 refine pM 22 5 HT_ ?_
 refine done_ (done_of HT_.out (by kernel_rfl)) ?_
 try go_wp2
 go_ret2
 exact ⟨rfl, HB.out⟩
end Go.Proofs.YtaggccbndmmbhaaDoor.PAll
