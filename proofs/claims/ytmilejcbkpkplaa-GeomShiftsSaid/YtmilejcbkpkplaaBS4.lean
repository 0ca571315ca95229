/- Texts of the proof, laid end to end. -/
import Derived.Test.YtmilejcbkpkplaaBS2
import Derived.Test.YtmilejcbkpkplaaBS3
-- Written by wip/tools/handprint.py: walks of the functions that the law reaches; Lean checks them.
namespace Go.Proofs.Ytmilejcbkpkplaa.PAll
open Go.RowKit Go.Proofs.YtmilejcbkpkplaaW.PrintWords Go.Proofs.YtmilejcbkpkplaaW.PrintLast Go.Proofs.YtmilejcbkpkplaaW.PrintMore
attribute [local go_sem] max2_int min2_int max_two min_two max_three min_three max_four min_four   -- for this text's walks alone
set_option linter.unusedVariables false
set_option linter.unusedSimpArgs false
attribute [local go_sem high] eqA23

/-! ### geom_hull_fn1: function 50 -/
def geom_hull_fn1.f (a0_0 : Int) (a0_1 : Int) (a1_0 : Int) (a1_1 : Int) (a2_0 : Int) (a2_1 : Int) : Option (Bool) := if (a1_0 == a0_0 && (a1_1 == a0_1)) = true then (some (!(a2_0 == a0_0) || (!(a2_1 == a0_1)))) else ((geom_minus.f a1_0 a1_1 a0_0 a0_1).bind fun bt221 => ((geom_minus.f a2_0 a2_1 a0_0 a0_1).bind fun bt223 => ((geom_cross.f bt221.1 bt221.2 bt223.1 bt223.2).bind fun t227 => (if t227 < 0 then (some true) else (if t227 = 0 then ((geom_dot.f bt223.1 bt223.2 bt223.1 bt223.2).bind fun t228 => ((geom_dot.f bt221.1 bt221.2 bt221.1 bt221.2).bind fun t229 => (some (decide (t228 > t229))))) else (some false))))))
def geom_hull_fn1.T3 : Bool × List (List Nat × List Nat) := (true, [([], []), ([], []), ([0, 1], [0, 1]), ([], []), ([], []), ([3, 4, 2], [3, 4]), ([], []), ([], []), ([6, 2, 5, 0, 1, 2, 6, 7], [2, 6]), ([7, 5, 8, 0, 1, 2, 3, 4, 5, 6, 7, 8], [5, 7])])
def geom_hull_fn1.B3 : List Nat := [0, 0, 3, 0, 0, 31, 0, 0, 255, 511]
theorem geom_hull_fn1.tab3 : rtab .any (opsOf Try.f50 3) = geom_hull_fn1.T3 := by kernel_rfl
theorem geom_hull_fn1.bits3 : waitsOk geom_hull_fn1.T3.2 geom_hull_fn1.B3 = true := by kernel_rfl
def geom_hull_fn1.T5 : Bool × List (List Nat × List Nat) := (true, [([], []), ([0], [0]), ([1], [1]), ([2], [2]), ([3, 2], [2, 3]), ([4, 2, 2], [2, 4]), ([5], [5]), ([5], [5]), ([6, 7, 5, 5], [5, 6, 7]), ([5], [5]), ([5], [5]), ([9, 10, 8, 5], [5, 9, 10]), ([8, 11, 5], [5, 8, 11]), ([5, 12, 2], [2, 5, 12]), ([2, 13], [2, 13]), ([14, 11, 0, 1, 2, 3, 4, 5, 6, 7, 8, 9, 10, 11, 12, 13, 14], [14])])
def geom_hull_fn1.B5 : List Nat := [0, 1, 3, 7, 15, 31, 63, 63, 255, 63, 63, 2047, 4095, 8191, 16383, 32767]
theorem geom_hull_fn1.tab5 : rtab .any (opsOf Try.f50 5) = geom_hull_fn1.T5 := by kernel_rfl
theorem geom_hull_fn1.bits5 : waitsOk geom_hull_fn1.T5.2 geom_hull_fn1.B5 = true := by kernel_rfl
set_option maxHeartbeats 8000000 in
set_option maxRecDepth 100000 in
theorem geom_hull_fn1.calls (a0_0 : Int) (a0_1 : Int) (a1_0 : Int) (a1_1 : Int) (a2_0 : Int) (a2_1 : Int) (r : Bool) (w : World) (h : geom_hull_fn1.f a0_0 a0_1 a1_0 a1_1 a2_0 a2_1 = some r) :
  Calls Try.prog 50 #[.agg #[.int .i64 a0_0, .int .i64 a0_1], .agg #[.int .i64 a1_0, .int .i64 a1_1], .agg #[.int .i64 a2_0, .int .i64 a2_1]] w fun e w' => e = .returned (.bool r) ∧ Below w.heap.size w w' := by
 have hu23 := Try.underlying23
 have HB := Aside0.mk (Below.refl w.heap.size w)
 have H : (if (a1_0 == a0_0 && (a1_1 == a0_1)) = true then (some (!(a2_0 == a0_0) || (!(a2_1 == a0_1)))) else ((geom_minus.f a1_0 a1_1 a0_0 a0_1).bind fun bt221 => ((geom_minus.f a2_0 a2_1 a0_0 a0_1).bind fun bt223 => ((geom_cross.f bt221.1 bt221.2 bt223.1 bt223.2).bind fun t227 => (if t227 < 0 then (some true) else (if t227 = 0 then ((geom_dot.f bt223.1 bt223.2 bt223.1 bt223.2).bind fun t228 => ((geom_dot.f bt221.1 bt221.2 bt221.1 bt221.2).bind fun t229 => (some (decide (t228 > t229))))) else (some false))))))) = some r := h
 clear h
 by_cases c4 : (a1_0 == a0_0 && (a1_1 == a0_1)) = true
 ·
  rw [if_pos c4] at H
  have c4b0 : (a1_0 == a0_0 && (a1_1 == a0_1)) = true := c4
  (try (have c4b1 : decide (a1_0 = a0_0 && (a1_1 == a0_1)) = true := by simpa using c4))
  (try (have c4b2 : (a1_0 == a0_0 && (a1_1 == a0_1)) = true := by simpa using c4))
  clear c4
  obtain rfl := Option.some.inj H
  go_enter Try.func50, Try.ntmps50
  go_wp2_with (first | ((with_reducible refine gate_dst (N := 3) rfl ?_); refine box_event ?hg (N := 3) ?hd (cs := #[.int .i64 a0_0, .int .i64 a0_1]) (t := 23) ?hr ?_; (case hd => rfl); (case hg => rfl); (case hr => first | (go_simp; done) | (go_simp; rfl)); intro gb218 hg w5 hbox hb; have BK218 := Aside0.mk hbox; have GW218 := mGw HB hg; have GE218 := GW218; replace HB := mSt HB hb; clear hb hbox hg) | ((with_reducible refine gate_dst (N := 4) rfl ?_); refine box_event ?hg (N := 4) ?hd (cs := #[.int .i64 a1_0, .int .i64 a1_1]) (t := 23) ?hr ?_; (case hd => rfl); (case hg => rfl); (case hr => first | (go_simp; done) | (go_simp; rfl)); intro gb219 hg w6 hbox hb; have BK219 := Aside0.mk hbox; have GW219 := mGw HB hg; have GE219 := GW219; replace HB := mSt HB hb; have NB218_219 := mNe BK218 hg; have NB219_218 := mSy NB218_219; replace BK218 := mBb BK218 hb; clear hb hbox hg) | ((with_reducible refine gate_dst (N := 5) rfl ?_); refine box_event ?hg (N := 5) ?hd (cs := #[.int .i64 a2_0, .int .i64 a2_1]) (t := 23) ?hr ?_; (case hd => rfl); (case hg => rfl); (case hr => first | (go_simp; done) | (go_simp; rfl)); intro gb220 hg w7 hbox hb; have BK220 := Aside0.mk hbox; have GW220 := mGw HB hg; have GE220 := GW220; replace HB := mSt HB hb; have NB218_220 := mNe BK218 hg; have NB220_218 := mSy NB218_220; replace BK218 := mBb BK218 hb; have NB219_220 := mNe BK219 hg; have NB220_219 := mSy NB219_220; replace BK219 := mBb BK219 hb; clear hb hbox hg; have hnb8 := NB219_218.out; have hnc8 := NB218_219.out; have hnb9 := NB219_220.out; have hnc9 := NB220_219.out; have hcz10 := blk_cell BK219.out; have hfz10 := blk_frozen BK219.out; have hnb11 := NB218_220.out; have hnc11 := NB220_218.out; have hcz12 := blk_cell BK218.out; have hfz12 := blk_frozen BK218.out; have hcz13 := blk_cell BK220.out; have hfz13 := blk_frozen BK220.out))
  go_ret
  exact ⟨by first | rfl | (simp [errW_none, errW_some] <;> rfl) | (simp [*, errW_none, errW_some] <;> rfl), HB.out⟩
 rw [if_neg c4] at H
 have c4b0 : (a1_0 == a0_0 && (a1_1 == a0_1)) = false := by simpa using c4
 (try (have c4b1 : decide (a1_0 = a0_0 && (a1_1 == a0_1)) = false := by simpa using c4))
 (try (have c4b2 : (a1_0 == a0_0 && (a1_1 == a0_1)) = false := by simpa using c4))
 (try (have c4b3 : ¬ (a1_0 = a0_0 && (a1_1 == a0_1)) := by simpa using c4))
 clear c4
 replace H := Option.bind_eq_some_iff.mp H
 obtain ⟨⟨t221, t222⟩, A140, H⟩ := H
 try dsimp only at H
 have A14 := Aside0.mk A140
 clear A140
 replace H := Option.bind_eq_some_iff.mp H
 obtain ⟨⟨t223, t224⟩, A150, H⟩ := H
 try dsimp only at H
 have A15 := Aside0.mk A150
 clear A150
 replace H := Option.bind_eq_some_iff.mp H
 obtain ⟨t227, A160, H⟩ := H
 try dsimp only at H
 have A16 := Aside0.mk A160
 clear A160
 go_enter Try.func50, Try.ntmps50
 try go_wp2_with (first | ((with_reducible refine gate_dst (N := 3) rfl ?_); refine box_event ?hg (N := 3) ?hd (cs := #[.int .i64 a0_0, .int .i64 a0_1]) (t := 23) ?hr ?_; (case hd => rfl); (case hg => rfl); (case hr => first | (go_simp; done) | (go_simp; rfl)); intro gb218 hg w18 hbox hb; have BK218 := Aside0.mk hbox; have GW218 := mGw HB hg; have GE218 := GW218; replace HB := mSt HB hb; clear hb hbox hg) | ((with_reducible refine gate_dst (N := 4) rfl ?_); refine box_event ?hg (N := 4) ?hd (cs := #[.int .i64 a1_0, .int .i64 a1_1]) (t := 23) ?hr ?_; (case hd => rfl); (case hg => rfl); (case hr => first | (go_simp; done) | (go_simp; rfl)); intro gb219 hg w19 hbox hb; have BK219 := Aside0.mk hbox; have GW219 := mGw HB hg; have GE219 := GW219; replace HB := mSt HB hb; have NB218_219 := mNe BK218 hg; have NB219_218 := mSy NB218_219; replace BK218 := mBb BK218 hb; clear hb hbox hg) | ((with_reducible refine gate_dst (N := 5) rfl ?_); refine box_event ?hg (N := 5) ?hd (cs := #[.int .i64 a2_0, .int .i64 a2_1]) (t := 23) ?hr ?_; (case hd => rfl); (case hg => rfl); (case hr => first | (go_simp; done) | (go_simp; rfl)); intro gb220 hg w20 hbox hb; have BK220 := Aside0.mk hbox; have GW220 := mGw HB hg; have GE220 := GW220; replace HB := mSt HB hb; have NB218_220 := mNe BK218 hg; have NB220_218 := mSy NB218_220; replace BK218 := mBb BK218 hb; have NB219_220 := mNe BK219 hg; have NB220_219 := mSy NB219_220; replace BK219 := mBb BK219 hb; clear hb hbox hg; have hnb21 := NB219_218.out; have hnc21 := NB218_219.out; have hnb22 := NB219_220.out; have hnc22 := NB220_219.out; have hcz23 := blk_cell BK219.out; have hfz23 := blk_frozen BK219.out; have hnb24 := NB218_220.out; have hnc24 := NB220_218.out; have hcz25 := blk_cell BK218.out; have hfz25 := blk_frozen BK218.out))
 replace BK218 := Aside0.mk (blk_drew BK218.out); replace BK219 := Aside0.mk (blk_drew BK219.out); replace BK220 := Aside0.mk (blk_drew BK220.out); replace HB := Aside0.mk (below_drew1 HB.out)
 refine start_ (n := 10) (S := fun w' => w'.cell? ⟨gb219, 0, none⟩ = some (.int .i64 a1_0) ∧ w'.cell? ⟨gb219, 1, none⟩ = some (.int .i64 a1_1) ∧ w'.cell? ⟨gb218, 0, none⟩ = some (.int .i64 a0_0) ∧ w'.cell? ⟨gb218, 1, none⟩ = some (.int .i64 a0_1) ∧ w'.cell? ⟨gb220, 0, none⟩ = some (.int .i64 a2_0) ∧ w'.cell? ⟨gb220, 1, none⟩ = some (.int .i64 a2_1)) (ds := []) #[false, false, false, false, false, false, false, false, false, false] (by kernel_rfl) rfl rfl ⟨(blk_cell BK219.out 0).trans rfl, (blk_cell BK219.out 1).trans rfl, (blk_cell BK218.out 0).trans rfl, (blk_cell BK218.out 1).trans rfl, (blk_cell BK220.out 0).trans rfl, (blk_cell BK220.out 1).trans rfl⟩ (fun hHeld => ?_); refine with_tabW geom_hull_fn1.tab3 geom_hull_fn1.bits3 (fun HT_ HW_ => ?_)
 generalize w20.drew = w26 at BK218 BK219 BK220 HB hHeld ⊢
 refine take_ (i := 0) (N := some 16) (v := ?_) (a' := ?_) #[true, false, false, false, false, false, false, false, false, false] rfl rfl (take_ofW HT_.out HW_.out (by kernel_rfl)) (fun _ _ _ h => h) (Or.inl ⟨by rfl, ?_⟩) hHeld ?_ ?_
 rotate_left
 ·
  rintro w' ⟨s0, s1, s2, s3, s4, s5⟩
  go_simp
  with_reducible rfl
 rotate_left
 ·
  simp only [Act.put, List.setIfInBounds_toArray, List.set_cons_zero, List.set_cons_succ, i64_w, i32_w]
  rfl
 refine take_ (i := 1) (N := some 17) (v := ?_) (a' := ?_) #[true, true, false, false, false, false, false, false, false, false] rfl rfl (take_ofW HT_.out HW_.out (by kernel_rfl)) (fun _ _ _ h => h) (Or.inl ⟨by rfl, ?_⟩) hHeld ?_ ?_
 rotate_left
 ·
  rintro w' ⟨s0, s1, s2, s3, s4, s5⟩
  go_simp
  with_reducible rfl
 rotate_left
 ·
  simp only [Act.put, List.setIfInBounds_toArray, List.set_cons_zero, List.set_cons_succ, i64_w, i32_w]
  rfl
 refine take_ (i := 3) (N := some 19) (v := ?_) (a' := ?_) #[true, true, false, true, false, false, false, false, false, false] rfl rfl (take_ofW HT_.out HW_.out (by kernel_rfl)) (fun _ _ _ h => h) (Or.inl ⟨by rfl, ?_⟩) hHeld ?_ ?_
 rotate_left
 ·
  rintro w' ⟨s0, s1, s2, s3, s4, s5⟩
  go_simp
  with_reducible rfl
 rotate_left
 ·
  simp only [Act.put, List.setIfInBounds_toArray, List.set_cons_zero, List.set_cons_succ, i64_w, i32_w]
  rfl
 refine take_ (i := 4) (N := some 20) (v := ?_) (a' := ?_) #[true, true, false, true, true, false, false, false, false, false] rfl rfl (take_ofW HT_.out HW_.out (by kernel_rfl)) (fun _ _ _ h => h) (Or.inl ⟨by rfl, ?_⟩) hHeld ?_ ?_
 rotate_left
 ·
  rintro w' ⟨s0, s1, s2, s3, s4, s5⟩
  go_simp
  with_reducible rfl
 rotate_left
 ·
  simp only [Act.put, List.setIfInBounds_toArray, List.set_cons_zero, List.set_cons_succ, i64_w, i32_w]
  rfl
 refine join_ (σ := Nat × Nat) 2 #[true, true, true, true, true, true, true, true, false, false] (fun s_ => [(18, .agg #[.int .i64 t221, .int .i64 t222]), (21, .agg #[.int .i64 t223, .int .i64 t224]), (7, .pointer (some ⟨s_.1, 0, none⟩)), (8, .pointer (some ⟨s_.2, 0, none⟩))]) (fun s_ w' => (w'.cell? ⟨gb219, 0, none⟩ = some (.int .i64 a1_0) ∧ w'.cell? ⟨gb219, 1, none⟩ = some (.int .i64 a1_1) ∧ w'.cell? ⟨gb218, 0, none⟩ = some (.int .i64 a0_0) ∧ w'.cell? ⟨gb218, 1, none⟩ = some (.int .i64 a0_1) ∧ w'.cell? ⟨gb220, 0, none⟩ = some (.int .i64 a2_0) ∧ w'.cell? ⟨gb220, 1, none⟩ = some (.int .i64 a2_1)) ∧ (w'.heap[gb218]? = some (.cells #[.int .i64 a0_0, .int .i64 a0_1] 23 (0, 0))) ∧ (w'.heap[gb219]? = some (.cells #[.int .i64 a1_0, .int .i64 a1_1] 23 (0, 0))) ∧ (w'.heap[gb220]? = some (.cells #[.int .i64 a2_0, .int .i64 a2_1] 23 (0, 0))) ∧ (w'.heap[s_.1]? = some (.cells #[.int .i64 0, .int .i64 0] 23 (0, 0))) ∧ (w'.heap[s_.2]? = some (.cells #[.int .i64 0, .int .i64 0] 23 (0, 0))) ∧ (w.heap.size ≤ s_.1) ∧ (w.heap.size ≤ s_.1) ∧ (gb218 ≠ s_.1) ∧ (s_.1 ≠ gb218) ∧ (gb219 ≠ s_.1) ∧ (s_.1 ≠ gb219) ∧ (gb220 ≠ s_.1) ∧ (s_.1 ≠ gb220) ∧ (s_.2 ≠ s_.1) ∧ (s_.1 ≠ s_.2) ∧ (w.heap.size ≤ s_.2) ∧ (w.heap.size ≤ s_.2) ∧ (gb218 ≠ s_.2) ∧ (s_.2 ≠ gb218) ∧ (gb219 ≠ s_.2) ∧ (s_.2 ≠ gb219) ∧ (gb220 ≠ s_.2) ∧ (s_.2 ≠ gb220) ∧ (Below w.heap.size w w')) ?_ ?_
 rotate_left
 ·
  intro hJ2_5_6_7
  refine join_ (σ := Nat) 3 #[true, true, true, true, true, true, true, false, false, false] (fun s_ => [(18, .agg #[.int .i64 t221, .int .i64 t222]), (21, .agg #[.int .i64 t223, .int .i64 t224]), (7, .pointer (some ⟨s_, 0, none⟩))]) (fun s_ w' => (w'.cell? ⟨gb219, 0, none⟩ = some (.int .i64 a1_0) ∧ w'.cell? ⟨gb219, 1, none⟩ = some (.int .i64 a1_1) ∧ w'.cell? ⟨gb218, 0, none⟩ = some (.int .i64 a0_0) ∧ w'.cell? ⟨gb218, 1, none⟩ = some (.int .i64 a0_1) ∧ w'.cell? ⟨gb220, 0, none⟩ = some (.int .i64 a2_0) ∧ w'.cell? ⟨gb220, 1, none⟩ = some (.int .i64 a2_1)) ∧ (w'.heap[gb218]? = some (.cells #[.int .i64 a0_0, .int .i64 a0_1] 23 (0, 0))) ∧ (w'.heap[gb219]? = some (.cells #[.int .i64 a1_0, .int .i64 a1_1] 23 (0, 0))) ∧ (w'.heap[gb220]? = some (.cells #[.int .i64 a2_0, .int .i64 a2_1] 23 (0, 0))) ∧ (w'.heap[s_]? = some (.cells #[.int .i64 0, .int .i64 0] 23 (0, 0))) ∧ (w.heap.size ≤ s_) ∧ (w.heap.size ≤ s_) ∧ (gb218 ≠ s_) ∧ (s_ ≠ gb218) ∧ (gb219 ≠ s_) ∧ (s_ ≠ gb219) ∧ (gb220 ≠ s_) ∧ (s_ ≠ gb220) ∧ (Below w.heap.size w w')) ?_ ?_
  rotate_left
  ·
   intro hJ2_5_6
   refine join_ (σ := Nat) 3 #[true, true, true, true, true, true, false, true, false, false] (fun s_ => [(18, .agg #[.int .i64 t221, .int .i64 t222]), (21, .agg #[.int .i64 t223, .int .i64 t224]), (8, .pointer (some ⟨s_, 0, none⟩))]) (fun s_ w' => (w'.cell? ⟨gb219, 0, none⟩ = some (.int .i64 a1_0) ∧ w'.cell? ⟨gb219, 1, none⟩ = some (.int .i64 a1_1) ∧ w'.cell? ⟨gb218, 0, none⟩ = some (.int .i64 a0_0) ∧ w'.cell? ⟨gb218, 1, none⟩ = some (.int .i64 a0_1) ∧ w'.cell? ⟨gb220, 0, none⟩ = some (.int .i64 a2_0) ∧ w'.cell? ⟨gb220, 1, none⟩ = some (.int .i64 a2_1)) ∧ (w'.heap[gb218]? = some (.cells #[.int .i64 a0_0, .int .i64 a0_1] 23 (0, 0))) ∧ (w'.heap[gb219]? = some (.cells #[.int .i64 a1_0, .int .i64 a1_1] 23 (0, 0))) ∧ (w'.heap[gb220]? = some (.cells #[.int .i64 a2_0, .int .i64 a2_1] 23 (0, 0))) ∧ (w'.heap[s_]? = some (.cells #[.int .i64 0, .int .i64 0] 23 (0, 0))) ∧ (w.heap.size ≤ s_) ∧ (w.heap.size ≤ s_) ∧ (gb218 ≠ s_) ∧ (s_ ≠ gb218) ∧ (gb219 ≠ s_) ∧ (s_ ≠ gb219) ∧ (gb220 ≠ s_) ∧ (s_ ≠ gb220) ∧ (Below w.heap.size w w')) ?_ ?_
   rotate_left
   ·
    intro hJ2_5_7
    refine join_ (σ := Nat × Nat) 3 #[true, true, true, true, true, false, true, true, false, false] (fun s_ => [(18, .agg #[.int .i64 t221, .int .i64 t222]), (7, .pointer (some ⟨s_.1, 0, none⟩)), (8, .pointer (some ⟨s_.2, 0, none⟩))]) (fun s_ w' => (w'.cell? ⟨gb219, 0, none⟩ = some (.int .i64 a1_0) ∧ w'.cell? ⟨gb219, 1, none⟩ = some (.int .i64 a1_1) ∧ w'.cell? ⟨gb218, 0, none⟩ = some (.int .i64 a0_0) ∧ w'.cell? ⟨gb218, 1, none⟩ = some (.int .i64 a0_1) ∧ w'.cell? ⟨gb220, 0, none⟩ = some (.int .i64 a2_0) ∧ w'.cell? ⟨gb220, 1, none⟩ = some (.int .i64 a2_1)) ∧ (w'.heap[gb218]? = some (.cells #[.int .i64 a0_0, .int .i64 a0_1] 23 (0, 0))) ∧ (w'.heap[gb219]? = some (.cells #[.int .i64 a1_0, .int .i64 a1_1] 23 (0, 0))) ∧ (w'.heap[gb220]? = some (.cells #[.int .i64 a2_0, .int .i64 a2_1] 23 (0, 0))) ∧ (w'.heap[s_.1]? = some (.cells #[.int .i64 0, .int .i64 0] 23 (0, 0))) ∧ (w'.heap[s_.2]? = some (.cells #[.int .i64 0, .int .i64 0] 23 (0, 0))) ∧ (w.heap.size ≤ s_.1) ∧ (w.heap.size ≤ s_.1) ∧ (gb218 ≠ s_.1) ∧ (s_.1 ≠ gb218) ∧ (gb219 ≠ s_.1) ∧ (s_.1 ≠ gb219) ∧ (gb220 ≠ s_.1) ∧ (s_.1 ≠ gb220) ∧ (s_.2 ≠ s_.1) ∧ (s_.1 ≠ s_.2) ∧ (w.heap.size ≤ s_.2) ∧ (w.heap.size ≤ s_.2) ∧ (gb218 ≠ s_.2) ∧ (s_.2 ≠ gb218) ∧ (gb219 ≠ s_.2) ∧ (s_.2 ≠ gb219) ∧ (gb220 ≠ s_.2) ∧ (s_.2 ≠ gb220) ∧ (Below w.heap.size w w')) ?_ ?_
    rotate_left
    ·
     intro hJ2_6_7
     refine join_ (σ := Unit) 4 #[true, true, true, true, true, true, false, false, false, false] (fun s_ => [(18, .agg #[.int .i64 t221, .int .i64 t222]), (21, .agg #[.int .i64 t223, .int .i64 t224])]) (fun s_ w' => (w'.cell? ⟨gb219, 0, none⟩ = some (.int .i64 a1_0) ∧ w'.cell? ⟨gb219, 1, none⟩ = some (.int .i64 a1_1) ∧ w'.cell? ⟨gb218, 0, none⟩ = some (.int .i64 a0_0) ∧ w'.cell? ⟨gb218, 1, none⟩ = some (.int .i64 a0_1) ∧ w'.cell? ⟨gb220, 0, none⟩ = some (.int .i64 a2_0) ∧ w'.cell? ⟨gb220, 1, none⟩ = some (.int .i64 a2_1)) ∧ (w'.heap[gb218]? = some (.cells #[.int .i64 a0_0, .int .i64 a0_1] 23 (0, 0))) ∧ (w'.heap[gb219]? = some (.cells #[.int .i64 a1_0, .int .i64 a1_1] 23 (0, 0))) ∧ (w'.heap[gb220]? = some (.cells #[.int .i64 a2_0, .int .i64 a2_1] 23 (0, 0))) ∧ (Below w.heap.size w w')) ?_ ?_
     rotate_left
     ·
      intro hJ2_5
      refine join_ (σ := Nat) 4 #[true, true, true, true, true, false, true, false, false, false] (fun s_ => [(18, .agg #[.int .i64 t221, .int .i64 t222]), (7, .pointer (some ⟨s_, 0, none⟩))]) (fun s_ w' => (w'.cell? ⟨gb219, 0, none⟩ = some (.int .i64 a1_0) ∧ w'.cell? ⟨gb219, 1, none⟩ = some (.int .i64 a1_1) ∧ w'.cell? ⟨gb218, 0, none⟩ = some (.int .i64 a0_0) ∧ w'.cell? ⟨gb218, 1, none⟩ = some (.int .i64 a0_1) ∧ w'.cell? ⟨gb220, 0, none⟩ = some (.int .i64 a2_0) ∧ w'.cell? ⟨gb220, 1, none⟩ = some (.int .i64 a2_1)) ∧ (w'.heap[gb218]? = some (.cells #[.int .i64 a0_0, .int .i64 a0_1] 23 (0, 0))) ∧ (w'.heap[gb219]? = some (.cells #[.int .i64 a1_0, .int .i64 a1_1] 23 (0, 0))) ∧ (w'.heap[gb220]? = some (.cells #[.int .i64 a2_0, .int .i64 a2_1] 23 (0, 0))) ∧ (w'.heap[s_]? = some (.cells #[.int .i64 0, .int .i64 0] 23 (0, 0))) ∧ (w.heap.size ≤ s_) ∧ (w.heap.size ≤ s_) ∧ (gb218 ≠ s_) ∧ (s_ ≠ gb218) ∧ (gb219 ≠ s_) ∧ (s_ ≠ gb219) ∧ (gb220 ≠ s_) ∧ (s_ ≠ gb220) ∧ (Below w.heap.size w w')) ?_ ?_
      rotate_left
      ·
       intro hJ2_6
       refine join_ (σ := Nat) 4 #[true, true, true, true, true, false, false, true, false, false] (fun s_ => [(18, .agg #[.int .i64 t221, .int .i64 t222]), (8, .pointer (some ⟨s_, 0, none⟩))]) (fun s_ w' => (w'.cell? ⟨gb219, 0, none⟩ = some (.int .i64 a1_0) ∧ w'.cell? ⟨gb219, 1, none⟩ = some (.int .i64 a1_1) ∧ w'.cell? ⟨gb218, 0, none⟩ = some (.int .i64 a0_0) ∧ w'.cell? ⟨gb218, 1, none⟩ = some (.int .i64 a0_1) ∧ w'.cell? ⟨gb220, 0, none⟩ = some (.int .i64 a2_0) ∧ w'.cell? ⟨gb220, 1, none⟩ = some (.int .i64 a2_1)) ∧ (w'.heap[gb218]? = some (.cells #[.int .i64 a0_0, .int .i64 a0_1] 23 (0, 0))) ∧ (w'.heap[gb219]? = some (.cells #[.int .i64 a1_0, .int .i64 a1_1] 23 (0, 0))) ∧ (w'.heap[gb220]? = some (.cells #[.int .i64 a2_0, .int .i64 a2_1] 23 (0, 0))) ∧ (w'.heap[s_]? = some (.cells #[.int .i64 0, .int .i64 0] 23 (0, 0))) ∧ (w.heap.size ≤ s_) ∧ (w.heap.size ≤ s_) ∧ (gb218 ≠ s_) ∧ (s_ ≠ gb218) ∧ (gb219 ≠ s_) ∧ (s_ ≠ gb219) ∧ (gb220 ≠ s_) ∧ (s_ ≠ gb220) ∧ (Below w.heap.size w w')) ?_ ?_
       rotate_left
       ·
        intro hJ2_7
        refine join_ (σ := Nat × Nat) 4 #[true, true, false, true, true, false, true, true, false, false] (fun s_ => [(7, .pointer (some ⟨s_.1, 0, none⟩)), (8, .pointer (some ⟨s_.2, 0, none⟩))]) (fun s_ w' => (w'.cell? ⟨gb219, 0, none⟩ = some (.int .i64 a1_0) ∧ w'.cell? ⟨gb219, 1, none⟩ = some (.int .i64 a1_1) ∧ w'.cell? ⟨gb218, 0, none⟩ = some (.int .i64 a0_0) ∧ w'.cell? ⟨gb218, 1, none⟩ = some (.int .i64 a0_1) ∧ w'.cell? ⟨gb220, 0, none⟩ = some (.int .i64 a2_0) ∧ w'.cell? ⟨gb220, 1, none⟩ = some (.int .i64 a2_1)) ∧ (w'.heap[gb218]? = some (.cells #[.int .i64 a0_0, .int .i64 a0_1] 23 (0, 0))) ∧ (w'.heap[gb219]? = some (.cells #[.int .i64 a1_0, .int .i64 a1_1] 23 (0, 0))) ∧ (w'.heap[gb220]? = some (.cells #[.int .i64 a2_0, .int .i64 a2_1] 23 (0, 0))) ∧ (w'.heap[s_.1]? = some (.cells #[.int .i64 0, .int .i64 0] 23 (0, 0))) ∧ (w'.heap[s_.2]? = some (.cells #[.int .i64 0, .int .i64 0] 23 (0, 0))) ∧ (w.heap.size ≤ s_.1) ∧ (w.heap.size ≤ s_.1) ∧ (gb218 ≠ s_.1) ∧ (s_.1 ≠ gb218) ∧ (gb219 ≠ s_.1) ∧ (s_.1 ≠ gb219) ∧ (gb220 ≠ s_.1) ∧ (s_.1 ≠ gb220) ∧ (s_.2 ≠ s_.1) ∧ (s_.1 ≠ s_.2) ∧ (w.heap.size ≤ s_.2) ∧ (w.heap.size ≤ s_.2) ∧ (gb218 ≠ s_.2) ∧ (s_.2 ≠ gb218) ∧ (gb219 ≠ s_.2) ∧ (s_.2 ≠ gb219) ∧ (gb220 ≠ s_.2) ∧ (s_.2 ≠ gb220) ∧ (Below w.heap.size w w')) ?_ ?_
        rotate_left
        ·
         intro hJ6_7
         refine join_ (σ := Unit) 5 #[true, true, true, true, true, false, false, false, false, false] (fun s_ => [(18, .agg #[.int .i64 t221, .int .i64 t222])]) (fun s_ w' => (w'.cell? ⟨gb219, 0, none⟩ = some (.int .i64 a1_0) ∧ w'.cell? ⟨gb219, 1, none⟩ = some (.int .i64 a1_1) ∧ w'.cell? ⟨gb218, 0, none⟩ = some (.int .i64 a0_0) ∧ w'.cell? ⟨gb218, 1, none⟩ = some (.int .i64 a0_1) ∧ w'.cell? ⟨gb220, 0, none⟩ = some (.int .i64 a2_0) ∧ w'.cell? ⟨gb220, 1, none⟩ = some (.int .i64 a2_1)) ∧ (w'.heap[gb218]? = some (.cells #[.int .i64 a0_0, .int .i64 a0_1] 23 (0, 0))) ∧ (w'.heap[gb219]? = some (.cells #[.int .i64 a1_0, .int .i64 a1_1] 23 (0, 0))) ∧ (w'.heap[gb220]? = some (.cells #[.int .i64 a2_0, .int .i64 a2_1] 23 (0, 0))) ∧ (Below w.heap.size w w')) ?_ ?_
         rotate_left
         ·
          intro hJ2
          refine join_ (σ := Nat) 5 #[true, true, false, true, true, false, true, false, false, false] (fun s_ => [(7, .pointer (some ⟨s_, 0, none⟩))]) (fun s_ w' => (w'.cell? ⟨gb219, 0, none⟩ = some (.int .i64 a1_0) ∧ w'.cell? ⟨gb219, 1, none⟩ = some (.int .i64 a1_1) ∧ w'.cell? ⟨gb218, 0, none⟩ = some (.int .i64 a0_0) ∧ w'.cell? ⟨gb218, 1, none⟩ = some (.int .i64 a0_1) ∧ w'.cell? ⟨gb220, 0, none⟩ = some (.int .i64 a2_0) ∧ w'.cell? ⟨gb220, 1, none⟩ = some (.int .i64 a2_1)) ∧ (w'.heap[gb218]? = some (.cells #[.int .i64 a0_0, .int .i64 a0_1] 23 (0, 0))) ∧ (w'.heap[gb219]? = some (.cells #[.int .i64 a1_0, .int .i64 a1_1] 23 (0, 0))) ∧ (w'.heap[gb220]? = some (.cells #[.int .i64 a2_0, .int .i64 a2_1] 23 (0, 0))) ∧ (w'.heap[s_]? = some (.cells #[.int .i64 0, .int .i64 0] 23 (0, 0))) ∧ (w.heap.size ≤ s_) ∧ (w.heap.size ≤ s_) ∧ (gb218 ≠ s_) ∧ (s_ ≠ gb218) ∧ (gb219 ≠ s_) ∧ (s_ ≠ gb219) ∧ (gb220 ≠ s_) ∧ (s_ ≠ gb220) ∧ (Below w.heap.size w w')) ?_ ?_
          rotate_left
          ·
           intro hJ6
           refine join_ (σ := Nat) 5 #[true, true, false, true, true, false, false, true, false, false] (fun s_ => [(8, .pointer (some ⟨s_, 0, none⟩))]) (fun s_ w' => (w'.cell? ⟨gb219, 0, none⟩ = some (.int .i64 a1_0) ∧ w'.cell? ⟨gb219, 1, none⟩ = some (.int .i64 a1_1) ∧ w'.cell? ⟨gb218, 0, none⟩ = some (.int .i64 a0_0) ∧ w'.cell? ⟨gb218, 1, none⟩ = some (.int .i64 a0_1) ∧ w'.cell? ⟨gb220, 0, none⟩ = some (.int .i64 a2_0) ∧ w'.cell? ⟨gb220, 1, none⟩ = some (.int .i64 a2_1)) ∧ (w'.heap[gb218]? = some (.cells #[.int .i64 a0_0, .int .i64 a0_1] 23 (0, 0))) ∧ (w'.heap[gb219]? = some (.cells #[.int .i64 a1_0, .int .i64 a1_1] 23 (0, 0))) ∧ (w'.heap[gb220]? = some (.cells #[.int .i64 a2_0, .int .i64 a2_1] 23 (0, 0))) ∧ (w'.heap[s_]? = some (.cells #[.int .i64 0, .int .i64 0] 23 (0, 0))) ∧ (w.heap.size ≤ s_) ∧ (w.heap.size ≤ s_) ∧ (gb218 ≠ s_) ∧ (s_ ≠ gb218) ∧ (gb219 ≠ s_) ∧ (s_ ≠ gb219) ∧ (gb220 ≠ s_) ∧ (s_ ≠ gb220) ∧ (Below w.heap.size w w')) ?_ ?_
           rotate_left
           ·
            intro hJ7
            refine three_ (i := 2) (j := 6) (k := 7) (Ni := some 18) (Nj := some 7) (Nk := some 8) #[true, true, true, true, true, false, false, false, false, false] #[true, true, false, true, true, false, true, false, false, false] #[true, true, false, true, true, false, false, true, false, false] rfl rfl rfl rfl rfl rfl (three_of HT_.out (by kernel_rfl)) (by decide) (by decide) (by decide) (fun K hK => ?_) (fun K hK => ?_) (fun K hK => ?_)
            ·
             skip
             refine goes_ Try.func29 (by kernel_rfl) rfl #[.agg #[.int .i64 a1_0, .int .i64 a1_1], .agg #[.int .i64 a0_0, .int .i64 a0_1]] (by rfl) rfl rfl (by (try simp only [List.map_toArray, List.map_cons, List.map_nil]); first | done | rfl | (simp only [List.length_drop, List.length_take]; rfl)) ?_
             with_reducible refine (geom_minus.calls a1_0 a1_1 a0_0 a0_1 t221 t222 _ A14.out).mono ?_
             rintro e w27 ⟨rfl, hb⟩
             refine ⟨_, rfl, ?_⟩
             replace BK218 := mBb BK218 hb; replace BK219 := mBb BK219 hb; replace BK220 := mBb BK220 hb; replace HB := mSt HB hb
             (try clear hb)
             (try clear hb2)
             (try clear hk)
             (try clear hi)
             refine hK.out _ _ ⟨blk_cell BK219.out 0, blk_cell BK219.out 1, blk_cell BK218.out 0, blk_cell BK218.out 1, blk_cell BK220.out 0, blk_cell BK220.out 1⟩ (fun hHeld => ?_)
             clear hK K
             refine norm_ (a' := ?_) ?_ ?_
             rotate_left
             ·
              show Act.put _ (some 18) _ = _
              simp only [Act.put, List.setIfInBounds_toArray, List.set_cons_zero, List.set_cons_succ, i64_w, i32_w]
              rfl
             exact norm_ (by simp only [putAll, Act.put, List.setIfInBounds_toArray, List.set_cons_zero, List.set_cons_succ] <;> rfl) (hJ2 () _ ⟨hHeld, BK218.out, BK219.out, BK220.out, HB.out⟩)
            ·
             skip
             refine box_step ?hg (N := 7) ?hd (cs := #[.int .i64 0, .int .i64 0]) (t := 23) ?hr ?_; (case hd => rfl); (case hg => rfl); (case hr => first | (go_simp; done) | (go_simp; rfl))
             intro gb225 hg w27 hbox hb
             have BK225 := Aside0.mk hbox; have GW225 := mGw HB hg; have GE225 := GW225; replace HB := mSt HB hb; have NB218_225 := mNe BK218 hg; have NB225_218 := mSy NB218_225; replace BK218 := mBb BK218 hb; have NB219_225 := mNe BK219 hg; have NB225_219 := mSy NB219_225; replace BK219 := mBb BK219 hb; have NB220_225 := mNe BK220 hg; have NB225_220 := mSy NB220_225; replace BK220 := mBb BK220 hb
             clear hb hbox hg
             refine hK.out _ _ ⟨blk_cell BK219.out 0, blk_cell BK219.out 1, blk_cell BK218.out 0, blk_cell BK218.out 1, blk_cell BK220.out 0, blk_cell BK220.out 1⟩ (fun hHeld => ?_)
             clear hK K
             refine norm_ (a' := ?_) ?_ ?_
             rotate_left
             ·
              show Act.put _ (some 7) _ = _
              simp only [Act.put, List.setIfInBounds_toArray, List.set_cons_zero, List.set_cons_succ, i64_w, i32_w]
              rfl
             exact norm_ (by simp only [putAll, Act.put, List.setIfInBounds_toArray, List.set_cons_zero, List.set_cons_succ] <;> rfl) (hJ6 (gb225) _ ⟨hHeld, BK218.out, BK219.out, BK220.out, BK225.out, GW225.out, GE225.out, NB218_225.out, NB225_218.out, NB219_225.out, NB225_219.out, NB220_225.out, NB225_220.out, HB.out⟩)
            ·
             skip
             refine box_step ?hg (N := 8) ?hd (cs := #[.int .i64 0, .int .i64 0]) (t := 23) ?hr ?_; (case hd => rfl); (case hg => rfl); (case hr => first | (go_simp; done) | (go_simp; rfl))
             intro gb226 hg w27 hbox hb
             have BK226 := Aside0.mk hbox; have GW226 := mGw HB hg; have GE226 := GW226; replace HB := mSt HB hb; have NB218_226 := mNe BK218 hg; have NB226_218 := mSy NB218_226; replace BK218 := mBb BK218 hb; have NB219_226 := mNe BK219 hg; have NB226_219 := mSy NB219_226; replace BK219 := mBb BK219 hb; have NB220_226 := mNe BK220 hg; have NB226_220 := mSy NB220_226; replace BK220 := mBb BK220 hb
             clear hb hbox hg
             refine hK.out _ _ ⟨blk_cell BK219.out 0, blk_cell BK219.out 1, blk_cell BK218.out 0, blk_cell BK218.out 1, blk_cell BK220.out 0, blk_cell BK220.out 1⟩ (fun hHeld => ?_)
             clear hK K
             refine norm_ (a' := ?_) ?_ ?_
             rotate_left
             ·
              show Act.put _ (some 8) _ = _
              simp only [Act.put, List.setIfInBounds_toArray, List.set_cons_zero, List.set_cons_succ, i64_w, i32_w]
              rfl
             exact norm_ (by simp only [putAll, Act.put, List.setIfInBounds_toArray, List.set_cons_zero, List.set_cons_succ] <;> rfl) (hJ7 (gb226) _ ⟨hHeld, BK218.out, BK219.out, BK220.out, BK226.out, GW226.out, GE226.out, NB218_226.out, NB226_218.out, NB219_226.out, NB226_219.out, NB220_226.out, NB226_220.out, HB.out⟩)
           ·
            skip
            rintro gb226 w28 ⟨hS_, h0_, h1_, h2_, h3_, h4_, h5_, h6_, h7_, h8_, h9_, h10_, h11_, h12_⟩
            have n0_ := Aside0.mk h0_
            have n1_ := Aside0.mk h1_
            have n2_ := Aside0.mk h2_
            have n3_ := Aside0.mk h3_
            have n4_ := Aside0.mk h4_
            have n5_ := Aside0.mk h5_
            have n6_ := Aside0.mk h6_
            have n7_ := Aside0.mk h7_
            have n8_ := Aside0.mk h8_
            have n9_ := Aside0.mk h9_
            have n10_ := Aside0.mk h10_
            have n11_ := Aside0.mk h11_
            have n12_ := Aside0.mk h12_
            clear BK218; clear BK219; clear BK220; clear HB
            clear h0_ h1_ h2_ h3_ h4_ h5_ h6_ h7_ h8_ h9_ h10_ h11_ h12_
            have BK218 := n0_
            have BK219 := n1_
            have BK220 := n2_
            have BK226 := n3_
            have GW226 := n4_
            have GE226 := n5_
            have NB218_226 := n6_
            have NB226_218 := n7_
            have NB219_226 := n8_
            have NB226_219 := n9_
            have NB220_226 := n10_
            have NB226_220 := n11_
            have HB := n12_
            clear n0_ n1_ n2_ n3_ n4_ n5_ n6_ n7_ n8_ n9_ n10_ n11_ n12_
            have hHeld : w28.cell? ⟨gb219, 0, none⟩ = some (.int .i64 a1_0) ∧ w28.cell? ⟨gb219, 1, none⟩ = some (.int .i64 a1_1) ∧ w28.cell? ⟨gb218, 0, none⟩ = some (.int .i64 a0_0) ∧ w28.cell? ⟨gb218, 1, none⟩ = some (.int .i64 a0_1) ∧ w28.cell? ⟨gb220, 0, none⟩ = some (.int .i64 a2_0) ∧ w28.cell? ⟨gb220, 1, none⟩ = some (.int .i64 a2_1) := hS_
            refine norm_ (a' := ?_) ?_ ?_
            rotate_left
            ·
             simp only [putAll, Act.put, List.setIfInBounds_toArray, List.set_cons_zero, List.set_cons_succ]
             rfl
            refine two_ (i := 2) (j := 6) (Ni := some 18) (Nj := some 7) #[true, true, true, true, true, false, false, true, false, false] #[true, true, false, true, true, false, true, true, false, false] rfl rfl rfl rfl (two_of HT_.out (by kernel_rfl)) (by decide) (by decide) (fun K hK => ?_) (fun K hK => ?_)
            ·
             skip
             refine goes_ Try.func29 (by kernel_rfl) rfl #[.agg #[.int .i64 a1_0, .int .i64 a1_1], .agg #[.int .i64 a0_0, .int .i64 a0_1]] (by rfl) rfl rfl (by (try simp only [List.map_toArray, List.map_cons, List.map_nil]); first | done | rfl | (simp only [List.length_drop, List.length_take]; rfl)) ?_
             with_reducible refine (geom_minus.calls a1_0 a1_1 a0_0 a0_1 t221 t222 _ A14.out).mono ?_
             rintro e w29 ⟨rfl, hb⟩
             refine ⟨_, rfl, ?_⟩
             replace BK218 := mBb BK218 hb; replace BK219 := mBb BK219 hb; replace BK220 := mBb BK220 hb; replace BK226 := mBb BK226 hb; replace HB := mSt HB hb
             (try clear hb)
             (try clear hb2)
             (try clear hk)
             (try clear hi)
             refine hK.out _ _ ⟨blk_cell BK219.out 0, blk_cell BK219.out 1, blk_cell BK218.out 0, blk_cell BK218.out 1, blk_cell BK220.out 0, blk_cell BK220.out 1⟩ (fun hHeld => ?_)
             clear hK K
             refine norm_ (a' := ?_) ?_ ?_
             rotate_left
             ·
              show Act.put _ (some 18) _ = _
              simp only [Act.put, List.setIfInBounds_toArray, List.set_cons_zero, List.set_cons_succ, i64_w, i32_w]
              rfl
             exact norm_ (by simp only [putAll, Act.put, List.setIfInBounds_toArray, List.set_cons_zero, List.set_cons_succ] <;> rfl) (hJ2_7 (gb226) _ ⟨hHeld, BK218.out, BK219.out, BK220.out, BK226.out, GW226.out, GE226.out, NB218_226.out, NB226_218.out, NB219_226.out, NB226_219.out, NB220_226.out, NB226_220.out, HB.out⟩)
            ·
             skip
             refine box_step ?hg (N := 7) ?hd (cs := #[.int .i64 0, .int .i64 0]) (t := 23) ?hr ?_; (case hd => rfl); (case hg => rfl); (case hr => first | (go_simp; done) | (go_simp; rfl))
             intro gb225 hg w29 hbox hb
             have BK225 := Aside0.mk hbox; have GW225 := mGw HB hg; have GE225 := GW225; replace HB := mSt HB hb; have NB218_225 := mNe BK218 hg; have NB225_218 := mSy NB218_225; replace BK218 := mBb BK218 hb; have NB219_225 := mNe BK219 hg; have NB225_219 := mSy NB219_225; replace BK219 := mBb BK219 hb; have NB220_225 := mNe BK220 hg; have NB225_220 := mSy NB220_225; replace BK220 := mBb BK220 hb; have NB226_225 := mNe BK226 hg; have NB225_226 := mSy NB226_225; replace BK226 := mBb BK226 hb
             clear hb hbox hg
             refine hK.out _ _ ⟨blk_cell BK219.out 0, blk_cell BK219.out 1, blk_cell BK218.out 0, blk_cell BK218.out 1, blk_cell BK220.out 0, blk_cell BK220.out 1⟩ (fun hHeld => ?_)
             clear hK K
             refine norm_ (a' := ?_) ?_ ?_
             rotate_left
             ·
              show Act.put _ (some 7) _ = _
              simp only [Act.put, List.setIfInBounds_toArray, List.set_cons_zero, List.set_cons_succ, i64_w, i32_w]
              rfl
             exact norm_ (by simp only [putAll, Act.put, List.setIfInBounds_toArray, List.set_cons_zero, List.set_cons_succ] <;> rfl) (hJ6_7 (gb225, gb226) _ ⟨hHeld, BK218.out, BK219.out, BK220.out, BK225.out, BK226.out, GW225.out, GE225.out, NB218_225.out, NB225_218.out, NB219_225.out, NB225_219.out, NB220_225.out, NB225_220.out, NB226_225.out, NB225_226.out, GW226.out, GE226.out, NB218_226.out, NB226_218.out, NB219_226.out, NB226_219.out, NB220_226.out, NB226_220.out, HB.out⟩)
          ·
           skip
           rintro gb225 w28 ⟨hS_, h0_, h1_, h2_, h3_, h4_, h5_, h6_, h7_, h8_, h9_, h10_, h11_, h12_⟩
           have n0_ := Aside0.mk h0_
           have n1_ := Aside0.mk h1_
           have n2_ := Aside0.mk h2_
           have n3_ := Aside0.mk h3_
           have n4_ := Aside0.mk h4_
           have n5_ := Aside0.mk h5_
           have n6_ := Aside0.mk h6_
           have n7_ := Aside0.mk h7_
           have n8_ := Aside0.mk h8_
           have n9_ := Aside0.mk h9_
           have n10_ := Aside0.mk h10_
           have n11_ := Aside0.mk h11_
           have n12_ := Aside0.mk h12_
           clear BK218; clear BK219; clear BK220; clear HB
           clear h0_ h1_ h2_ h3_ h4_ h5_ h6_ h7_ h8_ h9_ h10_ h11_ h12_
           have BK218 := n0_
           have BK219 := n1_
           have BK220 := n2_
           have BK225 := n3_
           have GW225 := n4_
           have GE225 := n5_
           have NB218_225 := n6_
           have NB225_218 := n7_
           have NB219_225 := n8_
           have NB225_219 := n9_
           have NB220_225 := n10_
           have NB225_220 := n11_
           have HB := n12_
           clear n0_ n1_ n2_ n3_ n4_ n5_ n6_ n7_ n8_ n9_ n10_ n11_ n12_
           have hHeld : w28.cell? ⟨gb219, 0, none⟩ = some (.int .i64 a1_0) ∧ w28.cell? ⟨gb219, 1, none⟩ = some (.int .i64 a1_1) ∧ w28.cell? ⟨gb218, 0, none⟩ = some (.int .i64 a0_0) ∧ w28.cell? ⟨gb218, 1, none⟩ = some (.int .i64 a0_1) ∧ w28.cell? ⟨gb220, 0, none⟩ = some (.int .i64 a2_0) ∧ w28.cell? ⟨gb220, 1, none⟩ = some (.int .i64 a2_1) := hS_
           refine norm_ (a' := ?_) ?_ ?_
           rotate_left
           ·
            simp only [putAll, Act.put, List.setIfInBounds_toArray, List.set_cons_zero, List.set_cons_succ]
            rfl
           refine two_ (i := 2) (j := 7) (Ni := some 18) (Nj := some 8) #[true, true, true, true, true, false, true, false, false, false] #[true, true, false, true, true, false, true, true, false, false] rfl rfl rfl rfl (two_of HT_.out (by kernel_rfl)) (by decide) (by decide) (fun K hK => ?_) (fun K hK => ?_)
           ·
            skip
            refine goes_ Try.func29 (by kernel_rfl) rfl #[.agg #[.int .i64 a1_0, .int .i64 a1_1], .agg #[.int .i64 a0_0, .int .i64 a0_1]] (by rfl) rfl rfl (by (try simp only [List.map_toArray, List.map_cons, List.map_nil]); first | done | rfl | (simp only [List.length_drop, List.length_take]; rfl)) ?_
            with_reducible refine (geom_minus.calls a1_0 a1_1 a0_0 a0_1 t221 t222 _ A14.out).mono ?_
            rintro e w29 ⟨rfl, hb⟩
            refine ⟨_, rfl, ?_⟩
            replace BK218 := mBb BK218 hb; replace BK219 := mBb BK219 hb; replace BK220 := mBb BK220 hb; replace BK225 := mBb BK225 hb; replace HB := mSt HB hb
            (try clear hb)
            (try clear hb2)
            (try clear hk)
            (try clear hi)
            refine hK.out _ _ ⟨blk_cell BK219.out 0, blk_cell BK219.out 1, blk_cell BK218.out 0, blk_cell BK218.out 1, blk_cell BK220.out 0, blk_cell BK220.out 1⟩ (fun hHeld => ?_)
            clear hK K
            refine norm_ (a' := ?_) ?_ ?_
            rotate_left
            ·
             show Act.put _ (some 18) _ = _
             simp only [Act.put, List.setIfInBounds_toArray, List.set_cons_zero, List.set_cons_succ, i64_w, i32_w]
             rfl
            exact norm_ (by simp only [putAll, Act.put, List.setIfInBounds_toArray, List.set_cons_zero, List.set_cons_succ] <;> rfl) (hJ2_6 (gb225) _ ⟨hHeld, BK218.out, BK219.out, BK220.out, BK225.out, GW225.out, GE225.out, NB218_225.out, NB225_218.out, NB219_225.out, NB225_219.out, NB220_225.out, NB225_220.out, HB.out⟩)
           ·
            skip
            refine box_step ?hg (N := 8) ?hd (cs := #[.int .i64 0, .int .i64 0]) (t := 23) ?hr ?_; (case hd => rfl); (case hg => rfl); (case hr => first | (go_simp; done) | (go_simp; rfl))
            intro gb226 hg w29 hbox hb
            have BK226 := Aside0.mk hbox; have GW226 := mGw HB hg; have GE226 := GW226; replace HB := mSt HB hb; have NB218_226 := mNe BK218 hg; have NB226_218 := mSy NB218_226; replace BK218 := mBb BK218 hb; have NB219_226 := mNe BK219 hg; have NB226_219 := mSy NB219_226; replace BK219 := mBb BK219 hb; have NB220_226 := mNe BK220 hg; have NB226_220 := mSy NB220_226; replace BK220 := mBb BK220 hb; have NB225_226 := mNe BK225 hg; have NB226_225 := mSy NB225_226; replace BK225 := mBb BK225 hb
            clear hb hbox hg
            refine hK.out _ _ ⟨blk_cell BK219.out 0, blk_cell BK219.out 1, blk_cell BK218.out 0, blk_cell BK218.out 1, blk_cell BK220.out 0, blk_cell BK220.out 1⟩ (fun hHeld => ?_)
            clear hK K
            refine norm_ (a' := ?_) ?_ ?_
            rotate_left
            ·
             show Act.put _ (some 8) _ = _
             simp only [Act.put, List.setIfInBounds_toArray, List.set_cons_zero, List.set_cons_succ, i64_w, i32_w]
             rfl
            exact norm_ (by simp only [putAll, Act.put, List.setIfInBounds_toArray, List.set_cons_zero, List.set_cons_succ] <;> rfl) (hJ6_7 (gb225, gb226) _ ⟨hHeld, BK218.out, BK219.out, BK220.out, BK225.out, BK226.out, GW225.out, GE225.out, NB218_225.out, NB225_218.out, NB219_225.out, NB225_219.out, NB220_225.out, NB225_220.out, NB226_225.out, NB225_226.out, GW226.out, GE226.out, NB218_226.out, NB226_218.out, NB219_226.out, NB226_219.out, NB220_226.out, NB226_220.out, HB.out⟩)
         ·
          skip
          rintro _ w28 ⟨hS_, h0_, h1_, h2_, h3_⟩
          have n0_ := Aside0.mk h0_
          have n1_ := Aside0.mk h1_
          have n2_ := Aside0.mk h2_
          have n3_ := Aside0.mk h3_
          clear BK218; clear BK219; clear BK220; clear HB
          clear h0_ h1_ h2_ h3_
          have BK218 := n0_
          have BK219 := n1_
          have BK220 := n2_
          have HB := n3_
          clear n0_ n1_ n2_ n3_
          have hHeld : w28.cell? ⟨gb219, 0, none⟩ = some (.int .i64 a1_0) ∧ w28.cell? ⟨gb219, 1, none⟩ = some (.int .i64 a1_1) ∧ w28.cell? ⟨gb218, 0, none⟩ = some (.int .i64 a0_0) ∧ w28.cell? ⟨gb218, 1, none⟩ = some (.int .i64 a0_1) ∧ w28.cell? ⟨gb220, 0, none⟩ = some (.int .i64 a2_0) ∧ w28.cell? ⟨gb220, 1, none⟩ = some (.int .i64 a2_1) := hS_
          refine norm_ (a' := ?_) ?_ ?_
          rotate_left
          ·
           simp only [putAll, Act.put, List.setIfInBounds_toArray, List.set_cons_zero, List.set_cons_succ]
           rfl
          refine three_ (i := 5) (j := 6) (k := 7) (Ni := some 21) (Nj := some 7) (Nk := some 8) #[true, true, true, true, true, true, false, false, false, false] #[true, true, true, true, true, false, true, false, false, false] #[true, true, true, true, true, false, false, true, false, false] rfl rfl rfl rfl rfl rfl (three_of HT_.out (by kernel_rfl)) (by decide) (by decide) (by decide) (fun K hK => ?_) (fun K hK => ?_) (fun K hK => ?_)
          ·
           skip
           refine goes_ Try.func29 (by kernel_rfl) rfl #[.agg #[.int .i64 a2_0, .int .i64 a2_1], .agg #[.int .i64 a0_0, .int .i64 a0_1]] (by rfl) rfl rfl (by (try simp only [List.map_toArray, List.map_cons, List.map_nil]); first | done | rfl | (simp only [List.length_drop, List.length_take]; rfl)) ?_
           with_reducible refine (geom_minus.calls a2_0 a2_1 a0_0 a0_1 t223 t224 _ A15.out).mono ?_
           rintro e w29 ⟨rfl, hb⟩
           refine ⟨_, rfl, ?_⟩
           replace BK218 := mBb BK218 hb; replace BK219 := mBb BK219 hb; replace BK220 := mBb BK220 hb; replace HB := mSt HB hb
           (try clear hb)
           (try clear hb2)
           (try clear hk)
           (try clear hi)
           refine hK.out _ _ ⟨blk_cell BK219.out 0, blk_cell BK219.out 1, blk_cell BK218.out 0, blk_cell BK218.out 1, blk_cell BK220.out 0, blk_cell BK220.out 1⟩ (fun hHeld => ?_)
           clear hK K
           refine norm_ (a' := ?_) ?_ ?_
           rotate_left
           ·
            show Act.put _ (some 21) _ = _
            simp only [Act.put, List.setIfInBounds_toArray, List.set_cons_zero, List.set_cons_succ, i64_w, i32_w]
            rfl
           exact norm_ (by simp only [putAll, Act.put, List.setIfInBounds_toArray, List.set_cons_zero, List.set_cons_succ] <;> rfl) (hJ2_5 () _ ⟨hHeld, BK218.out, BK219.out, BK220.out, HB.out⟩)
          ·
           skip
           refine box_step ?hg (N := 7) ?hd (cs := #[.int .i64 0, .int .i64 0]) (t := 23) ?hr ?_; (case hd => rfl); (case hg => rfl); (case hr => first | (go_simp; done) | (go_simp; rfl))
           intro gb225 hg w29 hbox hb
           have BK225 := Aside0.mk hbox; have GW225 := mGw HB hg; have GE225 := GW225; replace HB := mSt HB hb; have NB218_225 := mNe BK218 hg; have NB225_218 := mSy NB218_225; replace BK218 := mBb BK218 hb; have NB219_225 := mNe BK219 hg; have NB225_219 := mSy NB219_225; replace BK219 := mBb BK219 hb; have NB220_225 := mNe BK220 hg; have NB225_220 := mSy NB220_225; replace BK220 := mBb BK220 hb
           clear hb hbox hg
           refine hK.out _ _ ⟨blk_cell BK219.out 0, blk_cell BK219.out 1, blk_cell BK218.out 0, blk_cell BK218.out 1, blk_cell BK220.out 0, blk_cell BK220.out 1⟩ (fun hHeld => ?_)
           clear hK K
           refine norm_ (a' := ?_) ?_ ?_
           rotate_left
           ·
            show Act.put _ (some 7) _ = _
            simp only [Act.put, List.setIfInBounds_toArray, List.set_cons_zero, List.set_cons_succ, i64_w, i32_w]
            rfl
           exact norm_ (by simp only [putAll, Act.put, List.setIfInBounds_toArray, List.set_cons_zero, List.set_cons_succ] <;> rfl) (hJ2_6 (gb225) _ ⟨hHeld, BK218.out, BK219.out, BK220.out, BK225.out, GW225.out, GE225.out, NB218_225.out, NB225_218.out, NB219_225.out, NB225_219.out, NB220_225.out, NB225_220.out, HB.out⟩)
          ·
           skip
           refine box_step ?hg (N := 8) ?hd (cs := #[.int .i64 0, .int .i64 0]) (t := 23) ?hr ?_; (case hd => rfl); (case hg => rfl); (case hr => first | (go_simp; done) | (go_simp; rfl))
           intro gb226 hg w29 hbox hb
           have BK226 := Aside0.mk hbox; have GW226 := mGw HB hg; have GE226 := GW226; replace HB := mSt HB hb; have NB218_226 := mNe BK218 hg; have NB226_218 := mSy NB218_226; replace BK218 := mBb BK218 hb; have NB219_226 := mNe BK219 hg; have NB226_219 := mSy NB219_226; replace BK219 := mBb BK219 hb; have NB220_226 := mNe BK220 hg; have NB226_220 := mSy NB220_226; replace BK220 := mBb BK220 hb
           clear hb hbox hg
           refine hK.out _ _ ⟨blk_cell BK219.out 0, blk_cell BK219.out 1, blk_cell BK218.out 0, blk_cell BK218.out 1, blk_cell BK220.out 0, blk_cell BK220.out 1⟩ (fun hHeld => ?_)
           clear hK K
           refine norm_ (a' := ?_) ?_ ?_
           rotate_left
           ·
            show Act.put _ (some 8) _ = _
            simp only [Act.put, List.setIfInBounds_toArray, List.set_cons_zero, List.set_cons_succ, i64_w, i32_w]
            rfl
           exact norm_ (by simp only [putAll, Act.put, List.setIfInBounds_toArray, List.set_cons_zero, List.set_cons_succ] <;> rfl) (hJ2_7 (gb226) _ ⟨hHeld, BK218.out, BK219.out, BK220.out, BK226.out, GW226.out, GE226.out, NB218_226.out, NB226_218.out, NB219_226.out, NB226_219.out, NB220_226.out, NB226_220.out, HB.out⟩)
        ·
         skip
         rintro ⟨gb225, gb226⟩ w29 ⟨hS_, h0_, h1_, h2_, h3_, h4_, h5_, h6_, h7_, h8_, h9_, h10_, h11_, h12_, h13_, h14_, h15_, h16_, h17_, h18_, h19_, h20_, h21_, h22_, h23_⟩
         try dsimp only at h0_ h1_ h2_ h3_ h4_ h5_ h6_ h7_ h8_ h9_ h10_ h11_ h12_ h13_ h14_ h15_ h16_ h17_ h18_ h19_ h20_ h21_ h22_ h23_
         have n0_ := Aside0.mk h0_
         have n1_ := Aside0.mk h1_
         have n2_ := Aside0.mk h2_
         have n3_ := Aside0.mk h3_
         have n4_ := Aside0.mk h4_
         have n5_ := Aside0.mk h5_
         have n6_ := Aside0.mk h6_
         have n7_ := Aside0.mk h7_
         have n8_ := Aside0.mk h8_
         have n9_ := Aside0.mk h9_
         have n10_ := Aside0.mk h10_
         have n11_ := Aside0.mk h11_
         have n12_ := Aside0.mk h12_
         have n13_ := Aside0.mk h13_
         have n14_ := Aside0.mk h14_
         have n15_ := Aside0.mk h15_
         have n16_ := Aside0.mk h16_
         have n17_ := Aside0.mk h17_
         have n18_ := Aside0.mk h18_
         have n19_ := Aside0.mk h19_
         have n20_ := Aside0.mk h20_
         have n21_ := Aside0.mk h21_
         have n22_ := Aside0.mk h22_
         have n23_ := Aside0.mk h23_
         clear BK218; clear BK219; clear BK220; clear HB
         clear h0_ h1_ h2_ h3_ h4_ h5_ h6_ h7_ h8_ h9_ h10_ h11_ h12_ h13_ h14_ h15_ h16_ h17_ h18_ h19_ h20_ h21_ h22_ h23_
         have BK218 := n0_
         have BK219 := n1_
         have BK220 := n2_
         have BK225 := n3_
         have BK226 := n4_
         have GW225 := n5_
         have GE225 := n6_
         have NB218_225 := n7_
         have NB225_218 := n8_
         have NB219_225 := n9_
         have NB225_219 := n10_
         have NB220_225 := n11_
         have NB225_220 := n12_
         have NB226_225 := n13_
         have NB225_226 := n14_
         have GW226 := n15_
         have GE226 := n16_
         have NB218_226 := n17_
         have NB226_218 := n18_
         have NB219_226 := n19_
         have NB226_219 := n20_
         have NB220_226 := n21_
         have NB226_220 := n22_
         have HB := n23_
         clear n0_ n1_ n2_ n3_ n4_ n5_ n6_ n7_ n8_ n9_ n10_ n11_ n12_ n13_ n14_ n15_ n16_ n17_ n18_ n19_ n20_ n21_ n22_ n23_
         have hHeld : w29.cell? ⟨gb219, 0, none⟩ = some (.int .i64 a1_0) ∧ w29.cell? ⟨gb219, 1, none⟩ = some (.int .i64 a1_1) ∧ w29.cell? ⟨gb218, 0, none⟩ = some (.int .i64 a0_0) ∧ w29.cell? ⟨gb218, 1, none⟩ = some (.int .i64 a0_1) ∧ w29.cell? ⟨gb220, 0, none⟩ = some (.int .i64 a2_0) ∧ w29.cell? ⟨gb220, 1, none⟩ = some (.int .i64 a2_1) := hS_
         refine norm_ (a' := ?_) ?_ ?_
         rotate_left
         ·
          simp only [putAll, Act.put, List.setIfInBounds_toArray, List.set_cons_zero, List.set_cons_succ]
          rfl
         refine one_ (i := 2) (N := some 18) #[true, true, true, true, true, false, true, true, false, false] rfl rfl (one_of HT_.out (by kernel_rfl)) (by decide) (fun K hK => ?_)
         refine goes_ Try.func29 (by kernel_rfl) rfl #[.agg #[.int .i64 a1_0, .int .i64 a1_1], .agg #[.int .i64 a0_0, .int .i64 a0_1]] (by rfl) rfl rfl (by (try simp only [List.map_toArray, List.map_cons, List.map_nil]); first | done | rfl | (simp only [List.length_drop, List.length_take]; rfl)) ?_
         with_reducible refine (geom_minus.calls a1_0 a1_1 a0_0 a0_1 t221 t222 _ A14.out).mono ?_
         rintro e w30 ⟨rfl, hb⟩
         refine ⟨_, rfl, ?_⟩
         replace BK218 := mBb BK218 hb; replace BK219 := mBb BK219 hb; replace BK220 := mBb BK220 hb; replace BK225 := mBb BK225 hb; replace BK226 := mBb BK226 hb; replace HB := mSt HB hb
         (try clear hb)
         (try clear hb2)
         (try clear hk)
         (try clear hi)
         refine hK.out _ _ ⟨blk_cell BK219.out 0, blk_cell BK219.out 1, blk_cell BK218.out 0, blk_cell BK218.out 1, blk_cell BK220.out 0, blk_cell BK220.out 1⟩ (fun hHeld => ?_)
         clear hK K
         refine norm_ (a' := ?_) ?_ ?_
         rotate_left
         ·
          show Act.put _ (some 18) _ = _
          simp only [Act.put, List.setIfInBounds_toArray, List.set_cons_zero, List.set_cons_succ, i64_w, i32_w]
          rfl
         exact norm_ (by simp only [putAll, Act.put, List.setIfInBounds_toArray, List.set_cons_zero, List.set_cons_succ] <;> rfl) (hJ2_6_7 (gb225, gb226) _ ⟨hHeld, BK218.out, BK219.out, BK220.out, BK225.out, BK226.out, GW225.out, GE225.out, NB218_225.out, NB225_218.out, NB219_225.out, NB225_219.out, NB220_225.out, NB225_220.out, NB226_225.out, NB225_226.out, GW226.out, GE226.out, NB218_226.out, NB226_218.out, NB219_226.out, NB226_219.out, NB220_226.out, NB226_220.out, HB.out⟩)
       ·
        skip
        rintro gb226 w29 ⟨hS_, h0_, h1_, h2_, h3_, h4_, h5_, h6_, h7_, h8_, h9_, h10_, h11_, h12_⟩
        have n0_ := Aside0.mk h0_
        have n1_ := Aside0.mk h1_
        have n2_ := Aside0.mk h2_
        have n3_ := Aside0.mk h3_
        have n4_ := Aside0.mk h4_
        have n5_ := Aside0.mk h5_
        have n6_ := Aside0.mk h6_
        have n7_ := Aside0.mk h7_
        have n8_ := Aside0.mk h8_
        have n9_ := Aside0.mk h9_
        have n10_ := Aside0.mk h10_
        have n11_ := Aside0.mk h11_
        have n12_ := Aside0.mk h12_
        clear BK218; clear BK219; clear BK220; clear HB
        clear h0_ h1_ h2_ h3_ h4_ h5_ h6_ h7_ h8_ h9_ h10_ h11_ h12_
        have BK218 := n0_
        have BK219 := n1_
        have BK220 := n2_
        have BK226 := n3_
        have GW226 := n4_
        have GE226 := n5_
        have NB218_226 := n6_
        have NB226_218 := n7_
        have NB219_226 := n8_
        have NB226_219 := n9_
        have NB220_226 := n10_
        have NB226_220 := n11_
        have HB := n12_
        clear n0_ n1_ n2_ n3_ n4_ n5_ n6_ n7_ n8_ n9_ n10_ n11_ n12_
        have hHeld : w29.cell? ⟨gb219, 0, none⟩ = some (.int .i64 a1_0) ∧ w29.cell? ⟨gb219, 1, none⟩ = some (.int .i64 a1_1) ∧ w29.cell? ⟨gb218, 0, none⟩ = some (.int .i64 a0_0) ∧ w29.cell? ⟨gb218, 1, none⟩ = some (.int .i64 a0_1) ∧ w29.cell? ⟨gb220, 0, none⟩ = some (.int .i64 a2_0) ∧ w29.cell? ⟨gb220, 1, none⟩ = some (.int .i64 a2_1) := hS_
        refine norm_ (a' := ?_) ?_ ?_
        rotate_left
        ·
         simp only [putAll, Act.put, List.setIfInBounds_toArray, List.set_cons_zero, List.set_cons_succ]
         rfl
        refine two_ (i := 5) (j := 6) (Ni := some 21) (Nj := some 7) #[true, true, true, true, true, true, false, true, false, false] #[true, true, true, true, true, false, true, true, false, false] rfl rfl rfl rfl (two_of HT_.out (by kernel_rfl)) (by decide) (by decide) (fun K hK => ?_) (fun K hK => ?_)
        ·
         skip
         refine goes_ Try.func29 (by kernel_rfl) rfl #[.agg #[.int .i64 a2_0, .int .i64 a2_1], .agg #[.int .i64 a0_0, .int .i64 a0_1]] (by rfl) rfl rfl (by (try simp only [List.map_toArray, List.map_cons, List.map_nil]); first | done | rfl | (simp only [List.length_drop, List.length_take]; rfl)) ?_
         with_reducible refine (geom_minus.calls a2_0 a2_1 a0_0 a0_1 t223 t224 _ A15.out).mono ?_
         rintro e w30 ⟨rfl, hb⟩
         refine ⟨_, rfl, ?_⟩
         replace BK218 := mBb BK218 hb; replace BK219 := mBb BK219 hb; replace BK220 := mBb BK220 hb; replace BK226 := mBb BK226 hb; replace HB := mSt HB hb
         (try clear hb)
         (try clear hb2)
         (try clear hk)
         (try clear hi)
         refine hK.out _ _ ⟨blk_cell BK219.out 0, blk_cell BK219.out 1, blk_cell BK218.out 0, blk_cell BK218.out 1, blk_cell BK220.out 0, blk_cell BK220.out 1⟩ (fun hHeld => ?_)
         clear hK K
         refine norm_ (a' := ?_) ?_ ?_
         rotate_left
         ·
          show Act.put _ (some 21) _ = _
          simp only [Act.put, List.setIfInBounds_toArray, List.set_cons_zero, List.set_cons_succ, i64_w, i32_w]
          rfl
         exact norm_ (by simp only [putAll, Act.put, List.setIfInBounds_toArray, List.set_cons_zero, List.set_cons_succ] <;> rfl) (hJ2_5_7 (gb226) _ ⟨hHeld, BK218.out, BK219.out, BK220.out, BK226.out, GW226.out, GE226.out, NB218_226.out, NB226_218.out, NB219_226.out, NB226_219.out, NB220_226.out, NB226_220.out, HB.out⟩)
        ·
         skip
         refine box_step ?hg (N := 7) ?hd (cs := #[.int .i64 0, .int .i64 0]) (t := 23) ?hr ?_; (case hd => rfl); (case hg => rfl); (case hr => first | (go_simp; done) | (go_simp; rfl))
         intro gb225 hg w30 hbox hb
         have BK225 := Aside0.mk hbox; have GW225 := mGw HB hg; have GE225 := GW225; replace HB := mSt HB hb; have NB218_225 := mNe BK218 hg; have NB225_218 := mSy NB218_225; replace BK218 := mBb BK218 hb; have NB219_225 := mNe BK219 hg; have NB225_219 := mSy NB219_225; replace BK219 := mBb BK219 hb; have NB220_225 := mNe BK220 hg; have NB225_220 := mSy NB220_225; replace BK220 := mBb BK220 hb; have NB226_225 := mNe BK226 hg; have NB225_226 := mSy NB226_225; replace BK226 := mBb BK226 hb
         clear hb hbox hg
         refine hK.out _ _ ⟨blk_cell BK219.out 0, blk_cell BK219.out 1, blk_cell BK218.out 0, blk_cell BK218.out 1, blk_cell BK220.out 0, blk_cell BK220.out 1⟩ (fun hHeld => ?_)
         clear hK K
         refine norm_ (a' := ?_) ?_ ?_
         rotate_left
         ·
          show Act.put _ (some 7) _ = _
          simp only [Act.put, List.setIfInBounds_toArray, List.set_cons_zero, List.set_cons_succ, i64_w, i32_w]
          rfl
         exact norm_ (by simp only [putAll, Act.put, List.setIfInBounds_toArray, List.set_cons_zero, List.set_cons_succ] <;> rfl) (hJ2_6_7 (gb225, gb226) _ ⟨hHeld, BK218.out, BK219.out, BK220.out, BK225.out, BK226.out, GW225.out, GE225.out, NB218_225.out, NB225_218.out, NB219_225.out, NB225_219.out, NB220_225.out, NB225_220.out, NB226_225.out, NB225_226.out, GW226.out, GE226.out, NB218_226.out, NB226_218.out, NB219_226.out, NB226_219.out, NB220_226.out, NB226_220.out, HB.out⟩)
      ·
       skip
       rintro gb225 w29 ⟨hS_, h0_, h1_, h2_, h3_, h4_, h5_, h6_, h7_, h8_, h9_, h10_, h11_, h12_⟩
       have n0_ := Aside0.mk h0_
       have n1_ := Aside0.mk h1_
       have n2_ := Aside0.mk h2_
       have n3_ := Aside0.mk h3_
       have n4_ := Aside0.mk h4_
       have n5_ := Aside0.mk h5_
       have n6_ := Aside0.mk h6_
       have n7_ := Aside0.mk h7_
       have n8_ := Aside0.mk h8_
       have n9_ := Aside0.mk h9_
       have n10_ := Aside0.mk h10_
       have n11_ := Aside0.mk h11_
       have n12_ := Aside0.mk h12_
       clear BK218; clear BK219; clear BK220; clear HB
       clear h0_ h1_ h2_ h3_ h4_ h5_ h6_ h7_ h8_ h9_ h10_ h11_ h12_
       have BK218 := n0_
       have BK219 := n1_
       have BK220 := n2_
       have BK225 := n3_
       have GW225 := n4_
       have GE225 := n5_
       have NB218_225 := n6_
       have NB225_218 := n7_
       have NB219_225 := n8_
       have NB225_219 := n9_
       have NB220_225 := n10_
       have NB225_220 := n11_
       have HB := n12_
       clear n0_ n1_ n2_ n3_ n4_ n5_ n6_ n7_ n8_ n9_ n10_ n11_ n12_
       have hHeld : w29.cell? ⟨gb219, 0, none⟩ = some (.int .i64 a1_0) ∧ w29.cell? ⟨gb219, 1, none⟩ = some (.int .i64 a1_1) ∧ w29.cell? ⟨gb218, 0, none⟩ = some (.int .i64 a0_0) ∧ w29.cell? ⟨gb218, 1, none⟩ = some (.int .i64 a0_1) ∧ w29.cell? ⟨gb220, 0, none⟩ = some (.int .i64 a2_0) ∧ w29.cell? ⟨gb220, 1, none⟩ = some (.int .i64 a2_1) := hS_
       refine norm_ (a' := ?_) ?_ ?_
       rotate_left
       ·
        simp only [putAll, Act.put, List.setIfInBounds_toArray, List.set_cons_zero, List.set_cons_succ]
        rfl
       refine two_ (i := 5) (j := 7) (Ni := some 21) (Nj := some 8) #[true, true, true, true, true, true, true, false, false, false] #[true, true, true, true, true, false, true, true, false, false] rfl rfl rfl rfl (two_of HT_.out (by kernel_rfl)) (by decide) (by decide) (fun K hK => ?_) (fun K hK => ?_)
       ·
        skip
        refine goes_ Try.func29 (by kernel_rfl) rfl #[.agg #[.int .i64 a2_0, .int .i64 a2_1], .agg #[.int .i64 a0_0, .int .i64 a0_1]] (by rfl) rfl rfl (by (try simp only [List.map_toArray, List.map_cons, List.map_nil]); first | done | rfl | (simp only [List.length_drop, List.length_take]; rfl)) ?_
        with_reducible refine (geom_minus.calls a2_0 a2_1 a0_0 a0_1 t223 t224 _ A15.out).mono ?_
        rintro e w30 ⟨rfl, hb⟩
        refine ⟨_, rfl, ?_⟩
        replace BK218 := mBb BK218 hb; replace BK219 := mBb BK219 hb; replace BK220 := mBb BK220 hb; replace BK225 := mBb BK225 hb; replace HB := mSt HB hb
        (try clear hb)
        (try clear hb2)
        (try clear hk)
        (try clear hi)
        refine hK.out _ _ ⟨blk_cell BK219.out 0, blk_cell BK219.out 1, blk_cell BK218.out 0, blk_cell BK218.out 1, blk_cell BK220.out 0, blk_cell BK220.out 1⟩ (fun hHeld => ?_)
        clear hK K
        refine norm_ (a' := ?_) ?_ ?_
        rotate_left
        ·
         show Act.put _ (some 21) _ = _
         simp only [Act.put, List.setIfInBounds_toArray, List.set_cons_zero, List.set_cons_succ, i64_w, i32_w]
         rfl
        exact norm_ (by simp only [putAll, Act.put, List.setIfInBounds_toArray, List.set_cons_zero, List.set_cons_succ] <;> rfl) (hJ2_5_6 (gb225) _ ⟨hHeld, BK218.out, BK219.out, BK220.out, BK225.out, GW225.out, GE225.out, NB218_225.out, NB225_218.out, NB219_225.out, NB225_219.out, NB220_225.out, NB225_220.out, HB.out⟩)
       ·
        skip
        refine box_step ?hg (N := 8) ?hd (cs := #[.int .i64 0, .int .i64 0]) (t := 23) ?hr ?_; (case hd => rfl); (case hg => rfl); (case hr => first | (go_simp; done) | (go_simp; rfl))
        intro gb226 hg w30 hbox hb
        have BK226 := Aside0.mk hbox; have GW226 := mGw HB hg; have GE226 := GW226; replace HB := mSt HB hb; have NB218_226 := mNe BK218 hg; have NB226_218 := mSy NB218_226; replace BK218 := mBb BK218 hb; have NB219_226 := mNe BK219 hg; have NB226_219 := mSy NB219_226; replace BK219 := mBb BK219 hb; have NB220_226 := mNe BK220 hg; have NB226_220 := mSy NB220_226; replace BK220 := mBb BK220 hb; have NB225_226 := mNe BK225 hg; have NB226_225 := mSy NB225_226; replace BK225 := mBb BK225 hb
        clear hb hbox hg
        refine hK.out _ _ ⟨blk_cell BK219.out 0, blk_cell BK219.out 1, blk_cell BK218.out 0, blk_cell BK218.out 1, blk_cell BK220.out 0, blk_cell BK220.out 1⟩ (fun hHeld => ?_)
        clear hK K
        refine norm_ (a' := ?_) ?_ ?_
        rotate_left
        ·
         show Act.put _ (some 8) _ = _
         simp only [Act.put, List.setIfInBounds_toArray, List.set_cons_zero, List.set_cons_succ, i64_w, i32_w]
         rfl
        exact norm_ (by simp only [putAll, Act.put, List.setIfInBounds_toArray, List.set_cons_zero, List.set_cons_succ] <;> rfl) (hJ2_6_7 (gb225, gb226) _ ⟨hHeld, BK218.out, BK219.out, BK220.out, BK225.out, BK226.out, GW225.out, GE225.out, NB218_225.out, NB225_218.out, NB219_225.out, NB225_219.out, NB220_225.out, NB225_220.out, NB226_225.out, NB225_226.out, GW226.out, GE226.out, NB218_226.out, NB226_218.out, NB219_226.out, NB226_219.out, NB220_226.out, NB226_220.out, HB.out⟩)
     ·
      skip
      rintro _ w29 ⟨hS_, h0_, h1_, h2_, h3_⟩
      have n0_ := Aside0.mk h0_
      have n1_ := Aside0.mk h1_
      have n2_ := Aside0.mk h2_
      have n3_ := Aside0.mk h3_
      clear BK218; clear BK219; clear BK220; clear HB
      clear h0_ h1_ h2_ h3_
      have BK218 := n0_
      have BK219 := n1_
      have BK220 := n2_
      have HB := n3_
      clear n0_ n1_ n2_ n3_
      have hHeld : w29.cell? ⟨gb219, 0, none⟩ = some (.int .i64 a1_0) ∧ w29.cell? ⟨gb219, 1, none⟩ = some (.int .i64 a1_1) ∧ w29.cell? ⟨gb218, 0, none⟩ = some (.int .i64 a0_0) ∧ w29.cell? ⟨gb218, 1, none⟩ = some (.int .i64 a0_1) ∧ w29.cell? ⟨gb220, 0, none⟩ = some (.int .i64 a2_0) ∧ w29.cell? ⟨gb220, 1, none⟩ = some (.int .i64 a2_1) := hS_
      refine norm_ (a' := ?_) ?_ ?_
      rotate_left
      ·
       simp only [putAll, Act.put, List.setIfInBounds_toArray, List.set_cons_zero, List.set_cons_succ]
       rfl
      refine two_ (i := 6) (j := 7) (Ni := some 7) (Nj := some 8) #[true, true, true, true, true, true, true, false, false, false] #[true, true, true, true, true, true, false, true, false, false] rfl rfl rfl rfl (two_of HT_.out (by kernel_rfl)) (by decide) (by decide) (fun K hK => ?_) (fun K hK => ?_)
      ·
       skip
       refine box_step ?hg (N := 7) ?hd (cs := #[.int .i64 0, .int .i64 0]) (t := 23) ?hr ?_; (case hd => rfl); (case hg => rfl); (case hr => first | (go_simp; done) | (go_simp; rfl))
       intro gb225 hg w30 hbox hb
       have BK225 := Aside0.mk hbox; have GW225 := mGw HB hg; have GE225 := GW225; replace HB := mSt HB hb; have NB218_225 := mNe BK218 hg; have NB225_218 := mSy NB218_225; replace BK218 := mBb BK218 hb; have NB219_225 := mNe BK219 hg; have NB225_219 := mSy NB219_225; replace BK219 := mBb BK219 hb; have NB220_225 := mNe BK220 hg; have NB225_220 := mSy NB220_225; replace BK220 := mBb BK220 hb
       clear hb hbox hg
       refine hK.out _ _ ⟨blk_cell BK219.out 0, blk_cell BK219.out 1, blk_cell BK218.out 0, blk_cell BK218.out 1, blk_cell BK220.out 0, blk_cell BK220.out 1⟩ (fun hHeld => ?_)
       clear hK K
       refine norm_ (a' := ?_) ?_ ?_
       rotate_left
       ·
        show Act.put _ (some 7) _ = _
        simp only [Act.put, List.setIfInBounds_toArray, List.set_cons_zero, List.set_cons_succ, i64_w, i32_w]
        rfl
       exact norm_ (by simp only [putAll, Act.put, List.setIfInBounds_toArray, List.set_cons_zero, List.set_cons_succ] <;> rfl) (hJ2_5_6 (gb225) _ ⟨hHeld, BK218.out, BK219.out, BK220.out, BK225.out, GW225.out, GE225.out, NB218_225.out, NB225_218.out, NB219_225.out, NB225_219.out, NB220_225.out, NB225_220.out, HB.out⟩)
      ·
       skip
       refine box_step ?hg (N := 8) ?hd (cs := #[.int .i64 0, .int .i64 0]) (t := 23) ?hr ?_; (case hd => rfl); (case hg => rfl); (case hr => first | (go_simp; done) | (go_simp; rfl))
       intro gb226 hg w30 hbox hb
       have BK226 := Aside0.mk hbox; have GW226 := mGw HB hg; have GE226 := GW226; replace HB := mSt HB hb; have NB218_226 := mNe BK218 hg; have NB226_218 := mSy NB218_226; replace BK218 := mBb BK218 hb; have NB219_226 := mNe BK219 hg; have NB226_219 := mSy NB219_226; replace BK219 := mBb BK219 hb; have NB220_226 := mNe BK220 hg; have NB226_220 := mSy NB220_226; replace BK220 := mBb BK220 hb
       clear hb hbox hg
       refine hK.out _ _ ⟨blk_cell BK219.out 0, blk_cell BK219.out 1, blk_cell BK218.out 0, blk_cell BK218.out 1, blk_cell BK220.out 0, blk_cell BK220.out 1⟩ (fun hHeld => ?_)
       clear hK K
       refine norm_ (a' := ?_) ?_ ?_
       rotate_left
       ·
        show Act.put _ (some 8) _ = _
        simp only [Act.put, List.setIfInBounds_toArray, List.set_cons_zero, List.set_cons_succ, i64_w, i32_w]
        rfl
       exact norm_ (by simp only [putAll, Act.put, List.setIfInBounds_toArray, List.set_cons_zero, List.set_cons_succ] <;> rfl) (hJ2_5_7 (gb226) _ ⟨hHeld, BK218.out, BK219.out, BK220.out, BK226.out, GW226.out, GE226.out, NB218_226.out, NB226_218.out, NB219_226.out, NB226_219.out, NB220_226.out, NB226_220.out, HB.out⟩)
    ·
     skip
     rintro ⟨gb225, gb226⟩ w30 ⟨hS_, h0_, h1_, h2_, h3_, h4_, h5_, h6_, h7_, h8_, h9_, h10_, h11_, h12_, h13_, h14_, h15_, h16_, h17_, h18_, h19_, h20_, h21_, h22_, h23_⟩
     try dsimp only at h0_ h1_ h2_ h3_ h4_ h5_ h6_ h7_ h8_ h9_ h10_ h11_ h12_ h13_ h14_ h15_ h16_ h17_ h18_ h19_ h20_ h21_ h22_ h23_
     have n0_ := Aside0.mk h0_
     have n1_ := Aside0.mk h1_
     have n2_ := Aside0.mk h2_
     have n3_ := Aside0.mk h3_
     have n4_ := Aside0.mk h4_
     have n5_ := Aside0.mk h5_
     have n6_ := Aside0.mk h6_
     have n7_ := Aside0.mk h7_
     have n8_ := Aside0.mk h8_
     have n9_ := Aside0.mk h9_
     have n10_ := Aside0.mk h10_
     have n11_ := Aside0.mk h11_
     have n12_ := Aside0.mk h12_
     have n13_ := Aside0.mk h13_
     have n14_ := Aside0.mk h14_
     have n15_ := Aside0.mk h15_
     have n16_ := Aside0.mk h16_
     have n17_ := Aside0.mk h17_
     have n18_ := Aside0.mk h18_
     have n19_ := Aside0.mk h19_
     have n20_ := Aside0.mk h20_
     have n21_ := Aside0.mk h21_
     have n22_ := Aside0.mk h22_
     have n23_ := Aside0.mk h23_
     clear BK218; clear BK219; clear BK220; clear HB
     clear h0_ h1_ h2_ h3_ h4_ h5_ h6_ h7_ h8_ h9_ h10_ h11_ h12_ h13_ h14_ h15_ h16_ h17_ h18_ h19_ h20_ h21_ h22_ h23_
     have BK218 := n0_
     have BK219 := n1_
     have BK220 := n2_
     have BK225 := n3_
     have BK226 := n4_
     have GW225 := n5_
     have GE225 := n6_
     have NB218_225 := n7_
     have NB225_218 := n8_
     have NB219_225 := n9_
     have NB225_219 := n10_
     have NB220_225 := n11_
     have NB225_220 := n12_
     have NB226_225 := n13_
     have NB225_226 := n14_
     have GW226 := n15_
     have GE226 := n16_
     have NB218_226 := n17_
     have NB226_218 := n18_
     have NB219_226 := n19_
     have NB226_219 := n20_
     have NB220_226 := n21_
     have NB226_220 := n22_
     have HB := n23_
     clear n0_ n1_ n2_ n3_ n4_ n5_ n6_ n7_ n8_ n9_ n10_ n11_ n12_ n13_ n14_ n15_ n16_ n17_ n18_ n19_ n20_ n21_ n22_ n23_
     have hHeld : w30.cell? ⟨gb219, 0, none⟩ = some (.int .i64 a1_0) ∧ w30.cell? ⟨gb219, 1, none⟩ = some (.int .i64 a1_1) ∧ w30.cell? ⟨gb218, 0, none⟩ = some (.int .i64 a0_0) ∧ w30.cell? ⟨gb218, 1, none⟩ = some (.int .i64 a0_1) ∧ w30.cell? ⟨gb220, 0, none⟩ = some (.int .i64 a2_0) ∧ w30.cell? ⟨gb220, 1, none⟩ = some (.int .i64 a2_1) := hS_
     refine norm_ (a' := ?_) ?_ ?_
     rotate_left
     ·
      simp only [putAll, Act.put, List.setIfInBounds_toArray, List.set_cons_zero, List.set_cons_succ]
      rfl
     refine one_ (i := 5) (N := some 21) #[true, true, true, true, true, true, true, true, false, false] rfl rfl (one_of HT_.out (by kernel_rfl)) (by decide) (fun K hK => ?_)
     refine goes_ Try.func29 (by kernel_rfl) rfl #[.agg #[.int .i64 a2_0, .int .i64 a2_1], .agg #[.int .i64 a0_0, .int .i64 a0_1]] (by rfl) rfl rfl (by (try simp only [List.map_toArray, List.map_cons, List.map_nil]); first | done | rfl | (simp only [List.length_drop, List.length_take]; rfl)) ?_
     with_reducible refine (geom_minus.calls a2_0 a2_1 a0_0 a0_1 t223 t224 _ A15.out).mono ?_
     rintro e w31 ⟨rfl, hb⟩
     refine ⟨_, rfl, ?_⟩
     replace BK218 := mBb BK218 hb; replace BK219 := mBb BK219 hb; replace BK220 := mBb BK220 hb; replace BK225 := mBb BK225 hb; replace BK226 := mBb BK226 hb; replace HB := mSt HB hb
     (try clear hb)
     (try clear hb2)
     (try clear hk)
     (try clear hi)
     refine hK.out _ _ ⟨blk_cell BK219.out 0, blk_cell BK219.out 1, blk_cell BK218.out 0, blk_cell BK218.out 1, blk_cell BK220.out 0, blk_cell BK220.out 1⟩ (fun hHeld => ?_)
     clear hK K
     refine norm_ (a' := ?_) ?_ ?_
     rotate_left
     ·
      show Act.put _ (some 21) _ = _
      simp only [Act.put, List.setIfInBounds_toArray, List.set_cons_zero, List.set_cons_succ, i64_w, i32_w]
      rfl
     exact norm_ (by simp only [putAll, Act.put, List.setIfInBounds_toArray, List.set_cons_zero, List.set_cons_succ] <;> rfl) (hJ2_5_6_7 (gb225, gb226) _ ⟨hHeld, BK218.out, BK219.out, BK220.out, BK225.out, BK226.out, GW225.out, GE225.out, NB218_225.out, NB225_218.out, NB219_225.out, NB225_219.out, NB220_225.out, NB225_220.out, NB226_225.out, NB225_226.out, GW226.out, GE226.out, NB218_226.out, NB226_218.out, NB219_226.out, NB226_219.out, NB220_226.out, NB226_220.out, HB.out⟩)
   ·
    skip
    rintro gb226 w30 ⟨hS_, h0_, h1_, h2_, h3_, h4_, h5_, h6_, h7_, h8_, h9_, h10_, h11_, h12_⟩
    have n0_ := Aside0.mk h0_
    have n1_ := Aside0.mk h1_
    have n2_ := Aside0.mk h2_
    have n3_ := Aside0.mk h3_
    have n4_ := Aside0.mk h4_
    have n5_ := Aside0.mk h5_
    have n6_ := Aside0.mk h6_
    have n7_ := Aside0.mk h7_
    have n8_ := Aside0.mk h8_
    have n9_ := Aside0.mk h9_
    have n10_ := Aside0.mk h10_
    have n11_ := Aside0.mk h11_
    have n12_ := Aside0.mk h12_
    clear BK218; clear BK219; clear BK220; clear HB
    clear h0_ h1_ h2_ h3_ h4_ h5_ h6_ h7_ h8_ h9_ h10_ h11_ h12_
    have BK218 := n0_
    have BK219 := n1_
    have BK220 := n2_
    have BK226 := n3_
    have GW226 := n4_
    have GE226 := n5_
    have NB218_226 := n6_
    have NB226_218 := n7_
    have NB219_226 := n8_
    have NB226_219 := n9_
    have NB220_226 := n10_
    have NB226_220 := n11_
    have HB := n12_
    clear n0_ n1_ n2_ n3_ n4_ n5_ n6_ n7_ n8_ n9_ n10_ n11_ n12_
    have hHeld : w30.cell? ⟨gb219, 0, none⟩ = some (.int .i64 a1_0) ∧ w30.cell? ⟨gb219, 1, none⟩ = some (.int .i64 a1_1) ∧ w30.cell? ⟨gb218, 0, none⟩ = some (.int .i64 a0_0) ∧ w30.cell? ⟨gb218, 1, none⟩ = some (.int .i64 a0_1) ∧ w30.cell? ⟨gb220, 0, none⟩ = some (.int .i64 a2_0) ∧ w30.cell? ⟨gb220, 1, none⟩ = some (.int .i64 a2_1) := hS_
    refine norm_ (a' := ?_) ?_ ?_
    rotate_left
    ·
     simp only [putAll, Act.put, List.setIfInBounds_toArray, List.set_cons_zero, List.set_cons_succ]
     rfl
    refine one_ (i := 6) (N := some 7) #[true, true, true, true, true, true, true, true, false, false] rfl rfl (one_of HT_.out (by kernel_rfl)) (by decide) (fun K hK => ?_)
    refine box_step ?hg (N := 7) ?hd (cs := #[.int .i64 0, .int .i64 0]) (t := 23) ?hr ?_; (case hd => rfl); (case hg => rfl); (case hr => first | (go_simp; done) | (go_simp; rfl))
    intro gb225 hg w31 hbox hb
    have BK225 := Aside0.mk hbox; have GW225 := mGw HB hg; have GE225 := GW225; replace HB := mSt HB hb; have NB218_225 := mNe BK218 hg; have NB225_218 := mSy NB218_225; replace BK218 := mBb BK218 hb; have NB219_225 := mNe BK219 hg; have NB225_219 := mSy NB219_225; replace BK219 := mBb BK219 hb; have NB220_225 := mNe BK220 hg; have NB225_220 := mSy NB220_225; replace BK220 := mBb BK220 hb; have NB226_225 := mNe BK226 hg; have NB225_226 := mSy NB226_225; replace BK226 := mBb BK226 hb
    clear hb hbox hg
    refine hK.out _ _ ⟨blk_cell BK219.out 0, blk_cell BK219.out 1, blk_cell BK218.out 0, blk_cell BK218.out 1, blk_cell BK220.out 0, blk_cell BK220.out 1⟩ (fun hHeld => ?_)
    clear hK K
    refine norm_ (a' := ?_) ?_ ?_
    rotate_left
    ·
     show Act.put _ (some 7) _ = _
     simp only [Act.put, List.setIfInBounds_toArray, List.set_cons_zero, List.set_cons_succ, i64_w, i32_w]
     rfl
    exact norm_ (by simp only [putAll, Act.put, List.setIfInBounds_toArray, List.set_cons_zero, List.set_cons_succ] <;> rfl) (hJ2_5_6_7 (gb225, gb226) _ ⟨hHeld, BK218.out, BK219.out, BK220.out, BK225.out, BK226.out, GW225.out, GE225.out, NB218_225.out, NB225_218.out, NB219_225.out, NB225_219.out, NB220_225.out, NB225_220.out, NB226_225.out, NB225_226.out, GW226.out, GE226.out, NB218_226.out, NB226_218.out, NB219_226.out, NB226_219.out, NB220_226.out, NB226_220.out, HB.out⟩)
  ·
   skip
   rintro gb225 w30 ⟨hS_, h0_, h1_, h2_, h3_, h4_, h5_, h6_, h7_, h8_, h9_, h10_, h11_, h12_⟩
   have n0_ := Aside0.mk h0_
   have n1_ := Aside0.mk h1_
   have n2_ := Aside0.mk h2_
   have n3_ := Aside0.mk h3_
   have n4_ := Aside0.mk h4_
   have n5_ := Aside0.mk h5_
   have n6_ := Aside0.mk h6_
   have n7_ := Aside0.mk h7_
   have n8_ := Aside0.mk h8_
   have n9_ := Aside0.mk h9_
   have n10_ := Aside0.mk h10_
   have n11_ := Aside0.mk h11_
   have n12_ := Aside0.mk h12_
   clear BK218; clear BK219; clear BK220; clear HB
   clear h0_ h1_ h2_ h3_ h4_ h5_ h6_ h7_ h8_ h9_ h10_ h11_ h12_
   have BK218 := n0_
   have BK219 := n1_
   have BK220 := n2_
   have BK225 := n3_
   have GW225 := n4_
   have GE225 := n5_
   have NB218_225 := n6_
   have NB225_218 := n7_
   have NB219_225 := n8_
   have NB225_219 := n9_
   have NB220_225 := n10_
   have NB225_220 := n11_
   have HB := n12_
   clear n0_ n1_ n2_ n3_ n4_ n5_ n6_ n7_ n8_ n9_ n10_ n11_ n12_
   have hHeld : w30.cell? ⟨gb219, 0, none⟩ = some (.int .i64 a1_0) ∧ w30.cell? ⟨gb219, 1, none⟩ = some (.int .i64 a1_1) ∧ w30.cell? ⟨gb218, 0, none⟩ = some (.int .i64 a0_0) ∧ w30.cell? ⟨gb218, 1, none⟩ = some (.int .i64 a0_1) ∧ w30.cell? ⟨gb220, 0, none⟩ = some (.int .i64 a2_0) ∧ w30.cell? ⟨gb220, 1, none⟩ = some (.int .i64 a2_1) := hS_
   refine norm_ (a' := ?_) ?_ ?_
   rotate_left
   ·
    simp only [putAll, Act.put, List.setIfInBounds_toArray, List.set_cons_zero, List.set_cons_succ]
    rfl
   refine one_ (i := 7) (N := some 8) #[true, true, true, true, true, true, true, true, false, false] rfl rfl (one_of HT_.out (by kernel_rfl)) (by decide) (fun K hK => ?_)
   refine box_step ?hg (N := 8) ?hd (cs := #[.int .i64 0, .int .i64 0]) (t := 23) ?hr ?_; (case hd => rfl); (case hg => rfl); (case hr => first | (go_simp; done) | (go_simp; rfl))
   intro gb226 hg w31 hbox hb
   have BK226 := Aside0.mk hbox; have GW226 := mGw HB hg; have GE226 := GW226; replace HB := mSt HB hb; have NB218_226 := mNe BK218 hg; have NB226_218 := mSy NB218_226; replace BK218 := mBb BK218 hb; have NB219_226 := mNe BK219 hg; have NB226_219 := mSy NB219_226; replace BK219 := mBb BK219 hb; have NB220_226 := mNe BK220 hg; have NB226_220 := mSy NB220_226; replace BK220 := mBb BK220 hb; have NB225_226 := mNe BK225 hg; have NB226_225 := mSy NB225_226; replace BK225 := mBb BK225 hb
   clear hb hbox hg
   refine hK.out _ _ ⟨blk_cell BK219.out 0, blk_cell BK219.out 1, blk_cell BK218.out 0, blk_cell BK218.out 1, blk_cell BK220.out 0, blk_cell BK220.out 1⟩ (fun hHeld => ?_)
   clear hK K
   refine norm_ (a' := ?_) ?_ ?_
   rotate_left
   ·
    show Act.put _ (some 8) _ = _
    simp only [Act.put, List.setIfInBounds_toArray, List.set_cons_zero, List.set_cons_succ, i64_w, i32_w]
    rfl
   exact norm_ (by simp only [putAll, Act.put, List.setIfInBounds_toArray, List.set_cons_zero, List.set_cons_succ] <;> rfl) (hJ2_5_6_7 (gb225, gb226) _ ⟨hHeld, BK218.out, BK219.out, BK220.out, BK225.out, BK226.out, GW225.out, GE225.out, NB218_225.out, NB225_218.out, NB219_225.out, NB225_219.out, NB220_225.out, NB225_220.out, NB226_225.out, NB225_226.out, GW226.out, GE226.out, NB218_226.out, NB226_218.out, NB219_226.out, NB226_219.out, NB220_226.out, NB226_220.out, HB.out⟩)
 rintro ⟨gb225, gb226⟩ w31 ⟨hS_, h0_, h1_, h2_, h3_, h4_, h5_, h6_, h7_, h8_, h9_, h10_, h11_, h12_, h13_, h14_, h15_, h16_, h17_, h18_, h19_, h20_, h21_, h22_, h23_⟩
 try dsimp only at h0_ h1_ h2_ h3_ h4_ h5_ h6_ h7_ h8_ h9_ h10_ h11_ h12_ h13_ h14_ h15_ h16_ h17_ h18_ h19_ h20_ h21_ h22_ h23_
 have n0_ := Aside0.mk h0_
 have n1_ := Aside0.mk h1_
 have n2_ := Aside0.mk h2_
 have n3_ := Aside0.mk h3_
 have n4_ := Aside0.mk h4_
 have n5_ := Aside0.mk h5_
 have n6_ := Aside0.mk h6_
 have n7_ := Aside0.mk h7_
 have n8_ := Aside0.mk h8_
 have n9_ := Aside0.mk h9_
 have n10_ := Aside0.mk h10_
 have n11_ := Aside0.mk h11_
 have n12_ := Aside0.mk h12_
 have n13_ := Aside0.mk h13_
 have n14_ := Aside0.mk h14_
 have n15_ := Aside0.mk h15_
 have n16_ := Aside0.mk h16_
 have n17_ := Aside0.mk h17_
 have n18_ := Aside0.mk h18_
 have n19_ := Aside0.mk h19_
 have n20_ := Aside0.mk h20_
 have n21_ := Aside0.mk h21_
 have n22_ := Aside0.mk h22_
 have n23_ := Aside0.mk h23_
 clear BK218; clear BK219; clear BK220; clear HB
 clear h0_ h1_ h2_ h3_ h4_ h5_ h6_ h7_ h8_ h9_ h10_ h11_ h12_ h13_ h14_ h15_ h16_ h17_ h18_ h19_ h20_ h21_ h22_ h23_
 have BK218 := n0_
 have BK219 := n1_
 have BK220 := n2_
 have BK225 := n3_
 have BK226 := n4_
 have GW225 := n5_
 have GE225 := n6_
 have NB218_225 := n7_
 have NB225_218 := n8_
 have NB219_225 := n9_
 have NB225_219 := n10_
 have NB220_225 := n11_
 have NB225_220 := n12_
 have NB226_225 := n13_
 have NB225_226 := n14_
 have GW226 := n15_
 have GE226 := n16_
 have NB218_226 := n17_
 have NB226_218 := n18_
 have NB219_226 := n19_
 have NB226_219 := n20_
 have NB220_226 := n21_
 have NB226_220 := n22_
 have HB := n23_
 clear n0_ n1_ n2_ n3_ n4_ n5_ n6_ n7_ n8_ n9_ n10_ n11_ n12_ n13_ n14_ n15_ n16_ n17_ n18_ n19_ n20_ n21_ n22_ n23_
 have hHeld : w31.cell? ⟨gb219, 0, none⟩ = some (.int .i64 a1_0) ∧ w31.cell? ⟨gb219, 1, none⟩ = some (.int .i64 a1_1) ∧ w31.cell? ⟨gb218, 0, none⟩ = some (.int .i64 a0_0) ∧ w31.cell? ⟨gb218, 1, none⟩ = some (.int .i64 a0_1) ∧ w31.cell? ⟨gb220, 0, none⟩ = some (.int .i64 a2_0) ∧ w31.cell? ⟨gb220, 1, none⟩ = some (.int .i64 a2_1) := hS_
 refine norm_ (a' := ?_) ?_ ?_
 rotate_left
 ·
  simp only [putAll, Act.put, List.setIfInBounds_toArray, List.set_cons_zero, List.set_cons_succ]
  rfl
 refine one_ (i := 8) (N := none) #[true, true, true, true, true, true, true, true, true, false] rfl rfl (one_of HT_.out (by kernel_rfl)) (by decide) (fun K hK => ?_)
 have hs32 : w31.cell? ⟨gb225, 0, none⟩ = some (.int .i64 0) := (blk_cell BK225.out 0).trans rfl
 have hfs32 := blk_frozen BK225.out 0
 have hns32_0 := NB218_225.out
 have hns32_1 := NB219_225.out
 have hns32_2 := NB220_225.out
 have hns32_4 := NB226_225.out
 have hms32_0 := NB225_218.out
 have hms32_1 := NB225_219.out
 have hms32_2 := NB225_220.out
 have hms32_4 := NB225_226.out
 have hs33 : w31.cell? ⟨gb225, 1, none⟩ = some (.int .i64 0) := (blk_cell BK225.out 1).trans rfl
 have hfs33 := blk_frozen BK225.out 1
 have hns33_0 := NB218_225.out
 have hns33_1 := NB219_225.out
 have hns33_2 := NB220_225.out
 have hns33_4 := NB226_225.out
 have hms33_0 := NB225_218.out
 have hms33_1 := NB225_219.out
 have hms33_2 := NB225_220.out
 have hms33_4 := NB225_226.out
 refine skip_ (w1 := ?_) (by rfl) rfl ?_ ?_
 rotate_left
 ·
  go_simp
  rfl
 refine hK.out _ _ ⟨((cell_far (p := ⟨gb225, _, none⟩) NB219_225.out _).trans (((cell_far (p := ⟨gb225, _, none⟩) NB219_225.out _).trans (hHeld.1)))), ((cell_far (p := ⟨gb225, _, none⟩) NB219_225.out _).trans (((cell_far (p := ⟨gb225, _, none⟩) NB219_225.out _).trans (hHeld.2.1)))), ((cell_far (p := ⟨gb225, _, none⟩) NB218_225.out _).trans (((cell_far (p := ⟨gb225, _, none⟩) NB218_225.out _).trans (hHeld.2.2.1)))), ((cell_far (p := ⟨gb225, _, none⟩) NB218_225.out _).trans (((cell_far (p := ⟨gb225, _, none⟩) NB218_225.out _).trans (hHeld.2.2.2.1)))), ((cell_far (p := ⟨gb225, _, none⟩) NB220_225.out _).trans (((cell_far (p := ⟨gb225, _, none⟩) NB220_225.out _).trans (hHeld.2.2.2.2.1)))), ((cell_far (p := ⟨gb225, _, none⟩) NB220_225.out _).trans (((cell_far (p := ⟨gb225, _, none⟩) NB220_225.out _).trans (hHeld.2.2.2.2.2))))⟩ (fun hHeld => ?_)
 clear hK K
 refine one_ (i := 9) (N := none) #[true, true, true, true, true, true, true, true, true, true] rfl rfl (one_of HT_.out (by kernel_rfl)) (by decide) (fun K hK => ?_)
 have hs34 : w31.cell? ⟨gb226, 0, none⟩ = some (.int .i64 0) := (blk_cell BK226.out 0).trans rfl
 have hfs34 := blk_frozen BK226.out 0
 have hns34_0 := NB218_226.out
 have hns34_1 := NB219_226.out
 have hns34_2 := NB220_226.out
 have hns34_3 := NB225_226.out
 have hms34_0 := NB226_218.out
 have hms34_1 := NB226_219.out
 have hms34_2 := NB226_220.out
 have hms34_3 := NB226_225.out
 have hs35 : w31.cell? ⟨gb226, 1, none⟩ = some (.int .i64 0) := (blk_cell BK226.out 1).trans rfl
 have hfs35 := blk_frozen BK226.out 1
 have hns35_0 := NB218_226.out
 have hns35_1 := NB219_226.out
 have hns35_2 := NB220_226.out
 have hns35_3 := NB225_226.out
 have hms35_0 := NB226_218.out
 have hms35_1 := NB226_219.out
 have hms35_2 := NB226_220.out
 have hms35_3 := NB226_225.out
 refine skip_ (w1 := ?_) (by rfl) rfl ?_ ?_
 rotate_left
 ·
  go_simp
  rfl
 refine hK.out _ _ ⟨((cell_far (p := ⟨gb226, _, none⟩) NB219_226.out _).trans (((cell_far (p := ⟨gb226, _, none⟩) NB219_226.out _).trans (hHeld.1)))), ((cell_far (p := ⟨gb226, _, none⟩) NB219_226.out _).trans (((cell_far (p := ⟨gb226, _, none⟩) NB219_226.out _).trans (hHeld.2.1)))), ((cell_far (p := ⟨gb226, _, none⟩) NB218_226.out _).trans (((cell_far (p := ⟨gb226, _, none⟩) NB218_226.out _).trans (hHeld.2.2.1)))), ((cell_far (p := ⟨gb226, _, none⟩) NB218_226.out _).trans (((cell_far (p := ⟨gb226, _, none⟩) NB218_226.out _).trans (hHeld.2.2.2.1)))), ((cell_far (p := ⟨gb226, _, none⟩) NB220_226.out _).trans (((cell_far (p := ⟨gb226, _, none⟩) NB220_226.out _).trans (hHeld.2.2.2.2.1)))), ((cell_far (p := ⟨gb226, _, none⟩) NB220_226.out _).trans (((cell_far (p := ⟨gb226, _, none⟩) NB220_226.out _).trans (hHeld.2.2.2.2.2))))⟩ (fun hHeld => ?_)
 clear hK K
 refine done_ (done_of HT_.out (by kernel_rfl)) ?_
 by_cases c17 : t227 < 0
 ·
  rw [if_pos c17] at H
  have c17b0 : decide (t227 < 0) = true := decide_eq_true c17
  clear c17
  obtain rfl := Option.some.inj H
  have hnb36 := NB225_218.out
  have hnc36 := NB218_225.out
  have hnb37 := NB225_219.out
  have hnc37 := NB219_225.out
  have hnb38 := NB225_220.out
  have hnc38 := NB220_225.out
  have hnb39 := NB225_226.out
  have hnc39 := NB226_225.out
  have hcz40 := blk_cell BK225.out; have hfz40 := blk_frozen BK225.out
  have hnb41 := NB226_218.out
  have hnc41 := NB218_226.out
  have hnb42 := NB226_219.out
  have hnc42 := NB219_226.out
  have hnb43 := NB226_220.out
  have hnc43 := NB220_226.out
  have hcz44 := blk_cell BK226.out; have hfz44 := blk_frozen BK226.out
  try go_wp2_with (first | ((with_reducible refine gate_callee (f := 33) rfl ?_); refine goesL_ (some 24) rfl rfl Try.func33 (by kernel_rfl) rfl #[.agg #[.int .i64 t221, .int .i64 t222], .agg #[.int .i64 t223, .int .i64 t224]] rfl (by (try simp only [List.map_toArray, List.map_cons, List.map_nil]); first | done | rfl | (simp only [List.length_drop, List.length_take]; rfl)) ?_; (with_reducible refine (geom_cross.calls t221 t222 t223 t224 t227 _ A16.out).mono ?_); rintro e w45 ⟨rfl, hb⟩; refine ⟨_, rfl, ?_⟩; replace BK218 := Aside0.mk (blk_below (g := gb218) (o := .cells #[.int .i64 a0_0, .int .i64 a0_1] 23 (0, 0)) (by (with_reducible repeat (first | refine blk_drewN ?_ _ | refine blk_drew ?_ | refine blk_alloc ?_ _)); refine blk_far ?_ NB218_226.out _; (with_reducible repeat (first | refine blk_drewN ?_ _ | refine blk_drew ?_ | refine blk_alloc ?_ _)); refine blk_far ?_ NB218_226.out _; (with_reducible repeat (first | refine blk_drewN ?_ _ | refine blk_drew ?_ | refine blk_alloc ?_ _)); refine blk_far ?_ NB218_225.out _; (with_reducible repeat (first | refine blk_drewN ?_ _ | refine blk_drew ?_ | refine blk_alloc ?_ _)); refine blk_far ?_ NB218_225.out _; (with_reducible repeat (first | refine blk_drewN ?_ _ | refine blk_drew ?_ | refine blk_alloc ?_ _)); exact BK218.out) hb); replace BK219 := Aside0.mk (blk_below (g := gb219) (o := .cells #[.int .i64 a1_0, .int .i64 a1_1] 23 (0, 0)) (by (with_reducible repeat (first | refine blk_drewN ?_ _ | refine blk_drew ?_ | refine blk_alloc ?_ _)); refine blk_far ?_ NB219_226.out _; (with_reducible repeat (first | refine blk_drewN ?_ _ | refine blk_drew ?_ | refine blk_alloc ?_ _)); refine blk_far ?_ NB219_226.out _; (with_reducible repeat (first | refine blk_drewN ?_ _ | refine blk_drew ?_ | refine blk_alloc ?_ _)); refine blk_far ?_ NB219_225.out _; (with_reducible repeat (first | refine blk_drewN ?_ _ | refine blk_drew ?_ | refine blk_alloc ?_ _)); refine blk_far ?_ NB219_225.out _; (with_reducible repeat (first | refine blk_drewN ?_ _ | refine blk_drew ?_ | refine blk_alloc ?_ _)); exact BK219.out) hb); replace BK220 := Aside0.mk (blk_below (g := gb220) (o := .cells #[.int .i64 a2_0, .int .i64 a2_1] 23 (0, 0)) (by (with_reducible repeat (first | refine blk_drewN ?_ _ | refine blk_drew ?_ | refine blk_alloc ?_ _)); refine blk_far ?_ NB220_226.out _; (with_reducible repeat (first | refine blk_drewN ?_ _ | refine blk_drew ?_ | refine blk_alloc ?_ _)); refine blk_far ?_ NB220_226.out _; (with_reducible repeat (first | refine blk_drewN ?_ _ | refine blk_drew ?_ | refine blk_alloc ?_ _)); refine blk_far ?_ NB220_225.out _; (with_reducible repeat (first | refine blk_drewN ?_ _ | refine blk_drew ?_ | refine blk_alloc ?_ _)); refine blk_far ?_ NB220_225.out _; (with_reducible repeat (first | refine blk_drewN ?_ _ | refine blk_drew ?_ | refine blk_alloc ?_ _)); exact BK220.out) hb); replace BK225 := Aside0.mk (blk_below (g := gb225) (o := .cells #[.int .i64 t221, .int .i64 t222] 23 (0, 0)) (by (with_reducible repeat (first | refine blk_drewN ?_ _ | refine blk_drew ?_ | refine blk_alloc ?_ _)); refine blk_far ?_ NB225_226.out _; (with_reducible repeat (first | refine blk_drewN ?_ _ | refine blk_drew ?_ | refine blk_alloc ?_ _)); refine blk_far ?_ NB225_226.out _; (with_reducible repeat (first | refine blk_drewN ?_ _ | refine blk_drew ?_ | refine blk_alloc ?_ _)); refine blk_put (cs := #[.int .i64 t221, .int .i64 0]) ?_ 1 _ rfl; (with_reducible repeat (first | refine blk_drewN ?_ _ | refine blk_drew ?_ | refine blk_alloc ?_ _)); refine blk_put (cs := #[.int .i64 0, .int .i64 0]) ?_ 0 _ rfl; (with_reducible repeat (first | refine blk_drewN ?_ _ | refine blk_drew ?_ | refine blk_alloc ?_ _)); exact BK225.out) hb); replace BK226 := Aside0.mk (blk_below (g := gb226) (o := .cells #[.int .i64 t223, .int .i64 t224] 23 (0, 0)) (by (with_reducible repeat (first | refine blk_drewN ?_ _ | refine blk_drew ?_ | refine blk_alloc ?_ _)); refine blk_put (cs := #[.int .i64 t223, .int .i64 0]) ?_ 1 _ rfl; (with_reducible repeat (first | refine blk_drewN ?_ _ | refine blk_drew ?_ | refine blk_alloc ?_ _)); refine blk_put (cs := #[.int .i64 0, .int .i64 0]) ?_ 0 _ rfl; (with_reducible repeat (first | refine blk_drewN ?_ _ | refine blk_drew ?_ | refine blk_alloc ?_ _)); refine blk_far ?_ NB226_225.out _; (with_reducible repeat (first | refine blk_drewN ?_ _ | refine blk_drew ?_ | refine blk_alloc ?_ _)); refine blk_far ?_ NB226_225.out _; (with_reducible repeat (first | refine blk_drewN ?_ _ | refine blk_drew ?_ | refine blk_alloc ?_ _)); exact BK226.out) hb); replace HB := Aside0.mk (below_step (by repeat (first | (with_reducible first | exact HB.out | apply below_alloc | apply pw_below_drewN | apply below_drew1 | refine below_set ?_ GE218.out | refine below_set ?_ GE219.out | refine below_set ?_ GE220.out | refine below_set ?_ GE225.out | refine below_set ?_ GE226.out) | exact HB.out)) hb); (try clear hb)))
  replace BK218 := Aside0.mk (blk_drew BK218.out); replace BK219 := Aside0.mk (blk_drew BK219.out); replace BK220 := Aside0.mk (blk_drew BK220.out); replace BK225 := Aside0.mk (blk_drew BK225.out); replace BK226 := Aside0.mk (blk_drew BK226.out); replace HB := Aside0.mk (below_drew1 HB.out)
  refine start_ (n := 16) (S := fun w' => True) (ds := []) #[false, false, false, false, false, false, false, false, false, false, false, false, false, false, false, false] (by kernel_rfl) rfl rfl trivial (fun hHeld => ?_); refine with_tabW geom_hull_fn1.tab5 geom_hull_fn1.bits5 (fun HT_ HW_ => ?_)
  generalize w45.drew = w46 at BK218 BK219 BK220 BK225 BK226 HB hHeld ⊢
  refine pure_ (i := 0) (N := some 25) (v := ?_) (a' := ?_) #[true, false, false, false, false, false, false, false, false, false, false, false, false, false, false, false] rfl rfl (any_of HT_.out (by kernel_rfl)) (fun _ _ _ h => h) (Or.inl ⟨by rfl, ?_⟩) ?_ ?_
  rotate_left
  ·
   intro w'
   go_simp
   with_reducible rfl
  rotate_left
  ·
   simp only [Act.put, List.setIfInBounds_toArray, List.set_cons_zero, List.set_cons_succ, i64_w, i32_w]
   rfl
  refine pure_ (i := 1) (N := some 26) (v := ?_) (a' := ?_) #[true, true, false, false, false, false, false, false, false, false, false, false, false, false, false, false] rfl rfl (any_of HT_.out (by kernel_rfl)) (fun _ _ _ h => h) (Or.inl ⟨by rfl, ?_⟩) ?_ ?_
  rotate_left
  ·
   intro w'
   go_simp
   with_reducible rfl
  rotate_left
  ·
   simp only [Act.put, List.setIfInBounds_toArray, List.set_cons_zero, List.set_cons_succ, i64_w, i32_w]
   rfl
  refine pure_ (i := 2) (N := some 27) (v := ?_) (a' := ?_) #[true, true, true, false, false, false, false, false, false, false, false, false, false, false, false, false] rfl rfl (any_of HT_.out (by kernel_rfl)) (fun _ _ _ h => h) (Or.inl ⟨by rfl, ?_⟩) ?_ ?_
  rotate_left
  ·
   intro w'
   go_simp
   with_reducible rfl
  rotate_left
  ·
   simp only [Act.put, List.setIfInBounds_toArray, List.set_cons_zero, List.set_cons_succ, i64_w, i32_w]
   rfl
  refine pure_ (i := 3) (N := some 28) (v := undef) (a' := ?_) #[true, true, true, true, false, false, false, false, false, false, false, false, false, false, false, false] rfl rfl (any_of HT_.out (by kernel_rfl)) (fun _ _ _ h => h) (Or.inr ⟨by rfl, rfl⟩) ?_ ?_
  rotate_left
  ·
   simp only [Act.put, List.setIfInBounds_toArray, List.set_cons_zero, List.set_cons_succ, i64_w, i32_w]
   rfl
  refine pure_ (i := 4) (N := some 29) (v := undef) (a' := ?_) #[true, true, true, true, true, false, false, false, false, false, false, false, false, false, false, false] rfl rfl (any_of HT_.out (by kernel_rfl)) (fun _ _ _ h => h) (Or.inr ⟨by rfl, rfl⟩) ?_ ?_
  rotate_left
  ·
   simp only [Act.put, List.setIfInBounds_toArray, List.set_cons_zero, List.set_cons_succ, i64_w, i32_w]
   rfl
  refine pure_ (i := 5) (N := some 30) (v := undef) (a' := ?_) #[true, true, true, true, true, true, false, false, false, false, false, false, false, false, false, false] rfl rfl (any_of HT_.out (by kernel_rfl)) (fun _ _ _ h => h) (Or.inr ⟨by rfl, rfl⟩) ?_ ?_
  rotate_left
  ·
   simp only [Act.put, List.setIfInBounds_toArray, List.set_cons_zero, List.set_cons_succ, i64_w, i32_w]
   rfl
  refine pure_ (i := 6) (N := some 31) (v := undef) (a' := ?_) #[true, true, true, true, true, true, true, false, false, false, false, false, false, false, false, false] rfl rfl (any_of HT_.out (by kernel_rfl)) (fun _ _ _ h => h) (Or.inr ⟨by rfl, rfl⟩) ?_ ?_
  rotate_left
  ·
   simp only [Act.put, List.setIfInBounds_toArray, List.set_cons_zero, List.set_cons_succ, i64_w, i32_w]
   rfl
  refine pure_ (i := 7) (N := some 32) (v := undef) (a' := ?_) #[true, true, true, true, true, true, true, true, false, false, false, false, false, false, false, false] rfl rfl (any_of HT_.out (by kernel_rfl)) (fun _ _ _ h => h) (Or.inr ⟨by rfl, rfl⟩) ?_ ?_
  rotate_left
  ·
   simp only [Act.put, List.setIfInBounds_toArray, List.set_cons_zero, List.set_cons_succ, i64_w, i32_w]
   rfl
  refine pure_ (i := 8) (N := some 33) (v := undef) (a' := ?_) #[true, true, true, true, true, true, true, true, true, false, false, false, false, false, false, false] rfl rfl (any_of HT_.out (by kernel_rfl)) (fun _ _ _ h => h) (Or.inr ⟨by rfl, rfl⟩) ?_ ?_
  rotate_left
  ·
   simp only [Act.put, List.setIfInBounds_toArray, List.set_cons_zero, List.set_cons_succ, i64_w, i32_w]
   rfl
  refine pure_ (i := 9) (N := some 34) (v := undef) (a' := ?_) #[true, true, true, true, true, true, true, true, true, true, false, false, false, false, false, false] rfl rfl (any_of HT_.out (by kernel_rfl)) (fun _ _ _ h => h) (Or.inr ⟨by rfl, rfl⟩) ?_ ?_
  rotate_left
  ·
   simp only [Act.put, List.setIfInBounds_toArray, List.set_cons_zero, List.set_cons_succ, i64_w, i32_w]
   rfl
  refine pure_ (i := 10) (N := some 35) (v := undef) (a' := ?_) #[true, true, true, true, true, true, true, true, true, true, true, false, false, false, false, false] rfl rfl (any_of HT_.out (by kernel_rfl)) (fun _ _ _ h => h) (Or.inr ⟨by rfl, rfl⟩) ?_ ?_
  rotate_left
  ·
   simp only [Act.put, List.setIfInBounds_toArray, List.set_cons_zero, List.set_cons_succ, i64_w, i32_w]
   rfl
  refine pure_ (i := 11) (N := some 36) (v := undef) (a' := ?_) #[true, true, true, true, true, true, true, true, true, true, true, true, false, false, false, false] rfl rfl (any_of HT_.out (by kernel_rfl)) (fun _ _ _ h => h) (Or.inr ⟨by rfl, rfl⟩) ?_ ?_
  rotate_left
  ·
   simp only [Act.put, List.setIfInBounds_toArray, List.set_cons_zero, List.set_cons_succ, i64_w, i32_w]
   rfl
  refine pure_ (i := 12) (N := some 37) (v := undef) (a' := ?_) #[true, true, true, true, true, true, true, true, true, true, true, true, true, false, false, false] rfl rfl (any_of HT_.out (by kernel_rfl)) (fun _ _ _ h => h) (Or.inr ⟨by rfl, rfl⟩) ?_ ?_
  rotate_left
  ·
   simp only [Act.put, List.setIfInBounds_toArray, List.set_cons_zero, List.set_cons_succ, i64_w, i32_w]
   rfl
  refine pure_ (i := 13) (N := some 38) (v := undef) (a' := ?_) #[true, true, true, true, true, true, true, true, true, true, true, true, true, true, false, false] rfl rfl (any_of HT_.out (by kernel_rfl)) (fun _ _ _ h => h) (Or.inr ⟨by rfl, rfl⟩) ?_ ?_
  rotate_left
  ·
   simp only [Act.put, List.setIfInBounds_toArray, List.set_cons_zero, List.set_cons_succ, i64_w, i32_w]
   rfl
  refine pure_ (i := 14) (N := some 39) (v := ?_) (a' := ?_) #[true, true, true, true, true, true, true, true, true, true, true, true, true, true, true, false] rfl rfl (any_of HT_.out (by kernel_rfl)) (fun _ _ _ h => h) (Or.inl ⟨by rfl, ?_⟩) ?_ ?_
  rotate_left
  ·
   intro w'
   go_simp
   with_reducible rfl
  rotate_left
  ·
   simp only [Act.put, List.setIfInBounds_toArray, List.set_cons_zero, List.set_cons_succ, i64_w, i32_w]
   rfl
  refine pure_ (i := 15) (N := some 6) (v := ?_) (a' := ?_) #[true, true, true, true, true, true, true, true, true, true, true, true, true, true, true, true] rfl rfl (any_of HT_.out (by kernel_rfl)) (fun _ _ _ h => h) (Or.inl ⟨by rfl, ?_⟩) ?_ ?_
  rotate_left
  ·
   intro w'
   go_simp
   with_reducible rfl
  rotate_left
  ·
   simp only [Act.put, List.setIfInBounds_toArray, List.set_cons_zero, List.set_cons_succ, i64_w, i32_w]
   rfl
  refine done_ (done_of HT_.out (by kernel_rfl)) ?_
  try go_wp2
  go_ret
  exact ⟨by first | rfl | (simp [errW_none, errW_some] <;> rfl) | (simp [*, errW_none, errW_some] <;> rfl), HB.out⟩
 rw [if_neg c17] at H
 have c17b0 : decide (t227 < 0) = false := decide_eq_false c17
 clear c17
 by_cases c47 : t227 = 0
 rotate_left
 ·
  rw [if_neg c47] at H
  have c47b0 : (t227 == 0) = false := beq_eq_false_iff_ne.mpr c47
  have c47b1 : (t227 != 0) = true := bne_iff_ne.mpr c47
  obtain rfl := Option.some.inj H
  have hnb99 := NB225_218.out
  have hnc99 := NB218_225.out
  have hnb100 := NB225_219.out
  have hnc100 := NB219_225.out
  have hnb101 := NB225_220.out
  have hnc101 := NB220_225.out
  have hnb102 := NB225_226.out
  have hnc102 := NB226_225.out
  have hcz103 := blk_cell BK225.out; have hfz103 := blk_frozen BK225.out
  have hnb104 := NB226_218.out
  have hnc104 := NB218_226.out
  have hnb105 := NB226_219.out
  have hnc105 := NB219_226.out
  have hnb106 := NB226_220.out
  have hnc106 := NB220_226.out
  have hcz107 := blk_cell BK226.out; have hfz107 := blk_frozen BK226.out
  try go_wp2_with (first | ((with_reducible refine gate_callee (f := 33) rfl ?_); refine goesL_ (some 24) rfl rfl Try.func33 (by kernel_rfl) rfl #[.agg #[.int .i64 t221, .int .i64 t222], .agg #[.int .i64 t223, .int .i64 t224]] rfl (by (try simp only [List.map_toArray, List.map_cons, List.map_nil]); first | done | rfl | (simp only [List.length_drop, List.length_take]; rfl)) ?_; (with_reducible refine (geom_cross.calls t221 t222 t223 t224 t227 _ A16.out).mono ?_); rintro e w108 ⟨rfl, hb⟩; refine ⟨_, rfl, ?_⟩; replace BK218 := Aside0.mk (blk_below (g := gb218) (o := .cells #[.int .i64 a0_0, .int .i64 a0_1] 23 (0, 0)) (by (with_reducible repeat (first | refine blk_drewN ?_ _ | refine blk_drew ?_ | refine blk_alloc ?_ _)); refine blk_far ?_ NB218_226.out _; (with_reducible repeat (first | refine blk_drewN ?_ _ | refine blk_drew ?_ | refine blk_alloc ?_ _)); refine blk_far ?_ NB218_226.out _; (with_reducible repeat (first | refine blk_drewN ?_ _ | refine blk_drew ?_ | refine blk_alloc ?_ _)); refine blk_far ?_ NB218_225.out _; (with_reducible repeat (first | refine blk_drewN ?_ _ | refine blk_drew ?_ | refine blk_alloc ?_ _)); refine blk_far ?_ NB218_225.out _; (with_reducible repeat (first | refine blk_drewN ?_ _ | refine blk_drew ?_ | refine blk_alloc ?_ _)); exact BK218.out) hb); replace BK219 := Aside0.mk (blk_below (g := gb219) (o := .cells #[.int .i64 a1_0, .int .i64 a1_1] 23 (0, 0)) (by (with_reducible repeat (first | refine blk_drewN ?_ _ | refine blk_drew ?_ | refine blk_alloc ?_ _)); refine blk_far ?_ NB219_226.out _; (with_reducible repeat (first | refine blk_drewN ?_ _ | refine blk_drew ?_ | refine blk_alloc ?_ _)); refine blk_far ?_ NB219_226.out _; (with_reducible repeat (first | refine blk_drewN ?_ _ | refine blk_drew ?_ | refine blk_alloc ?_ _)); refine blk_far ?_ NB219_225.out _; (with_reducible repeat (first | refine blk_drewN ?_ _ | refine blk_drew ?_ | refine blk_alloc ?_ _)); refine blk_far ?_ NB219_225.out _; (with_reducible repeat (first | refine blk_drewN ?_ _ | refine blk_drew ?_ | refine blk_alloc ?_ _)); exact BK219.out) hb); replace BK220 := Aside0.mk (blk_below (g := gb220) (o := .cells #[.int .i64 a2_0, .int .i64 a2_1] 23 (0, 0)) (by (with_reducible repeat (first | refine blk_drewN ?_ _ | refine blk_drew ?_ | refine blk_alloc ?_ _)); refine blk_far ?_ NB220_226.out _; (with_reducible repeat (first | refine blk_drewN ?_ _ | refine blk_drew ?_ | refine blk_alloc ?_ _)); refine blk_far ?_ NB220_226.out _; (with_reducible repeat (first | refine blk_drewN ?_ _ | refine blk_drew ?_ | refine blk_alloc ?_ _)); refine blk_far ?_ NB220_225.out _; (with_reducible repeat (first | refine blk_drewN ?_ _ | refine blk_drew ?_ | refine blk_alloc ?_ _)); refine blk_far ?_ NB220_225.out _; (with_reducible repeat (first | refine blk_drewN ?_ _ | refine blk_drew ?_ | refine blk_alloc ?_ _)); exact BK220.out) hb); replace BK225 := Aside0.mk (blk_below (g := gb225) (o := .cells #[.int .i64 t221, .int .i64 t222] 23 (0, 0)) (by (with_reducible repeat (first | refine blk_drewN ?_ _ | refine blk_drew ?_ | refine blk_alloc ?_ _)); refine blk_far ?_ NB225_226.out _; (with_reducible repeat (first | refine blk_drewN ?_ _ | refine blk_drew ?_ | refine blk_alloc ?_ _)); refine blk_far ?_ NB225_226.out _; (with_reducible repeat (first | refine blk_drewN ?_ _ | refine blk_drew ?_ | refine blk_alloc ?_ _)); refine blk_put (cs := #[.int .i64 t221, .int .i64 0]) ?_ 1 _ rfl; (with_reducible repeat (first | refine blk_drewN ?_ _ | refine blk_drew ?_ | refine blk_alloc ?_ _)); refine blk_put (cs := #[.int .i64 0, .int .i64 0]) ?_ 0 _ rfl; (with_reducible repeat (first | refine blk_drewN ?_ _ | refine blk_drew ?_ | refine blk_alloc ?_ _)); exact BK225.out) hb); replace BK226 := Aside0.mk (blk_below (g := gb226) (o := .cells #[.int .i64 t223, .int .i64 t224] 23 (0, 0)) (by (with_reducible repeat (first | refine blk_drewN ?_ _ | refine blk_drew ?_ | refine blk_alloc ?_ _)); refine blk_put (cs := #[.int .i64 t223, .int .i64 0]) ?_ 1 _ rfl; (with_reducible repeat (first | refine blk_drewN ?_ _ | refine blk_drew ?_ | refine blk_alloc ?_ _)); refine blk_put (cs := #[.int .i64 0, .int .i64 0]) ?_ 0 _ rfl; (with_reducible repeat (first | refine blk_drewN ?_ _ | refine blk_drew ?_ | refine blk_alloc ?_ _)); refine blk_far ?_ NB226_225.out _; (with_reducible repeat (first | refine blk_drewN ?_ _ | refine blk_drew ?_ | refine blk_alloc ?_ _)); refine blk_far ?_ NB226_225.out _; (with_reducible repeat (first | refine blk_drewN ?_ _ | refine blk_drew ?_ | refine blk_alloc ?_ _)); exact BK226.out) hb); replace HB := Aside0.mk (below_step (by repeat (first | (with_reducible first | exact HB.out | apply below_alloc | apply pw_below_drewN | apply below_drew1 | refine below_set ?_ GE218.out | refine below_set ?_ GE219.out | refine below_set ?_ GE220.out | refine below_set ?_ GE225.out | refine below_set ?_ GE226.out) | exact HB.out)) hb); (try clear hb)))
  replace BK218 := Aside0.mk (blk_drew BK218.out); replace BK219 := Aside0.mk (blk_drew BK219.out); replace BK220 := Aside0.mk (blk_drew BK220.out); replace BK225 := Aside0.mk (blk_drew BK225.out); replace BK226 := Aside0.mk (blk_drew BK226.out); replace HB := Aside0.mk (below_drew1 HB.out)
  refine start_ (n := 16) (S := fun w' => True) (ds := []) #[false, false, false, false, false, false, false, false, false, false, false, false, false, false, false, false] (by kernel_rfl) rfl rfl trivial (fun hHeld => ?_); refine with_tabW geom_hull_fn1.tab5 geom_hull_fn1.bits5 (fun HT_ HW_ => ?_)
  generalize w108.drew = w109 at BK218 BK219 BK220 BK225 BK226 HB hHeld ⊢
  refine pure_ (i := 0) (N := some 25) (v := ?_) (a' := ?_) #[true, false, false, false, false, false, false, false, false, false, false, false, false, false, false, false] rfl rfl (any_of HT_.out (by kernel_rfl)) (fun _ _ _ h => h) (Or.inl ⟨by rfl, ?_⟩) ?_ ?_
  rotate_left
  ·
   intro w'
   go_simp
   with_reducible rfl
  rotate_left
  ·
   simp only [Act.put, List.setIfInBounds_toArray, List.set_cons_zero, List.set_cons_succ, i64_w, i32_w]
   rfl
  refine pure_ (i := 1) (N := some 26) (v := ?_) (a' := ?_) #[true, true, false, false, false, false, false, false, false, false, false, false, false, false, false, false] rfl rfl (any_of HT_.out (by kernel_rfl)) (fun _ _ _ h => h) (Or.inl ⟨by rfl, ?_⟩) ?_ ?_
  rotate_left
  ·
   intro w'
   go_simp
   with_reducible rfl
  rotate_left
  ·
   simp only [Act.put, List.setIfInBounds_toArray, List.set_cons_zero, List.set_cons_succ, i64_w, i32_w]
   rfl
  refine pure_ (i := 2) (N := some 27) (v := ?_) (a' := ?_) #[true, true, true, false, false, false, false, false, false, false, false, false, false, false, false, false] rfl rfl (any_of HT_.out (by kernel_rfl)) (fun _ _ _ h => h) (Or.inl ⟨by rfl, ?_⟩) ?_ ?_
  rotate_left
  ·
   intro w'
   go_simp
   with_reducible rfl
  rotate_left
  ·
   simp only [Act.put, List.setIfInBounds_toArray, List.set_cons_zero, List.set_cons_succ, i64_w, i32_w]
   rfl
  refine pure_ (i := 3) (N := some 28) (v := ?_) (a' := ?_) #[true, true, true, true, false, false, false, false, false, false, false, false, false, false, false, false] rfl rfl (any_of HT_.out (by kernel_rfl)) (fun _ _ _ h => h) (Or.inl ⟨by rfl, ?_⟩) ?_ ?_
  rotate_left
  ·
   intro w'
   go_simp
   with_reducible rfl
  rotate_left
  ·
   simp only [Act.put, List.setIfInBounds_toArray, List.set_cons_zero, List.set_cons_succ, i64_w, i32_w]
   rfl
  refine pure_ (i := 4) (N := some 29) (v := ?_) (a' := ?_) #[true, true, true, true, true, false, false, false, false, false, false, false, false, false, false, false] rfl rfl (any_of HT_.out (by kernel_rfl)) (fun _ _ _ h => h) (Or.inl ⟨by rfl, ?_⟩) ?_ ?_
  rotate_left
  ·
   intro w'
   go_simp
   with_reducible rfl
  rotate_left
  ·
   simp only [Act.put, List.setIfInBounds_toArray, List.set_cons_zero, List.set_cons_succ, i64_w, i32_w]
   rfl
  refine pure_ (i := 5) (N := some 30) (v := ?_) (a' := ?_) #[true, true, true, true, true, true, false, false, false, false, false, false, false, false, false, false] rfl rfl (any_of HT_.out (by kernel_rfl)) (fun _ _ _ h => h) (Or.inl ⟨by rfl, ?_⟩) ?_ ?_
  rotate_left
  ·
   intro w'
   go_simp
   with_reducible rfl
  rotate_left
  ·
   simp only [Act.put, List.setIfInBounds_toArray, List.set_cons_zero, List.set_cons_succ, i64_w, i32_w]
   rfl
  refine pure_ (i := 6) (N := some 31) (v := undef) (a' := ?_) #[true, true, true, true, true, true, true, false, false, false, false, false, false, false, false, false] rfl rfl (any_of HT_.out (by kernel_rfl)) (fun _ _ _ h => h) (Or.inr ⟨by rfl, rfl⟩) ?_ ?_
  rotate_left
  ·
   simp only [Act.put, List.setIfInBounds_toArray, List.set_cons_zero, List.set_cons_succ, i64_w, i32_w]
   rfl
  refine pure_ (i := 7) (N := some 32) (v := undef) (a' := ?_) #[true, true, true, true, true, true, true, true, false, false, false, false, false, false, false, false] rfl rfl (any_of HT_.out (by kernel_rfl)) (fun _ _ _ h => h) (Or.inr ⟨by rfl, rfl⟩) ?_ ?_
  rotate_left
  ·
   simp only [Act.put, List.setIfInBounds_toArray, List.set_cons_zero, List.set_cons_succ, i64_w, i32_w]
   rfl
  refine pure_ (i := 8) (N := some 33) (v := undef) (a' := ?_) #[true, true, true, true, true, true, true, true, true, false, false, false, false, false, false, false] rfl rfl (any_of HT_.out (by kernel_rfl)) (fun _ _ _ h => h) (Or.inr ⟨by rfl, rfl⟩) ?_ ?_
  rotate_left
  ·
   simp only [Act.put, List.setIfInBounds_toArray, List.set_cons_zero, List.set_cons_succ, i64_w, i32_w]
   rfl
  refine pure_ (i := 9) (N := some 34) (v := undef) (a' := ?_) #[true, true, true, true, true, true, true, true, true, true, false, false, false, false, false, false] rfl rfl (any_of HT_.out (by kernel_rfl)) (fun _ _ _ h => h) (Or.inr ⟨by rfl, rfl⟩) ?_ ?_
  rotate_left
  ·
   simp only [Act.put, List.setIfInBounds_toArray, List.set_cons_zero, List.set_cons_succ, i64_w, i32_w]
   rfl
  refine pure_ (i := 10) (N := some 35) (v := undef) (a' := ?_) #[true, true, true, true, true, true, true, true, true, true, true, false, false, false, false, false] rfl rfl (any_of HT_.out (by kernel_rfl)) (fun _ _ _ h => h) (Or.inr ⟨by rfl, rfl⟩) ?_ ?_
  rotate_left
  ·
   simp only [Act.put, List.setIfInBounds_toArray, List.set_cons_zero, List.set_cons_succ, i64_w, i32_w]
   rfl
  refine pure_ (i := 11) (N := some 36) (v := undef) (a' := ?_) #[true, true, true, true, true, true, true, true, true, true, true, true, false, false, false, false] rfl rfl (any_of HT_.out (by kernel_rfl)) (fun _ _ _ h => h) (Or.inr ⟨by rfl, rfl⟩) ?_ ?_
  rotate_left
  ·
   simp only [Act.put, List.setIfInBounds_toArray, List.set_cons_zero, List.set_cons_succ, i64_w, i32_w]
   rfl
  refine pure_ (i := 12) (N := some 37) (v := undef) (a' := ?_) #[true, true, true, true, true, true, true, true, true, true, true, true, true, false, false, false] rfl rfl (any_of HT_.out (by kernel_rfl)) (fun _ _ _ h => h) (Or.inr ⟨by rfl, rfl⟩) ?_ ?_
  rotate_left
  ·
   simp only [Act.put, List.setIfInBounds_toArray, List.set_cons_zero, List.set_cons_succ, i64_w, i32_w]
   rfl
  refine pure_ (i := 13) (N := some 38) (v := ?_) (a' := ?_) #[true, true, true, true, true, true, true, true, true, true, true, true, true, true, false, false] rfl rfl (any_of HT_.out (by kernel_rfl)) (fun _ _ _ h => h) (Or.inl ⟨by rfl, ?_⟩) ?_ ?_
  rotate_left
  ·
   intro w'
   go_simp
   with_reducible rfl
  rotate_left
  ·
   simp only [Act.put, List.setIfInBounds_toArray, List.set_cons_zero, List.set_cons_succ, i64_w, i32_w]
   rfl
  refine pure_ (i := 14) (N := some 39) (v := ?_) (a' := ?_) #[true, true, true, true, true, true, true, true, true, true, true, true, true, true, true, false] rfl rfl (any_of HT_.out (by kernel_rfl)) (fun _ _ _ h => h) (Or.inl ⟨by rfl, ?_⟩) ?_ ?_
  rotate_left
  ·
   intro w'
   go_simp
   with_reducible rfl
  rotate_left
  ·
   simp only [Act.put, List.setIfInBounds_toArray, List.set_cons_zero, List.set_cons_succ, i64_w, i32_w]
   rfl
  refine pure_ (i := 15) (N := some 6) (v := ?_) (a' := ?_) #[true, true, true, true, true, true, true, true, true, true, true, true, true, true, true, true] rfl rfl (any_of HT_.out (by kernel_rfl)) (fun _ _ _ h => h) (Or.inl ⟨by rfl, ?_⟩) ?_ ?_
  rotate_left
  ·
   intro w'
   go_simp
   with_reducible rfl
  rotate_left
  ·
   simp only [Act.put, List.setIfInBounds_toArray, List.set_cons_zero, List.set_cons_succ, i64_w, i32_w]
   rfl
  refine done_ (done_of HT_.out (by kernel_rfl)) ?_
  try go_wp2
  go_ret
  exact ⟨by first | rfl | (simp [errW_none, errW_some] <;> rfl) | (simp [*, errW_none, errW_some] <;> rfl), HB.out⟩
 rw [if_pos c47] at H
 have c47b0 : (t227 == 0) = true := beq_iff_eq.mpr c47
 have c47b1 : (t227 != 0) = false := bne_eq_false_iff_eq.mpr c47
 clear c47
 replace H := Option.bind_eq_some_iff.mp H
 obtain ⟨t228, A480, H⟩ := H
 try dsimp only at H
 have A48 := Aside0.mk A480
 clear A480
 replace H := Option.bind_eq_some_iff.mp H
 obtain ⟨t229, A490, H⟩ := H
 try dsimp only at H
 have A49 := Aside0.mk A490
 clear A490
 obtain rfl := Option.some.inj H
 have hnb68 := NB225_218.out
 have hnc68 := NB218_225.out
 have hnb69 := NB225_219.out
 have hnc69 := NB219_225.out
 have hnb70 := NB225_220.out
 have hnc70 := NB220_225.out
 have hnb71 := NB225_226.out
 have hnc71 := NB226_225.out
 have hcz72 := blk_cell BK225.out; have hfz72 := blk_frozen BK225.out
 have hnb73 := NB226_218.out
 have hnc73 := NB218_226.out
 have hnb74 := NB226_219.out
 have hnc74 := NB219_226.out
 have hnb75 := NB226_220.out
 have hnc75 := NB220_226.out
 have hcz76 := blk_cell BK226.out; have hfz76 := blk_frozen BK226.out
 try go_wp2_with (first | ((with_reducible refine gate_callee (f := 33) rfl ?_); refine goesL_ (some 24) rfl rfl Try.func33 (by kernel_rfl) rfl #[.agg #[.int .i64 t221, .int .i64 t222], .agg #[.int .i64 t223, .int .i64 t224]] rfl (by (try simp only [List.map_toArray, List.map_cons, List.map_nil]); first | done | rfl | (simp only [List.length_drop, List.length_take]; rfl)) ?_; (with_reducible refine (geom_cross.calls t221 t222 t223 t224 t227 _ A16.out).mono ?_); rintro e w77 ⟨rfl, hb⟩; refine ⟨_, rfl, ?_⟩; replace BK218 := Aside0.mk (blk_below (g := gb218) (o := .cells #[.int .i64 a0_0, .int .i64 a0_1] 23 (0, 0)) (by (with_reducible repeat (first | refine blk_drewN ?_ _ | refine blk_drew ?_ | refine blk_alloc ?_ _)); refine blk_far ?_ NB218_226.out _; (with_reducible repeat (first | refine blk_drewN ?_ _ | refine blk_drew ?_ | refine blk_alloc ?_ _)); refine blk_far ?_ NB218_226.out _; (with_reducible repeat (first | refine blk_drewN ?_ _ | refine blk_drew ?_ | refine blk_alloc ?_ _)); refine blk_far ?_ NB218_225.out _; (with_reducible repeat (first | refine blk_drewN ?_ _ | refine blk_drew ?_ | refine blk_alloc ?_ _)); refine blk_far ?_ NB218_225.out _; (with_reducible repeat (first | refine blk_drewN ?_ _ | refine blk_drew ?_ | refine blk_alloc ?_ _)); exact BK218.out) hb); replace BK219 := Aside0.mk (blk_below (g := gb219) (o := .cells #[.int .i64 a1_0, .int .i64 a1_1] 23 (0, 0)) (by (with_reducible repeat (first | refine blk_drewN ?_ _ | refine blk_drew ?_ | refine blk_alloc ?_ _)); refine blk_far ?_ NB219_226.out _; (with_reducible repeat (first | refine blk_drewN ?_ _ | refine blk_drew ?_ | refine blk_alloc ?_ _)); refine blk_far ?_ NB219_226.out _; (with_reducible repeat (first | refine blk_drewN ?_ _ | refine blk_drew ?_ | refine blk_alloc ?_ _)); refine blk_far ?_ NB219_225.out _; (with_reducible repeat (first | refine blk_drewN ?_ _ | refine blk_drew ?_ | refine blk_alloc ?_ _)); refine blk_far ?_ NB219_225.out _; (with_reducible repeat (first | refine blk_drewN ?_ _ | refine blk_drew ?_ | refine blk_alloc ?_ _)); exact BK219.out) hb); replace BK220 := Aside0.mk (blk_below (g := gb220) (o := .cells #[.int .i64 a2_0, .int .i64 a2_1] 23 (0, 0)) (by (with_reducible repeat (first | refine blk_drewN ?_ _ | refine blk_drew ?_ | refine blk_alloc ?_ _)); refine blk_far ?_ NB220_226.out _; (with_reducible repeat (first | refine blk_drewN ?_ _ | refine blk_drew ?_ | refine blk_alloc ?_ _)); refine blk_far ?_ NB220_226.out _; (with_reducible repeat (first | refine blk_drewN ?_ _ | refine blk_drew ?_ | refine blk_alloc ?_ _)); refine blk_far ?_ NB220_225.out _; (with_reducible repeat (first | refine blk_drewN ?_ _ | refine blk_drew ?_ | refine blk_alloc ?_ _)); refine blk_far ?_ NB220_225.out _; (with_reducible repeat (first | refine blk_drewN ?_ _ | refine blk_drew ?_ | refine blk_alloc ?_ _)); exact BK220.out) hb); replace BK225 := Aside0.mk (blk_below (g := gb225) (o := .cells #[.int .i64 t221, .int .i64 t222] 23 (0, 0)) (by (with_reducible repeat (first | refine blk_drewN ?_ _ | refine blk_drew ?_ | refine blk_alloc ?_ _)); refine blk_far ?_ NB225_226.out _; (with_reducible repeat (first | refine blk_drewN ?_ _ | refine blk_drew ?_ | refine blk_alloc ?_ _)); refine blk_far ?_ NB225_226.out _; (with_reducible repeat (first | refine blk_drewN ?_ _ | refine blk_drew ?_ | refine blk_alloc ?_ _)); refine blk_put (cs := #[.int .i64 t221, .int .i64 0]) ?_ 1 _ rfl; (with_reducible repeat (first | refine blk_drewN ?_ _ | refine blk_drew ?_ | refine blk_alloc ?_ _)); refine blk_put (cs := #[.int .i64 0, .int .i64 0]) ?_ 0 _ rfl; (with_reducible repeat (first | refine blk_drewN ?_ _ | refine blk_drew ?_ | refine blk_alloc ?_ _)); exact BK225.out) hb); replace BK226 := Aside0.mk (blk_below (g := gb226) (o := .cells #[.int .i64 t223, .int .i64 t224] 23 (0, 0)) (by (with_reducible repeat (first | refine blk_drewN ?_ _ | refine blk_drew ?_ | refine blk_alloc ?_ _)); refine blk_put (cs := #[.int .i64 t223, .int .i64 0]) ?_ 1 _ rfl; (with_reducible repeat (first | refine blk_drewN ?_ _ | refine blk_drew ?_ | refine blk_alloc ?_ _)); refine blk_put (cs := #[.int .i64 0, .int .i64 0]) ?_ 0 _ rfl; (with_reducible repeat (first | refine blk_drewN ?_ _ | refine blk_drew ?_ | refine blk_alloc ?_ _)); refine blk_far ?_ NB226_225.out _; (with_reducible repeat (first | refine blk_drewN ?_ _ | refine blk_drew ?_ | refine blk_alloc ?_ _)); refine blk_far ?_ NB226_225.out _; (with_reducible repeat (first | refine blk_drewN ?_ _ | refine blk_drew ?_ | refine blk_alloc ?_ _)); exact BK226.out) hb); replace HB := Aside0.mk (below_step (by repeat (first | (with_reducible first | exact HB.out | apply below_alloc | apply pw_below_drewN | apply below_drew1 | refine below_set ?_ GE218.out | refine below_set ?_ GE219.out | refine below_set ?_ GE220.out | refine below_set ?_ GE225.out | refine below_set ?_ GE226.out) | exact HB.out)) hb); (try clear hb)))
 replace BK218 := Aside0.mk (blk_drew BK218.out); replace BK219 := Aside0.mk (blk_drew BK219.out); replace BK220 := Aside0.mk (blk_drew BK220.out); replace BK225 := Aside0.mk (blk_drew BK225.out); replace BK226 := Aside0.mk (blk_drew BK226.out); replace HB := Aside0.mk (below_drew1 HB.out)
 refine start_ (n := 16) (S := fun w' => w'.cell? ⟨gb226, 0, none⟩ = some (.int .i64 t223) ∧ w'.cell? ⟨gb226, 1, none⟩ = some (.int .i64 t224) ∧ w'.cell? ⟨gb225, 0, none⟩ = some (.int .i64 t221) ∧ w'.cell? ⟨gb225, 1, none⟩ = some (.int .i64 t222)) (ds := []) #[false, false, false, false, false, false, false, false, false, false, false, false, false, false, false, false] (by kernel_rfl) rfl rfl ⟨(blk_cell BK226.out 0).trans rfl, (blk_cell BK226.out 1).trans rfl, (blk_cell BK225.out 0).trans rfl, (blk_cell BK225.out 1).trans rfl⟩ (fun hHeld => ?_); refine with_tabW geom_hull_fn1.tab5 geom_hull_fn1.bits5 (fun HT_ HW_ => ?_)
 generalize w77.drew = w78 at BK218 BK219 BK220 BK225 BK226 HB hHeld ⊢
 refine pure_ (i := 0) (N := some 25) (v := ?_) (a' := ?_) #[true, false, false, false, false, false, false, false, false, false, false, false, false, false, false, false] rfl rfl (any_of HT_.out (by kernel_rfl)) (fun _ _ _ h => h) (Or.inl ⟨by rfl, ?_⟩) ?_ ?_
 rotate_left
 ·
  intro w'
  go_simp
  with_reducible rfl
 rotate_left
 ·
  simp only [Act.put, List.setIfInBounds_toArray, List.set_cons_zero, List.set_cons_succ, i64_w, i32_w]
  rfl
 refine pure_ (i := 1) (N := some 26) (v := ?_) (a' := ?_) #[true, true, false, false, false, false, false, false, false, false, false, false, false, false, false, false] rfl rfl (any_of HT_.out (by kernel_rfl)) (fun _ _ _ h => h) (Or.inl ⟨by rfl, ?_⟩) ?_ ?_
 rotate_left
 ·
  intro w'
  go_simp
  with_reducible rfl
 rotate_left
 ·
  simp only [Act.put, List.setIfInBounds_toArray, List.set_cons_zero, List.set_cons_succ, i64_w, i32_w]
  rfl
 refine pure_ (i := 2) (N := some 27) (v := ?_) (a' := ?_) #[true, true, true, false, false, false, false, false, false, false, false, false, false, false, false, false] rfl rfl (any_of HT_.out (by kernel_rfl)) (fun _ _ _ h => h) (Or.inl ⟨by rfl, ?_⟩) ?_ ?_
 rotate_left
 ·
  intro w'
  go_simp
  with_reducible rfl
 rotate_left
 ·
  simp only [Act.put, List.setIfInBounds_toArray, List.set_cons_zero, List.set_cons_succ, i64_w, i32_w]
  rfl
 refine pure_ (i := 3) (N := some 28) (v := ?_) (a' := ?_) #[true, true, true, true, false, false, false, false, false, false, false, false, false, false, false, false] rfl rfl (any_of HT_.out (by kernel_rfl)) (fun _ _ _ h => h) (Or.inl ⟨by rfl, ?_⟩) ?_ ?_
 rotate_left
 ·
  intro w'
  go_simp
  with_reducible rfl
 rotate_left
 ·
  simp only [Act.put, List.setIfInBounds_toArray, List.set_cons_zero, List.set_cons_succ, i64_w, i32_w]
  rfl
 refine pure_ (i := 4) (N := some 29) (v := ?_) (a' := ?_) #[true, true, true, true, true, false, false, false, false, false, false, false, false, false, false, false] rfl rfl (any_of HT_.out (by kernel_rfl)) (fun _ _ _ h => h) (Or.inl ⟨by rfl, ?_⟩) ?_ ?_
 rotate_left
 ·
  intro w'
  go_simp
  with_reducible rfl
 rotate_left
 ·
  simp only [Act.put, List.setIfInBounds_toArray, List.set_cons_zero, List.set_cons_succ, i64_w, i32_w]
  rfl
 refine pure_ (i := 5) (N := some 30) (v := ?_) (a' := ?_) #[true, true, true, true, true, true, false, false, false, false, false, false, false, false, false, false] rfl rfl (any_of HT_.out (by kernel_rfl)) (fun _ _ _ h => h) (Or.inl ⟨by rfl, ?_⟩) ?_ ?_
 rotate_left
 ·
  intro w'
  go_simp
  with_reducible rfl
 rotate_left
 ·
  simp only [Act.put, List.setIfInBounds_toArray, List.set_cons_zero, List.set_cons_succ, i64_w, i32_w]
  rfl
 refine take_ (i := 6) (N := some 31) (v := ?_) (a' := ?_) #[true, true, true, true, true, true, true, false, false, false, false, false, false, false, false, false] rfl rfl (take_ofW HT_.out HW_.out (by kernel_rfl)) (fun _ _ _ h => h) (Or.inl ⟨by rfl, ?_⟩) hHeld ?_ ?_
 rotate_left
 ·
  rintro w' ⟨s0, s1, s2, s3⟩
  go_simp
  with_reducible rfl
 rotate_left
 ·
  simp only [Act.put, List.setIfInBounds_toArray, List.set_cons_zero, List.set_cons_succ, i64_w, i32_w]
  rfl
 refine take_ (i := 7) (N := some 32) (v := ?_) (a' := ?_) #[true, true, true, true, true, true, true, true, false, false, false, false, false, false, false, false] rfl rfl (take_ofW HT_.out HW_.out (by kernel_rfl)) (fun _ _ _ h => h) (Or.inl ⟨by rfl, ?_⟩) hHeld ?_ ?_
 rotate_left
 ·
  rintro w' ⟨s0, s1, s2, s3⟩
  go_simp
  with_reducible rfl
 rotate_left
 ·
  simp only [Act.put, List.setIfInBounds_toArray, List.set_cons_zero, List.set_cons_succ, i64_w, i32_w]
  rfl
 refine take_ (i := 9) (N := some 34) (v := ?_) (a' := ?_) #[true, true, true, true, true, true, true, true, false, true, false, false, false, false, false, false] rfl rfl (take_ofW HT_.out HW_.out (by kernel_rfl)) (fun _ _ _ h => h) (Or.inl ⟨by rfl, ?_⟩) hHeld ?_ ?_
 rotate_left
 ·
  rintro w' ⟨s0, s1, s2, s3⟩
  go_simp
  with_reducible rfl
 rotate_left
 ·
  simp only [Act.put, List.setIfInBounds_toArray, List.set_cons_zero, List.set_cons_succ, i64_w, i32_w]
  rfl
 refine take_ (i := 10) (N := some 35) (v := ?_) (a' := ?_) #[true, true, true, true, true, true, true, true, false, true, true, false, false, false, false, false] rfl rfl (take_ofW HT_.out HW_.out (by kernel_rfl)) (fun _ _ _ h => h) (Or.inl ⟨by rfl, ?_⟩) hHeld ?_ ?_
 rotate_left
 ·
  rintro w' ⟨s0, s1, s2, s3⟩
  go_simp
  with_reducible rfl
 rotate_left
 ·
  simp only [Act.put, List.setIfInBounds_toArray, List.set_cons_zero, List.set_cons_succ, i64_w, i32_w]
  rfl
 refine one_ (i := 8) (N := some 33) #[true, true, true, true, true, true, true, true, true, true, true, false, false, false, false, false] rfl rfl (one_of HT_.out (by kernel_rfl)) (by decide) (fun K hK => ?_)
 refine goes_ Try.func30 (by kernel_rfl) rfl #[.agg #[.int .i64 t223, .int .i64 t224], .agg #[.int .i64 t223, .int .i64 t224]] (by rfl) rfl rfl (by (try simp only [List.map_toArray, List.map_cons, List.map_nil]); first | done | rfl | (simp only [List.length_drop, List.length_take]; rfl)) ?_
 with_reducible refine (geom_dot.calls t223 t224 t223 t224 t228 _ A48.out).mono ?_
 rintro e w79 ⟨rfl, hb⟩
 refine ⟨_, rfl, ?_⟩
 replace BK218 := mBb BK218 hb; replace BK219 := mBb BK219 hb; replace BK220 := mBb BK220 hb; replace BK225 := mBb BK225 hb; replace BK226 := mBb BK226 hb; replace HB := mSt HB hb
 (try clear hb)
 (try clear hb2)
 (try clear hk)
 (try clear hi)
 refine hK.out _ _ ⟨blk_cell BK226.out 0, blk_cell BK226.out 1, blk_cell BK225.out 0, blk_cell BK225.out 1⟩ (fun hHeld => ?_)
 clear hK K
 refine norm_ (a' := ?_) ?_ ?_
 rotate_left
 ·
  show Act.put _ (some 33) _ = _
  simp only [Act.put, List.setIfInBounds_toArray, List.set_cons_zero, List.set_cons_succ, i64_w, i32_w]
  rfl
 refine one_ (i := 11) (N := some 36) #[true, true, true, true, true, true, true, true, true, true, true, true, false, false, false, false] rfl rfl (one_of HT_.out (by kernel_rfl)) (by decide) (fun K hK => ?_)
 refine goes_ Try.func30 (by kernel_rfl) rfl #[.agg #[.int .i64 t221, .int .i64 t222], .agg #[.int .i64 t221, .int .i64 t222]] (by rfl) rfl rfl (by (try simp only [List.map_toArray, List.map_cons, List.map_nil]); first | done | rfl | (simp only [List.length_drop, List.length_take]; rfl)) ?_
 with_reducible refine (geom_dot.calls t221 t222 t221 t222 t229 _ A49.out).mono ?_
 rintro e w80 ⟨rfl, hb⟩
 refine ⟨_, rfl, ?_⟩
 replace BK218 := mBb BK218 hb; replace BK219 := mBb BK219 hb; replace BK220 := mBb BK220 hb; replace BK225 := mBb BK225 hb; replace BK226 := mBb BK226 hb; replace HB := mSt HB hb
 (try clear hb)
 (try clear hb2)
 (try clear hk)
 (try clear hi)
 refine hK.out _ _ ⟨blk_cell BK226.out 0, blk_cell BK226.out 1, blk_cell BK225.out 0, blk_cell BK225.out 1⟩ (fun hHeld => ?_)
 clear hK K
 refine norm_ (a' := ?_) ?_ ?_
 rotate_left
 ·
  show Act.put _ (some 36) _ = _
  simp only [Act.put, List.setIfInBounds_toArray, List.set_cons_zero, List.set_cons_succ, i64_w, i32_w]
  rfl
 refine pure_ (i := 12) (N := some 37) (v := ?_) (a' := ?_) #[true, true, true, true, true, true, true, true, true, true, true, true, true, false, false, false] rfl rfl (any_of HT_.out (by kernel_rfl)) (fun _ _ _ h => h) (Or.inl ⟨by rfl, ?_⟩) ?_ ?_
 rotate_left
 ·
  intro w'
  go_simp
  with_reducible rfl
 rotate_left
 ·
  simp only [Act.put, List.setIfInBounds_toArray, List.set_cons_zero, List.set_cons_succ, i64_w, i32_w]
  rfl
 refine pure_ (i := 13) (N := some 38) (v := ?_) (a' := ?_) #[true, true, true, true, true, true, true, true, true, true, true, true, true, true, false, false] rfl rfl (any_of HT_.out (by kernel_rfl)) (fun _ _ _ h => h) (Or.inl ⟨by rfl, ?_⟩) ?_ ?_
 rotate_left
 ·
  intro w'
  go_simp
  with_reducible rfl
 rotate_left
 ·
  simp only [Act.put, List.setIfInBounds_toArray, List.set_cons_zero, List.set_cons_succ, i64_w, i32_w]
  rfl
 refine pure_ (i := 14) (N := some 39) (v := ?_) (a' := ?_) #[true, true, true, true, true, true, true, true, true, true, true, true, true, true, true, false] rfl rfl (any_of HT_.out (by kernel_rfl)) (fun _ _ _ h => h) (Or.inl ⟨by rfl, ?_⟩) ?_ ?_
 rotate_left
 ·
  intro w'
  go_simp
  with_reducible rfl
 rotate_left
 ·
  simp only [Act.put, List.setIfInBounds_toArray, List.set_cons_zero, List.set_cons_succ, i64_w, i32_w]
  rfl
 refine pure_ (i := 15) (N := some 6) (v := ?_) (a' := ?_) #[true, true, true, true, true, true, true, true, true, true, true, true, true, true, true, true] rfl rfl (any_of HT_.out (by kernel_rfl)) (fun _ _ _ h => h) (Or.inl ⟨by rfl, ?_⟩) ?_ ?_
 rotate_left
 ·
  intro w'
  go_simp
  with_reducible rfl
 rotate_left
 ·
  simp only [Act.put, List.setIfInBounds_toArray, List.set_cons_zero, List.set_cons_succ, i64_w, i32_w]
  rfl
 refine done_ (done_of HT_.out (by kernel_rfl)) ?_
 try go_wp2
 go_ret
 exact ⟨by first | rfl | (simp [errW_none, errW_some] <;> rfl) | (simp [*, errW_none, errW_some] <;> rfl), HB.out⟩
end Go.Proofs.Ytmilejcbkpkplaa.PAll
-- Written by wip/tools/handprint.py: walks of the functions that the law reaches; Lean checks them.
namespace Go.Proofs.Ytmilejcbkpkplaa.PAll
open Go.RowKit Go.Proofs.YtmilejcbkpkplaaW.PrintWords Go.Proofs.YtmilejcbkpkplaaW.PrintLast Go.Proofs.YtmilejcbkpkplaaW.PrintMore
attribute [local go_sem] max2_int min2_int max_two min_two max_three min_three max_four min_four   -- for this text's walks alone
set_option linter.unusedVariables false
set_option linter.unusedSimpArgs false
attribute [local go_sem high] eqA23

/-! ### geom_hull: function 41 -/
mutual
def geom_hull.l0 : Nat → List (S23) → List (S23) → Int → Int → Int → Int → Option ((List (S23)))
 | 0, _, _, _, _, _, _ => none
 | k + 1, x0, x20, x21, x22, x232000, x232001 => if x22 < x21 then (if 0 ≤ x22 then (if x22 < (x20.length : Int) then (if ((rd_T23 x20 x22).f0) < x232000 then (geom_hull.l0 k x0 x20 x21 (wrap64 (x22 + 1)) ((rd_T23 x20 x22).f0) ((rd_T23 x20 x22).f1)) else (if ((rd_T23 x20 x22).f0) = x232000 then (if ((rd_T23 x20 x22).f1) < x232001 then (geom_hull.l0 k x0 x20 x21 (wrap64 (x22 + 1)) ((rd_T23 x20 x22).f0) ((rd_T23 x20 x22).f1)) else (geom_hull.l0 k x0 x20 x21 (wrap64 (x22 + 1)) x232000 x232001)) else (geom_hull.l0 k x0 x20 x21 (wrap64 (x22 + 1)) x232000 x232001))) else (none)) else (none)) else (geom_hull.l1 k x0 (([(⟨x232000, x232001⟩ : S23)] : List (S23))))
def geom_hull.l1 : Nat → List (S23) → List (S23) → Option ((List (S23)))
 | 0, _, _ => none
 | k + 1, x0, x7 => if 0 ≤ (wrap64 ((x7.length : Int) - 1)) then (if (wrap64 ((x7.length : Int) - 1)) < (x7.length : Int) then (geom_hull.l2 k x0 x7 x0 (x0.length : Int) 0 ((rd_T23 x7 (wrap64 ((x7.length : Int) - 1))).f0) ((rd_T23 x7 (wrap64 ((x7.length : Int) - 1))).f1) ((rd_T23 x7 (wrap64 ((x7.length : Int) - 1))).f0) ((rd_T23 x7 (wrap64 ((x7.length : Int) - 1))).f1)) else (none)) else (none)
def geom_hull.l2 : Nat → List (S23) → List (S23) → List (S23) → Int → Int → Int → Int → Int → Int → Option ((List (S23)))
 | 0, _, _, _, _, _, _, _, _, _ => none
 | k + 1, x0, x7, x56, x57, x58, x239000, x239001, x240000, x240001 => if x58 < x57 then (if 0 ≤ x58 then (if x58 < (x56.length : Int) then ((geom_hull_fn1.f x239000 x239001 x240000 x240001 ((rd_T23 x56 x58).f0) ((rd_T23 x56 x58).f1)).bind fun t242 => (if t242 = true then (geom_hull.l2 k x0 x7 x56 x57 (wrap64 (x58 + 1)) x239000 x239001 ((rd_T23 x56 x58).f0) ((rd_T23 x56 x58).f1)) else (geom_hull.l2 k x0 x7 x56 x57 (wrap64 (x58 + 1)) x239000 x239001 x240000 x240001))) else (none)) else (none)) else (geom_hull.l3 k x0 x7 (x7.length : Int) 0 x240000 x240001)
def geom_hull.l3 : Nat → List (S23) → List (S23) → Int → Int → Int → Int → Option ((List (S23)))
 | 0, _, _, _, _, _, _ => none
 | k + 1, x0, x7, x70, x71, x240000, x240001 => if x71 < x70 then (if 0 ≤ x71 then (if x71 < (x7.length : Int) then (if (((rd_T23 x7 x71).f0) == x240000 && (((rd_T23 x7 x71).f1) == x240001)) = true then (some x7) else (geom_hull.l3 k x0 x7 x70 (wrap64 (x71 + 1)) x240000 x240001)) else (none)) else (none)) else (if x7.length < 8796093022208 then (geom_hull.l1 k x0 (x7 ++ [(⟨x240000, x240001⟩ : S23)])) else (none))
end
def geom_hull.f (k : Nat) (l0 : List (S23)) : Option ((List (S23))) := if (l0.length : Int) = 0 then (some ([] : List (S23))) else (if 0 < (l0.length : Int) then (geom_hull.l0 k l0 l0 (l0.length : Int) 0 ((rd_T23 l0 0).f0) ((rd_T23 l0 0).f1)) else (none))
theorem geom_hull.mono_l : ∀ k, (∀ y0 y1 y2 y3 y4 y5, LeO (geom_hull.l0 k y0 y1 y2 y3 y4 y5) (geom_hull.l0 (k + 1) y0 y1 y2 y3 y4 y5)) ∧ (∀ y0 y1, LeO (geom_hull.l1 k y0 y1) (geom_hull.l1 (k + 1) y0 y1)) ∧ (∀ y0 y1 y2 y3 y4 y5 y6 y7 y8, LeO (geom_hull.l2 k y0 y1 y2 y3 y4 y5 y6 y7 y8) (geom_hull.l2 (k + 1) y0 y1 y2 y3 y4 y5 y6 y7 y8)) ∧ (∀ y0 y1 y2 y3 y4 y5, LeO (geom_hull.l3 k y0 y1 y2 y3 y4 y5) (geom_hull.l3 (k + 1) y0 y1 y2 y3 y4 y5))
 | 0 => ⟨fun _ _ _ _ _ _ r h => by simp [geom_hull.l0] at h, fun _ _ r h => by simp [geom_hull.l1] at h, fun _ _ _ _ _ _ _ _ _ r h => by simp [geom_hull.l2] at h, fun _ _ _ _ _ _ r h => by simp [geom_hull.l3] at h⟩
 | k + 1 => by
  obtain ⟨ih0, ih1, ih2, ih3⟩ := geom_hull.mono_l k
  refine ⟨?_, ?_, ?_, ?_⟩
  ·
   intro y0 y1 y2 y3 y4 y5
   unfold geom_hull.l0
   repeat' first
   | (with_reducible exact ih0 _ _ _ _ _ _)
   | (with_reducible exact ih1 _ _)
   | (with_reducible exact ih2 _ _ _ _ _ _ _ _ _)
   | (with_reducible exact ih3 _ _ _ _ _ _)
   | (with_reducible exact LeO.refl _)
   | (with_reducible exact LeO.none _)
   | (with_reducible refine LeO.ite ?_ ?_)
   | (with_reducible refine LeO.bind ?_ (fun _ => ?_))
   | exact ih0 _ _ _ _ _ _
   | exact ih1 _ _
   | exact ih2 _ _ _ _ _ _ _ _ _
   | exact ih3 _ _ _ _ _ _
   | exact LeO.none _
   | refine LeO.ite ?_ ?_
   | refine LeO.bind ?_ (fun _ => ?_)
  ·
   intro y0 y1
   unfold geom_hull.l1
   repeat' first
   | (with_reducible exact ih0 _ _ _ _ _ _)
   | (with_reducible exact ih1 _ _)
   | (with_reducible exact ih2 _ _ _ _ _ _ _ _ _)
   | (with_reducible exact ih3 _ _ _ _ _ _)
   | (with_reducible exact LeO.refl _)
   | (with_reducible exact LeO.none _)
   | (with_reducible refine LeO.ite ?_ ?_)
   | (with_reducible refine LeO.bind ?_ (fun _ => ?_))
   | exact ih0 _ _ _ _ _ _
   | exact ih1 _ _
   | exact ih2 _ _ _ _ _ _ _ _ _
   | exact ih3 _ _ _ _ _ _
   | exact LeO.none _
   | refine LeO.ite ?_ ?_
   | refine LeO.bind ?_ (fun _ => ?_)
  ·
   intro y0 y1 y2 y3 y4 y5 y6 y7 y8
   unfold geom_hull.l2
   repeat' first
   | (with_reducible exact ih0 _ _ _ _ _ _)
   | (with_reducible exact ih1 _ _)
   | (with_reducible exact ih2 _ _ _ _ _ _ _ _ _)
   | (with_reducible exact ih3 _ _ _ _ _ _)
   | (with_reducible exact LeO.refl _)
   | (with_reducible exact LeO.none _)
   | (with_reducible refine LeO.ite ?_ ?_)
   | (with_reducible refine LeO.bind ?_ (fun _ => ?_))
   | exact ih0 _ _ _ _ _ _
   | exact ih1 _ _
   | exact ih2 _ _ _ _ _ _ _ _ _
   | exact ih3 _ _ _ _ _ _
   | exact LeO.none _
   | refine LeO.ite ?_ ?_
   | refine LeO.bind ?_ (fun _ => ?_)
  ·
   intro y0 y1 y2 y3 y4 y5
   unfold geom_hull.l3
   repeat' first
   | (with_reducible exact ih0 _ _ _ _ _ _)
   | (with_reducible exact ih1 _ _)
   | (with_reducible exact ih2 _ _ _ _ _ _ _ _ _)
   | (with_reducible exact ih3 _ _ _ _ _ _)
   | (with_reducible exact LeO.refl _)
   | (with_reducible exact LeO.none _)
   | (with_reducible refine LeO.ite ?_ ?_)
   | (with_reducible refine LeO.bind ?_ (fun _ => ?_))
   | exact ih0 _ _ _ _ _ _
   | exact ih1 _ _
   | exact ih2 _ _ _ _ _ _ _ _ _
   | exact ih3 _ _ _ _ _ _
   | exact LeO.none _
   | refine LeO.ite ?_ ?_
   | refine LeO.bind ?_ (fun _ => ?_)
theorem geom_hull.mono : ∀ a0 k, LeO (geom_hull.f k a0) (geom_hull.f (k + 1) a0) := by
 intro a0 k
 obtain ⟨ih0, ih1, ih2, ih3⟩ := geom_hull.mono_l k
 unfold geom_hull.f
 repeat' first
   | (with_reducible exact ih0 _ _ _ _ _ _)
   | (with_reducible exact ih1 _ _)
   | (with_reducible exact ih2 _ _ _ _ _ _ _ _ _)
   | (with_reducible exact ih3 _ _ _ _ _ _)
   | (with_reducible exact LeO.refl _)
   | (with_reducible exact LeO.none _)
   | (with_reducible refine LeO.ite ?_ ?_)
   | (with_reducible refine LeO.bind ?_ (fun _ => ?_))
   | exact ih0 _ _ _ _ _ _
   | exact ih1 _ _
   | exact ih2 _ _ _ _ _ _ _ _ _
   | exact ih3 _ _ _ _ _ _
   | exact LeO.none _
   | refine LeO.ite ?_ ?_
   | refine LeO.bind ?_ (fun _ => ?_)
set_option maxHeartbeats 8000000 in
set_option maxRecDepth 100000 in
theorem geom_hull.calls (k : Nat) (A0 : Option Addr) (c0 : Nat) (l0 : List (S23)) (r : List (S23)) (w : World) (hr0 : Kd.C k23 w A0 l0.length l0) (hc0 : l0.length ≤ c0) (h : geom_hull.f k l0 = some r) :
  Calls Try.prog 41 #[.slice A0 l0.length c0] w fun e w' => ∃ v0_ : Value, e = .returned (v0_) ∧ Kd.R k23 23 w' w.heap.size (fun _ => True) v0_ r ∧ Below w.heap.size w w' := by
 have hu23 := Try.underlying23
 have HR0 := Aside0.mk hr0
 have HC0 := Aside0.mk hc0
 clear hr0 hc0
 have HB := Aside0.mk (Below.refl w.heap.size w)
 have H : (if (l0.length : Int) = 0 then (some ([] : List (S23))) else (if 0 < (l0.length : Int) then (geom_hull.l0 k l0 l0 (l0.length : Int) 0 ((rd_T23 l0 0).f0) ((rd_T23 l0 0).f1)) else (none))) = some r := h
 clear h
 by_cases c2 : (l0.length : Int) = 0
 ·
  rw [if_pos c2] at H
  have c2b0 : ((l0.length : Int) == 0) = true := beq_iff_eq.mpr c2
  have c2b1 : ((l0.length : Int) != 0) = false := bne_eq_false_iff_eq.mpr c2
  clear c2
  obtain rfl := Option.some.inj H
  go_enter Try.func41, Try.ntmps41
  go_wp2
  try go_step3
  try go_wp2
  try rw [Exit.noGoto_ret]
  go_ret
  exact ⟨_, by first | rfl | (simp [errW_none, errW_some] <;> rfl) | (simp [*, errW_none, errW_some] <;> rfl), by first | exact Kd.R_nil _ _ _ _ _ | exact Kd.N_nil _ _ _ _ _ | exact Kd.V_nil _ _ _ _ _ | exact Kd.Q_nil _ _ _ _ _ | exact Kd.S_nil _ _ _ _ _, HB.out⟩
 rw [if_neg c2] at H
 have c2b0 : ((l0.length : Int) == 0) = false := beq_eq_false_iff_ne.mpr c2
 have c2b1 : ((l0.length : Int) != 0) = true := bne_iff_ne.mpr c2
 have c2b2 : ¬ (l0 = []) := fun h_ => c2 (by rw [h_]; rfl)
 by_cases c3 : 0 < (l0.length : Int)
 rotate_left
 ·
  rw [if_neg c3] at H
  exact absurd H (by simp)
 rw [if_pos c3] at H
 have c3b0 : decide (0 < (l0.length : Int)) = true := decide_eq_true c3
 have c3b1 : decide (0 < l0.length) = true := decide_eq_true (by omega)
 clear c3
 have H' := Aside0.mk H
 clear H
 have p230 : 0 ≤ (0 : Int) := (by omega)
 have q230 : 0 < (l0.length : Int) := of_decide_eq_true (by first | (with_reducible assumption) | assumption)
 obtain ⟨ad230, e230, hx230_0, hx230_1⟩ := at_T23 HR0.out 0 p230 q230
 cases e230
 have qi230 : (0 < l0.length) = True := eq_true (by omega)
 (try rw [show ((0 : Int)).toNat = 0 from rfl] at hx230_0)
 (try rw [show 0 * 2 = 0 from rfl] at hx230_0)
 (try rw [Addr.add_zero'] at hx230_0)
 (try rw [show ((0 : Int)).toNat = 0 from rfl] at hx230_1)
 (try rw [show 0 * 2 = 0 from rfl] at hx230_1)
 (try rw [Addr.add_zero'] at hx230_1)
 replace p230 := eq_true p230
 replace q230 := eq_true q230
 go_enter Try.func41, Try.ntmps41
 go_wp2_with (first | ((with_reducible refine gate_dst (N := 3) rfl ?_); refine box_event ?hg (N := 3) ?hd (cs := #[.int .i64 0, .int .i64 0]) (t := 23) ?hr ?_; (case hd => rfl); (case hg => rfl); (case hr => first | (go_simp; done) | (go_simp; rfl)); intro gb231 hg w4 hbox hb; have BK231 := Aside0.mk hbox; have GW231 := mGw HB hg; have GE231 := GW231; replace HB := mSt HB hb; clear hb hbox hg; have hcz5 := blk_cell BK231.out; have hfz5 := blk_frozen BK231.out))
 try go_step3
 try go_wp2_with (first | ((with_reducible refine gate_dst (N := 3) rfl ?_); refine box_event ?hg (N := 3) ?hd (cs := #[.int .i64 0, .int .i64 0]) (t := 23) ?hr ?_; (case hd => rfl); (case hg => rfl); (case hr => first | (go_simp; done) | (go_simp; rfl)); intro gb231 hg w4 hbox hb; have BK231 := Aside0.mk hbox; have GW231 := mGw HB hg; have GE231 := GW231; replace HB := mSt HB hb; clear hb hbox hg; have hcz5 := blk_cell BK231.out; have hfz5 := blk_frozen BK231.out))
 try go_step3
 try go_wp2_with (first | ((with_reducible refine gate_dst (N := 3) rfl ?_); refine box_event ?hg (N := 3) ?hd (cs := #[.int .i64 0, .int .i64 0]) (t := 23) ?hr ?_; (case hd => rfl); (case hg => rfl); (case hr => first | (go_simp; done) | (go_simp; rfl)); intro gb231 hg w4 hbox hb; have BK231 := Aside0.mk hbox; have GW231 := mGw HB hg; have GE231 := GW231; replace HB := mSt HB hb; clear hb hbox hg; have hcz5 := blk_cell BK231.out; have hfz5 := blk_frozen BK231.out))
 try go_step3
 go_loopg [22] k (fun kq v22 w' => ∃ (x22_1 : Int) (x232000_1 : Int) (x232001_1 : Int), v22 = .int .i64 x22_1 ∧ Aside0 (geom_hull.l0 kq l0 l0 (l0.length : Int) x22_1 x232000_1 x232001_1 = some r) ∧ Aside0 (kq ≤ k) ∧ Aside0 (w'.heap[gb231]? = some (.cells #[.int .i64 x232000_1, .int .i64 x232001_1] 23 (0, 0))) ∧ Aside0 (Below w.heap.size w w'))
 case atStart => exact ⟨(0), ((rd_T23 l0 0).f0), ((rd_T23 l0 0).f1), (by first | rfl | (simp; done) | (simp [*]; done)), H', ⟨Nat.le_refl _⟩, ⟨by (with_reducible repeat (first | refine blk_drewN ?_ _ | refine blk_drew ?_ | refine blk_alloc ?_ _)); refine blk_put (cs := #[.int .i64 ((rd_T23 l0 0).f0), .int .i64 0]) ?_ 1 _ rfl; (with_reducible repeat (first | refine blk_drewN ?_ _ | refine blk_drew ?_ | refine blk_alloc ?_ _)); refine blk_put (cs := #[.int .i64 0, .int .i64 0]) ?_ 0 _ rfl; (with_reducible repeat (first | refine blk_drewN ?_ _ | refine blk_drew ?_ | refine blk_alloc ?_ _)); exact BK231.out⟩, ⟨by repeat (first | (with_reducible first | exact HB.out | apply below_alloc | apply pw_below_drewN | apply below_drew1 | refine below_set ?_ GE231.out) | exact HB.out)⟩⟩
 case round =>
  clear H'
  try clear c2; try clear c2b0; try clear c2b1; try clear c2b2; try clear p2; try clear q2; try clear hx2; try clear qi2; try clear c3; try clear c3b0; try clear c3b1; try clear c4; try clear hcz5_0; try clear hcz5_1; try clear hfz5_0; try clear hfz5_1; try clear hx230_0; try clear hx230_1; try clear p230; try clear q230
  obtain ⟨x22_1, x232000_1, x232001_1, rfl, HA, HK1, BK231, HB⟩ := hrel
  cases gk with
  | zero => exact absurd HA.out (by simp [geom_hull.l0])
  | succ k1 =>
   have H := HA.out
   clear HA
   simp only [geom_hull.l0] at H
   by_cases c6 : x22_1 < (l0.length : Int)
   ·
    rw [if_pos c6] at H
    have c6b0 : decide (x22_1 < (l0.length : Int)) = true := decide_eq_true c6
    clear c6
    by_cases c7 : 0 ≤ x22_1
    rotate_left
    ·
     rw [if_neg c7] at H
     exact absurd H (by simp)
    rw [if_pos c7] at H
    have c7b0 : decide (0 ≤ x22_1) = true := decide_eq_true c7
    clear c7
    by_cases c8 : x22_1 < (l0.length : Int)
    rotate_left
    ·
     rw [if_neg c8] at H
     exact absurd H (by simp)
    rw [if_pos c8] at H
    have c8b0 : decide (x22_1 < (l0.length : Int)) = true := decide_eq_true c8
    clear c8
    by_cases c9 : ((rd_T23 l0 x22_1).f0) < x232000_1
    ·
     rw [if_pos c9] at H
     have c9b0 : decide (((rd_T23 l0 x22_1).f0) < x232000_1) = true := decide_eq_true c9
     clear c9
     have H' := Aside0.mk H
     clear H
     have p232 : 0 ≤ (x22_1 : Int) := of_decide_eq_true (by first | (with_reducible assumption) | assumption)
     have q232 : x22_1 < (l0.length : Int) := of_decide_eq_true (by first | (with_reducible assumption) | assumption)
     obtain ⟨ad232, e232, hx232_0, hx232_1⟩ := at_T23 HR0.out x22_1 p232 q232
     obtain rfl : ad230 = ad232 := (by injection e232)
     replace hx232_0 := (HB.out.cell (World.block_lt_of_cell? w _ hx232_0)).trans hx232_0
     replace hx232_1 := (HB.out.cell (World.block_lt_of_cell? w _ hx232_1)).trans hx232_1
     replace p232 := eq_true p232
     replace q232 := eq_true q232
     go_wp2_with (first | ((with_reducible refine gate_dst (N := 5) rfl ?_); refine box_event ?hg (N := 5) ?hd (cs := #[.int .i64 0, .int .i64 0]) (t := 23) ?hr ?_; (case hd => rfl); (case hg => rfl); (case hr => first | (go_simp; done) | (go_simp; rfl)); intro gb233 hg w10 hbox hb; have BK233 := Aside0.mk hbox; have GW233 := mGw HB hg; have GE233 := GW233; replace HB := mSt HB hb; have NB231_233 := mNe BK231 hg; have NB233_231 := mSy NB231_233; replace BK231 := mBb BK231 hb; clear hb hbox hg; have hnb11 := NB233_231.out; have hnc11 := NB231_233.out; have hcz12 := blk_cell BK233.out; have hfz12 := blk_frozen BK233.out; have hcz13 := blk_cell BK231.out; have hfz13 := blk_frozen BK231.out))
     go_roundg k1
     case measure => have := HK1.out; omega
     case rel => exact ⟨(wrap64 (x22_1 + 1)), ((rd_T23 l0 x22_1).f0), ((rd_T23 l0 x22_1).f1), (by first | rfl | (simp; done) | (simp [*]; done)), H', ⟨by have := HK1.out; omega⟩, ⟨by (with_reducible repeat (first | refine blk_drewN ?_ _ | refine blk_drew ?_ | refine blk_alloc ?_ _)); refine blk_put (cs := #[.int .i64 ((rd_T23 l0 x22_1).f0), .int .i64 x232001_1]) ?_ 1 _ rfl; (with_reducible repeat (first | refine blk_drewN ?_ _ | refine blk_drew ?_ | refine blk_alloc ?_ _)); refine blk_put (cs := #[.int .i64 x232000_1, .int .i64 x232001_1]) ?_ 0 _ rfl; (with_reducible repeat (first | refine blk_drewN ?_ _ | refine blk_drew ?_ | refine blk_alloc ?_ _)); refine blk_far ?_ NB231_233.out _; (with_reducible repeat (first | refine blk_drewN ?_ _ | refine blk_drew ?_ | refine blk_alloc ?_ _)); refine blk_far ?_ NB231_233.out _; (with_reducible repeat (first | refine blk_drewN ?_ _ | refine blk_drew ?_ | refine blk_alloc ?_ _)); exact BK231.out⟩, ⟨by repeat (first | (with_reducible first | exact HB.out | apply below_alloc | apply pw_below_drewN | apply below_drew1 | refine below_set ?_ GE231.out | refine below_set ?_ GE233.out) | exact HB.out)⟩⟩
    rw [if_neg c9] at H
    have c9b0 : decide (((rd_T23 l0 x22_1).f0) < x232000_1) = false := decide_eq_false c9
    clear c9
    by_cases c14 : ((rd_T23 l0 x22_1).f0) = x232000_1
    rotate_left
    ·
     rw [if_neg c14] at H
     have c14b0 : (((rd_T23 l0 x22_1).f0) == x232000_1) = false := beq_eq_false_iff_ne.mpr c14
     have c14b1 : (((rd_T23 l0 x22_1).f0) != x232000_1) = true := bne_iff_ne.mpr c14
     have H' := Aside0.mk H
     clear H
     have p232 : 0 ≤ (x22_1 : Int) := of_decide_eq_true (by first | (with_reducible assumption) | assumption)
     have q232 : x22_1 < (l0.length : Int) := of_decide_eq_true (by first | (with_reducible assumption) | assumption)
     obtain ⟨ad232, e232, hx232_0, hx232_1⟩ := at_T23 HR0.out x22_1 p232 q232
     obtain rfl : ad230 = ad232 := (by injection e232)
     replace hx232_0 := (HB.out.cell (World.block_lt_of_cell? w _ hx232_0)).trans hx232_0
     replace hx232_1 := (HB.out.cell (World.block_lt_of_cell? w _ hx232_1)).trans hx232_1
     replace p232 := eq_true p232
     replace q232 := eq_true q232
     go_wp2_with (first | ((with_reducible refine gate_dst (N := 5) rfl ?_); refine box_event ?hg (N := 5) ?hd (cs := #[.int .i64 0, .int .i64 0]) (t := 23) ?hr ?_; (case hd => rfl); (case hg => rfl); (case hr => first | (go_simp; done) | (go_simp; rfl)); intro gb233 hg w24 hbox hb; have BK233 := Aside0.mk hbox; have GW233 := mGw HB hg; have GE233 := GW233; replace HB := mSt HB hb; have NB231_233 := mNe BK231 hg; have NB233_231 := mSy NB231_233; replace BK231 := mBb BK231 hb; clear hb hbox hg; have hnb25 := NB233_231.out; have hnc25 := NB231_233.out; have hcz26 := blk_cell BK233.out; have hfz26 := blk_frozen BK233.out; have hcz27 := blk_cell BK231.out; have hfz27 := blk_frozen BK231.out))
     go_roundg k1
     case measure => have := HK1.out; omega
     case rel => exact ⟨(wrap64 (x22_1 + 1)), (x232000_1), (x232001_1), (by first | rfl | (simp; done) | (simp [*]; done)), H', ⟨by have := HK1.out; omega⟩, ⟨by (with_reducible repeat (first | refine blk_drewN ?_ _ | refine blk_drew ?_ | refine blk_alloc ?_ _)); refine blk_far ?_ NB231_233.out _; (with_reducible repeat (first | refine blk_drewN ?_ _ | refine blk_drew ?_ | refine blk_alloc ?_ _)); refine blk_far ?_ NB231_233.out _; (with_reducible repeat (first | refine blk_drewN ?_ _ | refine blk_drew ?_ | refine blk_alloc ?_ _)); exact BK231.out⟩, ⟨by repeat (first | (with_reducible first | exact HB.out | apply below_alloc | apply pw_below_drewN | apply below_drew1 | refine below_set ?_ GE231.out | refine below_set ?_ GE233.out) | exact HB.out)⟩⟩
    rw [if_pos c14] at H
    have c14b0 : (((rd_T23 l0 x22_1).f0) == x232000_1) = true := beq_iff_eq.mpr c14
    have c14b1 : (((rd_T23 l0 x22_1).f0) != x232000_1) = false := bne_eq_false_iff_eq.mpr c14
    clear c14
    by_cases c15 : ((rd_T23 l0 x22_1).f1) < x232001_1
    rotate_left
    ·
     rw [if_neg c15] at H
     have c15b0 : decide (((rd_T23 l0 x22_1).f1) < x232001_1) = false := decide_eq_false c15
     clear c15
     have H' := Aside0.mk H
     clear H
     have p232 : 0 ≤ (x22_1 : Int) := of_decide_eq_true (by first | (with_reducible assumption) | assumption)
     have q232 : x22_1 < (l0.length : Int) := of_decide_eq_true (by first | (with_reducible assumption) | assumption)
     obtain ⟨ad232, e232, hx232_0, hx232_1⟩ := at_T23 HR0.out x22_1 p232 q232
     obtain rfl : ad230 = ad232 := (by injection e232)
     replace hx232_0 := (HB.out.cell (World.block_lt_of_cell? w _ hx232_0)).trans hx232_0
     replace hx232_1 := (HB.out.cell (World.block_lt_of_cell? w _ hx232_1)).trans hx232_1
     replace p232 := eq_true p232
     replace q232 := eq_true q232
     go_wp2_with (first | ((with_reducible refine gate_dst (N := 5) rfl ?_); refine box_event ?hg (N := 5) ?hd (cs := #[.int .i64 0, .int .i64 0]) (t := 23) ?hr ?_; (case hd => rfl); (case hg => rfl); (case hr => first | (go_simp; done) | (go_simp; rfl)); intro gb233 hg w20 hbox hb; have BK233 := Aside0.mk hbox; have GW233 := mGw HB hg; have GE233 := GW233; replace HB := mSt HB hb; have NB231_233 := mNe BK231 hg; have NB233_231 := mSy NB231_233; replace BK231 := mBb BK231 hb; clear hb hbox hg; have hnb21 := NB233_231.out; have hnc21 := NB231_233.out; have hcz22 := blk_cell BK233.out; have hfz22 := blk_frozen BK233.out; have hcz23 := blk_cell BK231.out; have hfz23 := blk_frozen BK231.out))
     go_roundg k1
     case measure => have := HK1.out; omega
     case rel => exact ⟨(wrap64 (x22_1 + 1)), (x232000_1), (x232001_1), (by first | rfl | (simp; done) | (simp [*]; done)), H', ⟨by have := HK1.out; omega⟩, ⟨by (with_reducible repeat (first | refine blk_drewN ?_ _ | refine blk_drew ?_ | refine blk_alloc ?_ _)); refine blk_far ?_ NB231_233.out _; (with_reducible repeat (first | refine blk_drewN ?_ _ | refine blk_drew ?_ | refine blk_alloc ?_ _)); refine blk_far ?_ NB231_233.out _; (with_reducible repeat (first | refine blk_drewN ?_ _ | refine blk_drew ?_ | refine blk_alloc ?_ _)); exact BK231.out⟩, ⟨by repeat (first | (with_reducible first | exact HB.out | apply below_alloc | apply pw_below_drewN | apply below_drew1 | refine below_set ?_ GE231.out | refine below_set ?_ GE233.out) | exact HB.out)⟩⟩
    rw [if_pos c15] at H
    have c15b0 : decide (((rd_T23 l0 x22_1).f1) < x232001_1) = true := decide_eq_true c15
    clear c15
    have H' := Aside0.mk H
    clear H
    have p232 : 0 ≤ (x22_1 : Int) := of_decide_eq_true (by first | (with_reducible assumption) | assumption)
    have q232 : x22_1 < (l0.length : Int) := of_decide_eq_true (by first | (with_reducible assumption) | assumption)
    obtain ⟨ad232, e232, hx232_0, hx232_1⟩ := at_T23 HR0.out x22_1 p232 q232
    obtain rfl : ad230 = ad232 := (by injection e232)
    replace hx232_0 := (HB.out.cell (World.block_lt_of_cell? w _ hx232_0)).trans hx232_0
    replace hx232_1 := (HB.out.cell (World.block_lt_of_cell? w _ hx232_1)).trans hx232_1
    replace p232 := eq_true p232
    replace q232 := eq_true q232
    go_wp2_with (first | ((with_reducible refine gate_dst (N := 5) rfl ?_); refine box_event ?hg (N := 5) ?hd (cs := #[.int .i64 0, .int .i64 0]) (t := 23) ?hr ?_; (case hd => rfl); (case hg => rfl); (case hr => first | (go_simp; done) | (go_simp; rfl)); intro gb233 hg w16 hbox hb; have BK233 := Aside0.mk hbox; have GW233 := mGw HB hg; have GE233 := GW233; replace HB := mSt HB hb; have NB231_233 := mNe BK231 hg; have NB233_231 := mSy NB231_233; replace BK231 := mBb BK231 hb; clear hb hbox hg; have hnb17 := NB233_231.out; have hnc17 := NB231_233.out; have hcz18 := blk_cell BK233.out; have hfz18 := blk_frozen BK233.out; have hcz19 := blk_cell BK231.out; have hfz19 := blk_frozen BK231.out))
    go_roundg k1
    case measure => have := HK1.out; omega
    case rel => exact ⟨(wrap64 (x22_1 + 1)), ((rd_T23 l0 x22_1).f0), ((rd_T23 l0 x22_1).f1), (by first | rfl | (simp; done) | (simp [*]; done)), H', ⟨by have := HK1.out; omega⟩, ⟨by (with_reducible repeat (first | refine blk_drewN ?_ _ | refine blk_drew ?_ | refine blk_alloc ?_ _)); refine blk_put (cs := #[.int .i64 ((rd_T23 l0 x22_1).f0), .int .i64 x232001_1]) ?_ 1 _ rfl; (with_reducible repeat (first | refine blk_drewN ?_ _ | refine blk_drew ?_ | refine blk_alloc ?_ _)); refine blk_put (cs := #[.int .i64 x232000_1, .int .i64 x232001_1]) ?_ 0 _ rfl; (with_reducible repeat (first | refine blk_drewN ?_ _ | refine blk_drew ?_ | refine blk_alloc ?_ _)); refine blk_far ?_ NB231_233.out _; (with_reducible repeat (first | refine blk_drewN ?_ _ | refine blk_drew ?_ | refine blk_alloc ?_ _)); refine blk_far ?_ NB231_233.out _; (with_reducible repeat (first | refine blk_drewN ?_ _ | refine blk_drew ?_ | refine blk_alloc ?_ _)); exact BK231.out⟩, ⟨by repeat (first | (with_reducible first | exact HB.out | apply below_alloc | apply pw_below_drewN | apply below_drew1 | refine below_set ?_ GE231.out | refine below_set ?_ GE233.out) | exact HB.out)⟩⟩
   rw [if_neg c6] at H
   have c6b0 : decide (x22_1 < (l0.length : Int)) = false := decide_eq_false c6
   clear c6
   obtain ⟨y234, hy234⟩ : ∃ y_ : List (S23), y_ = (([(⟨x232000_1, x232001_1⟩ : S23)] : List (S23))) := ⟨_, rfl⟩
   rw [← hy234] at H
   have Ny234 := Aside0.mk hy234
   clear hy234
   have H' := Aside0.mk H
   clear H
   have hcz28 := blk_cell BK231.out; have hfz28 := blk_frozen BK231.out
   go_wp2_with (first | ((with_reducible refine gate_dst (N := 48) rfl ?_); refine Kd.R_lit k23 _ 23 ?hg (N := 48) ?hd (xs := ([(⟨x232000_1, x232001_1⟩ : S23)] : List (S23))) (inner := [.int .i64 x232000_1, .int .i64 x232001_1]) (ok := fun _ => True) (okp := fun _ => True) ?hr ?hp (fun _ hk => hk) trivial (Below.refl _ _) (Nat.le_refl _) (by simp) ?_; (case hd => rfl); (case hg => rfl); (case hr => first | (go_simp; done) | (go_simp; rfl)); (case hp => exact (Reps.c2 (k23_mkM _ _ _ _) (Reps.none _ _))); intro v235 w29 ho30 hb hg_ hnew_; clear hg_ hnew_; (first | rw [← Ny234.out] at ho30 | (simp only [Int.reduceToNat] at ho30; rw [← Ny234.out] at ho30)); have HO236 := Aside0.mk (Kd.R_lower (Kd.R_newB ho30 (g := gb231) (o := .cells #[.int .i64 x232000_1, .int .i64 x232001_1] 23 (0, 0)) BK231.out) (below_size HB.out)); replace BK231 := mBb BK231 hb; replace HB := mSt HB hb; clear hb ho30))
   try go_step3
   try go_wp2_with (first | ((with_reducible refine gate_dst (N := 48) rfl ?_); refine Kd.R_lit k23 _ 23 ?hg (N := 48) ?hd (xs := ([(⟨x232000_1, x232001_1⟩ : S23)] : List (S23))) (inner := [.int .i64 x232000_1, .int .i64 x232001_1]) (ok := fun _ => True) (okp := fun _ => True) ?hr ?hp (fun _ hk => hk) trivial (Below.refl _ _) (Nat.le_refl _) (by simp) ?_; (case hd => rfl); (case hg => rfl); (case hr => first | (go_simp; done) | (go_simp; rfl)); (case hp => exact (Reps.c2 (k23_mkM _ _ _ _) (Reps.none _ _))); intro v235 w29 ho30 hb hg_ hnew_; clear hg_ hnew_; (first | rw [← Ny234.out] at ho30 | (simp only [Int.reduceToNat] at ho30; rw [← Ny234.out] at ho30)); have HO236 := Aside0.mk (Kd.R_lower (Kd.R_newB ho30 (g := gb231) (o := .cells #[.int .i64 x232000_1, .int .i64 x232001_1] 23 (0, 0)) BK231.out) (below_size HB.out)); replace BK231 := mBb BK231 hb; replace HB := mSt HB hb; clear hb ho30))
   try go_step3
   go_loopg [7] k1 (fun kq v7 w' => ∃ (x7_2 : List (S23)), Aside0 (geom_hull.l1 kq l0 x7_2 = some r) ∧ Aside0 (kq ≤ k1) ∧ Aside0 (Kd.R k23 23 w' w.heap.size (fun k_ => k_ ≠ gb231) v7 x7_2) ∧ Aside0 (w'.heap[gb231]? = some (.cells #[.int .i64 x232000_1, .int .i64 x232001_1] 23 (0, 0))) ∧ Aside0 (Below w.heap.size w w'))
   case atStart => exact ⟨(y234), H', ⟨Nat.le_refl _⟩, ⟨by (with_reducible repeat (first | apply Kd.R_alloc | apply Kd.R_drewN | apply Kd.R_drew)); exact Kd.R_mono HO236.out (fun _ hk => hk.2)⟩, ⟨BK231.out⟩, ⟨HB.out⟩⟩
   case round =>
    clear H'
    try clear c1; try clear c2; try clear c2b0; try clear c2b1; try clear c2b2; try clear p2; try clear q2; try clear hx2; try clear qi2; try clear c3; try clear c3b0; try clear c3b1; try clear c4; try clear c6; try clear c6b0; try clear p6; try clear c7; try clear c7b0; try clear c8; try clear c8b0; try clear c9; try clear c9b0; try clear c11; try clear c14; try clear c14b0; try clear c14b1; try clear c15; try clear c15b0; try clear c17; try clear c21; try clear p23; try clear q23; try clear hx23; try clear qi23; try clear c25; try clear hcz12_0; try clear hcz12_1; try clear hcz13_0; try clear hcz13_1; try clear hcz18_0; try clear hcz18_1; try clear hcz19_0; try clear hcz19_1; try clear hcz22_0; try clear hcz22_1; try clear hcz23_0; try clear hcz23_1; try clear hcz26_0; try clear hcz26_1; try clear hcz27_0; try clear hcz27_1; try clear hcz28_0; try clear hcz28_1; try clear hcz5_0; try clear hcz5_1; try clear hfz12_0; try clear hfz12_1; try clear hfz13_0; try clear hfz13_1; try clear hfz18_0; try clear hfz18_1; try clear hfz19_0; try clear hfz19_1; try clear hfz22_0; try clear hfz22_1; try clear hfz23_0; try clear hfz23_1; try clear hfz26_0; try clear hfz26_1; try clear hfz27_0; try clear hfz27_1; try clear hfz28_0; try clear hfz28_1; try clear hfz5_0; try clear hfz5_1; try clear hx230_0; try clear hx230_1; try clear hx232_0; try clear hx232_1; try clear p230; try clear p232; try clear q230; try clear q232
    obtain ⟨x7_2, HA, HK2, HO_7, BK231, HB⟩ := hrel
    cases gk with
    | zero => exact absurd HA.out (by simp [geom_hull.l1])
    | succ k2 =>
     have H := HA.out
     clear HA
     simp only [geom_hull.l1] at H
     obtain ⟨ji31, hji31⟩ : ∃ j_ : Int, (wrap64 ((x7_2.length : Int) - 1)) = j_ := ⟨_, rfl⟩
     replace H : (if 0 ≤ (ji31) then (if (ji31) < (x7_2.length : Int) then (geom_hull.l2 k2 l0 x7_2 l0 (l0.length : Int) 0 ((rd_T23 x7_2 (ji31)).f0) ((rd_T23 x7_2 (ji31)).f1) ((rd_T23 x7_2 (ji31)).f0) ((rd_T23 x7_2 (ji31)).f1)) else (none)) else (none)) = some r := by first | (rw [hji31] at H; exact H) | (simp only [hji31] at H ⊢; exact H)
     have hji31w : (IntKind.i64.wrap ((x7_2.length : Int) - 1)) = ji31 := (i64_w _).trans hji31
     by_cases c32 : 0 ≤ (ji31)
     rotate_left
     ·
      rw [if_neg c32] at H
      exact absurd H (by simp)
     rw [if_pos c32] at H
     have c32b0 : decide (0 ≤ (ji31)) = true := decide_eq_true c32
     clear c32
     by_cases c33 : (ji31) < (x7_2.length : Int)
     rotate_left
     ·
      rw [if_neg c33] at H
      exact absurd H (by simp)
     rw [if_pos c33] at H
     have c33b0 : decide ((ji31) < (x7_2.length : Int)) = true := decide_eq_true c33
     clear c33
     have H' := Aside0.mk H
     clear H
     obtain ⟨Ao34, co34, eo34⟩ := Kd.R_slice HO_7.out
     subst eo34
     have p237 : 0 ≤ ((ji31) : Int) := of_decide_eq_true (by first | (with_reducible assumption) | assumption)
     have q237 : (ji31) < (x7_2.length : Int) := of_decide_eq_true (by first | (with_reducible assumption) | assumption)
     obtain ⟨ad237, e237, hx237_0, hx237_1⟩ := at_T23 (Kd.R_reads' HO_7.out).2.2 (ji31) p237 q237
     cases e237
     replace p237 := eq_true p237
     replace q237 := eq_true q237
     go_wp2_with (first | ((with_reducible refine gate_dst (N := 8) rfl ?_); refine box_event ?hg (N := 8) ?hd (cs := #[.int .i64 0, .int .i64 0]) (t := 23) ?hr ?_; (case hd => rfl); (case hg => rfl); (case hr => first | (go_simp; done) | (go_simp; rfl)); intro gb238 hg w35 hbox hb; replace HO_7 := Aside0.mk (Kd.R_below (Kd.R_elderB (by (with_reducible repeat (first | apply Kd.R_alloc | apply Kd.R_drewN | apply Kd.R_drew)); exact HO_7.out) gb238 (Nat.le_of_eq hg.symm)) hb); have BK238 := Aside0.mk hbox; have GW238 := Aside0.mk ((by rw [hg]; exact (below_size (by repeat (first | (with_reducible first | exact HB.out | apply below_alloc | apply pw_below_drewN | apply below_drew1 | refine below_set ?_ GE231.out) | exact HB.out))) : w.heap.size ≤ gb238)); have GE238 := GW238; replace HB := Aside0.mk (below_step (by repeat (first | (with_reducible first | exact HB.out | apply below_alloc | apply pw_below_drewN | apply below_drew1 | refine below_set ?_ GE231.out) | exact HB.out)) hb); have NB231_238 := mNe BK231 hg; have NB238_231 := mSy NB231_238; replace BK231 := mBb BK231 hb; clear hb hbox hg; have hnb36 := NB238_231.out; have hnc36 := NB231_238.out; have hcz37 := blk_cell BK238.out; have hfz37 := blk_frozen BK238.out) | ((with_reducible refine gate_dst (N := 9) rfl ?_); refine box_event ?hg (N := 9) ?hd (cs := #[.int .i64 0, .int .i64 0]) (t := 23) ?hr ?_; (case hd => rfl); (case hg => rfl); (case hr => first | (go_simp; done) | (go_simp; rfl)); intro gb239 hg w38 hbox hb; replace HO_7 := Aside0.mk (Kd.R_below (Kd.R_elderB (by (with_reducible repeat (first | apply Kd.R_alloc | apply Kd.R_drewN | apply Kd.R_drew)); exact (Kd.R_mono (Kd.R_far (p := ⟨gb238, 1, none⟩) (Kd.R_far (p := ⟨gb238, 0, none⟩) (Kd.R_mono HO_7.out (fun k_ hk => (⟨hk, hk.2⟩ : _ ∧ k_ ≠ gb238))) (fun _ hk => hk.2) (.int .i64 ((rd_T23 x7_2 (ji31)).f0))) (fun _ hk => hk.2) (.int .i64 ((rd_T23 x7_2 (ji31)).f1))) (fun _ h_ => h_.1))) gb239 (Nat.le_of_eq hg.symm)) hb); have BK239 := Aside0.mk hbox; have GW239 := Aside0.mk ((by rw [hg]; exact (below_size (by repeat (first | (with_reducible first | exact HB.out | apply below_alloc | apply pw_below_drewN | apply below_drew1 | refine below_set ?_ GE231.out | refine below_set ?_ GE238.out) | exact HB.out))) : w.heap.size ≤ gb239)); have GE239 := GW239; replace HB := Aside0.mk (below_step (by repeat (first | (with_reducible first | exact HB.out | apply below_alloc | apply pw_below_drewN | apply below_drew1 | refine below_set ?_ GE231.out | refine below_set ?_ GE238.out) | exact HB.out)) hb); have NB231_239 := Aside0.mk ((by rw [hg]; exact Nat.ne_of_lt (blk_lt (g := gb231) (o := .cells #[.int .i64 x232000_1, .int .i64 x232001_1] 23 (0, 0)) (by (with_reducible repeat (first | refine blk_drewN ?_ _ | refine blk_drew ?_ | refine blk_alloc ?_ _)); refine blk_far ?_ NB231_238.out _; (with_reducible repeat (first | refine blk_drewN ?_ _ | refine blk_drew ?_ | refine blk_alloc ?_ _)); refine blk_far ?_ NB231_238.out _; (with_reducible repeat (first | refine blk_drewN ?_ _ | refine blk_drew ?_ | refine blk_alloc ?_ _)); exact BK231.out)) : gb231 ≠ gb239)); have NB239_231 := mSy NB231_239; replace BK231 := Aside0.mk (blk_below (g := gb231) (o := .cells #[.int .i64 x232000_1, .int .i64 x232001_1] 23 (0, 0)) (by (with_reducible repeat (first | refine blk_drewN ?_ _ | refine blk_drew ?_ | refine blk_alloc ?_ _)); refine blk_far ?_ NB231_238.out _; (with_reducible repeat (first | refine blk_drewN ?_ _ | refine blk_drew ?_ | refine blk_alloc ?_ _)); refine blk_far ?_ NB231_238.out _; (with_reducible repeat (first | refine blk_drewN ?_ _ | refine blk_drew ?_ | refine blk_alloc ?_ _)); exact BK231.out) hb); have NB238_239 := Aside0.mk ((by rw [hg]; exact Nat.ne_of_lt (blk_lt (g := gb238) (o := .cells #[.int .i64 ((rd_T23 x7_2 (ji31)).f0), .int .i64 ((rd_T23 x7_2 (ji31)).f1)] 23 (0, 0)) (by (with_reducible repeat (first | refine blk_drewN ?_ _ | refine blk_drew ?_ | refine blk_alloc ?_ _)); refine blk_put (cs := #[.int .i64 ((rd_T23 x7_2 (ji31)).f0), .int .i64 0]) ?_ 1 _ rfl; (with_reducible repeat (first | refine blk_drewN ?_ _ | refine blk_drew ?_ | refine blk_alloc ?_ _)); refine blk_put (cs := #[.int .i64 0, .int .i64 0]) ?_ 0 _ rfl; (with_reducible repeat (first | refine blk_drewN ?_ _ | refine blk_drew ?_ | refine blk_alloc ?_ _)); exact BK238.out)) : gb238 ≠ gb239)); have NB239_238 := mSy NB238_239; replace BK238 := Aside0.mk (blk_below (g := gb238) (o := .cells #[.int .i64 ((rd_T23 x7_2 (ji31)).f0), .int .i64 ((rd_T23 x7_2 (ji31)).f1)] 23 (0, 0)) (by (with_reducible repeat (first | refine blk_drewN ?_ _ | refine blk_drew ?_ | refine blk_alloc ?_ _)); refine blk_put (cs := #[.int .i64 ((rd_T23 x7_2 (ji31)).f0), .int .i64 0]) ?_ 1 _ rfl; (with_reducible repeat (first | refine blk_drewN ?_ _ | refine blk_drew ?_ | refine blk_alloc ?_ _)); refine blk_put (cs := #[.int .i64 0, .int .i64 0]) ?_ 0 _ rfl; (with_reducible repeat (first | refine blk_drewN ?_ _ | refine blk_drew ?_ | refine blk_alloc ?_ _)); exact BK238.out) hb); clear hb hbox hg; have hnb39 := NB239_231.out; have hnc39 := NB231_239.out; have hnb40 := NB239_238.out; have hnc40 := NB238_239.out; have hcz41 := blk_cell BK239.out; have hfz41 := blk_frozen BK239.out))
     try go_step3
     try go_wp2_with (first | ((with_reducible refine gate_dst (N := 8) rfl ?_); refine box_event ?hg (N := 8) ?hd (cs := #[.int .i64 0, .int .i64 0]) (t := 23) ?hr ?_; (case hd => rfl); (case hg => rfl); (case hr => first | (go_simp; done) | (go_simp; rfl)); intro gb238 hg w35 hbox hb; replace HO_7 := Aside0.mk (Kd.R_below (Kd.R_elderB (by (with_reducible repeat (first | apply Kd.R_alloc | apply Kd.R_drewN | apply Kd.R_drew)); exact HO_7.out) gb238 (Nat.le_of_eq hg.symm)) hb); have BK238 := Aside0.mk hbox; have GW238 := Aside0.mk ((by rw [hg]; exact (below_size (by repeat (first | (with_reducible first | exact HB.out | apply below_alloc | apply pw_below_drewN | apply below_drew1 | refine below_set ?_ GE231.out) | exact HB.out))) : w.heap.size ≤ gb238)); have GE238 := GW238; replace HB := Aside0.mk (below_step (by repeat (first | (with_reducible first | exact HB.out | apply below_alloc | apply pw_below_drewN | apply below_drew1 | refine below_set ?_ GE231.out) | exact HB.out)) hb); have NB231_238 := mNe BK231 hg; have NB238_231 := mSy NB231_238; replace BK231 := mBb BK231 hb; clear hb hbox hg; have hnb36 := NB238_231.out; have hnc36 := NB231_238.out; have hcz37 := blk_cell BK238.out; have hfz37 := blk_frozen BK238.out) | ((with_reducible refine gate_dst (N := 9) rfl ?_); refine box_event ?hg (N := 9) ?hd (cs := #[.int .i64 0, .int .i64 0]) (t := 23) ?hr ?_; (case hd => rfl); (case hg => rfl); (case hr => first | (go_simp; done) | (go_simp; rfl)); intro gb239 hg w38 hbox hb; replace HO_7 := Aside0.mk (Kd.R_below (Kd.R_elderB (by (with_reducible repeat (first | apply Kd.R_alloc | apply Kd.R_drewN | apply Kd.R_drew)); exact (Kd.R_mono (Kd.R_far (p := ⟨gb238, 1, none⟩) (Kd.R_far (p := ⟨gb238, 0, none⟩) (Kd.R_mono HO_7.out (fun k_ hk => (⟨hk, hk.2⟩ : _ ∧ k_ ≠ gb238))) (fun _ hk => hk.2) (.int .i64 ((rd_T23 x7_2 (ji31)).f0))) (fun _ hk => hk.2) (.int .i64 ((rd_T23 x7_2 (ji31)).f1))) (fun _ h_ => h_.1))) gb239 (Nat.le_of_eq hg.symm)) hb); have BK239 := Aside0.mk hbox; have GW239 := Aside0.mk ((by rw [hg]; exact (below_size (by repeat (first | (with_reducible first | exact HB.out | apply below_alloc | apply pw_below_drewN | apply below_drew1 | refine below_set ?_ GE231.out | refine below_set ?_ GE238.out) | exact HB.out))) : w.heap.size ≤ gb239)); have GE239 := GW239; replace HB := Aside0.mk (below_step (by repeat (first | (with_reducible first | exact HB.out | apply below_alloc | apply pw_below_drewN | apply below_drew1 | refine below_set ?_ GE231.out | refine below_set ?_ GE238.out) | exact HB.out)) hb); have NB231_239 := Aside0.mk ((by rw [hg]; exact Nat.ne_of_lt (blk_lt (g := gb231) (o := .cells #[.int .i64 x232000_1, .int .i64 x232001_1] 23 (0, 0)) (by (with_reducible repeat (first | refine blk_drewN ?_ _ | refine blk_drew ?_ | refine blk_alloc ?_ _)); refine blk_far ?_ NB231_238.out _; (with_reducible repeat (first | refine blk_drewN ?_ _ | refine blk_drew ?_ | refine blk_alloc ?_ _)); refine blk_far ?_ NB231_238.out _; (with_reducible repeat (first | refine blk_drewN ?_ _ | refine blk_drew ?_ | refine blk_alloc ?_ _)); exact BK231.out)) : gb231 ≠ gb239)); have NB239_231 := mSy NB231_239; replace BK231 := Aside0.mk (blk_below (g := gb231) (o := .cells #[.int .i64 x232000_1, .int .i64 x232001_1] 23 (0, 0)) (by (with_reducible repeat (first | refine blk_drewN ?_ _ | refine blk_drew ?_ | refine blk_alloc ?_ _)); refine blk_far ?_ NB231_238.out _; (with_reducible repeat (first | refine blk_drewN ?_ _ | refine blk_drew ?_ | refine blk_alloc ?_ _)); refine blk_far ?_ NB231_238.out _; (with_reducible repeat (first | refine blk_drewN ?_ _ | refine blk_drew ?_ | refine blk_alloc ?_ _)); exact BK231.out) hb); have NB238_239 := Aside0.mk ((by rw [hg]; exact Nat.ne_of_lt (blk_lt (g := gb238) (o := .cells #[.int .i64 ((rd_T23 x7_2 (ji31)).f0), .int .i64 ((rd_T23 x7_2 (ji31)).f1)] 23 (0, 0)) (by (with_reducible repeat (first | refine blk_drewN ?_ _ | refine blk_drew ?_ | refine blk_alloc ?_ _)); refine blk_put (cs := #[.int .i64 ((rd_T23 x7_2 (ji31)).f0), .int .i64 0]) ?_ 1 _ rfl; (with_reducible repeat (first | refine blk_drewN ?_ _ | refine blk_drew ?_ | refine blk_alloc ?_ _)); refine blk_put (cs := #[.int .i64 0, .int .i64 0]) ?_ 0 _ rfl; (with_reducible repeat (first | refine blk_drewN ?_ _ | refine blk_drew ?_ | refine blk_alloc ?_ _)); exact BK238.out)) : gb238 ≠ gb239)); have NB239_238 := mSy NB238_239; replace BK238 := Aside0.mk (blk_below (g := gb238) (o := .cells #[.int .i64 ((rd_T23 x7_2 (ji31)).f0), .int .i64 ((rd_T23 x7_2 (ji31)).f1)] 23 (0, 0)) (by (with_reducible repeat (first | refine blk_drewN ?_ _ | refine blk_drew ?_ | refine blk_alloc ?_ _)); refine blk_put (cs := #[.int .i64 ((rd_T23 x7_2 (ji31)).f0), .int .i64 0]) ?_ 1 _ rfl; (with_reducible repeat (first | refine blk_drewN ?_ _ | refine blk_drew ?_ | refine blk_alloc ?_ _)); refine blk_put (cs := #[.int .i64 0, .int .i64 0]) ?_ 0 _ rfl; (with_reducible repeat (first | refine blk_drewN ?_ _ | refine blk_drew ?_ | refine blk_alloc ?_ _)); exact BK238.out) hb); clear hb hbox hg; have hnb39 := NB239_231.out; have hnc39 := NB231_239.out; have hnb40 := NB239_238.out; have hnc40 := NB238_239.out; have hcz41 := blk_cell BK239.out; have hfz41 := blk_frozen BK239.out))
     try go_step3
     go_loopg [58] k2 (fun kq v58 w' => ∃ (x58_3 : Int) (x240000_3 : Int) (x240001_3 : Int), v58 = .int .i64 x58_3 ∧ Aside0 (geom_hull.l2 kq l0 x7_2 l0 (l0.length : Int) x58_3 ((rd_T23 x7_2 (ji31)).f0) ((rd_T23 x7_2 (ji31)).f1) x240000_3 x240001_3 = some r) ∧ Aside0 (kq ≤ k2) ∧ Aside0 (Kd.R k23 23 w' w.heap.size (fun k_ => k_ ≠ gb231 ∧ k_ ≠ gb238 ∧ k_ ≠ gb239) (.slice (some ad237) x7_2.length co34) x7_2) ∧ Aside0 (w'.heap[gb231]? = some (.cells #[.int .i64 x232000_1, .int .i64 x232001_1] 23 (0, 0))) ∧ Aside0 (w'.heap[gb238]? = some (.cells #[.int .i64 ((rd_T23 x7_2 (ji31)).f0), .int .i64 ((rd_T23 x7_2 (ji31)).f1)] 23 (0, 0))) ∧ Aside0 (w'.heap[gb239]? = some (.cells #[.int .i64 x240000_3, .int .i64 x240001_3] 23 (0, 0))) ∧ Aside0 (Below w.heap.size w w'))
     case atStart => exact ⟨(0), ((rd_T23 x7_2 (ji31)).f0), ((rd_T23 x7_2 (ji31)).f1), (by first | rfl | (simp; done) | (simp [*]; done)), H', ⟨Nat.le_refl _⟩, ⟨by (with_reducible repeat (first | apply Kd.R_alloc | apply Kd.R_drewN | apply Kd.R_drew)); exact Kd.R_mono (Kd.R_far (p := ⟨gb239, 1, none⟩) (Kd.R_far (p := ⟨gb239, 0, none⟩) (Kd.R_mono HO_7.out (fun k_ hk => (⟨hk, hk.2⟩ : _ ∧ k_ ≠ gb239))) (fun _ hk => hk.2) (.int .i64 ((rd_T23 x7_2 (ji31)).f0))) (fun _ hk => hk.2) (.int .i64 ((rd_T23 x7_2 (ji31)).f1))) (fun _ hk => ⟨hk.1.1.1, ⟨hk.1.1.2, hk.1.2⟩⟩)⟩, ⟨by (with_reducible repeat (first | refine blk_drewN ?_ _ | refine blk_drew ?_ | refine blk_alloc ?_ _)); refine blk_far ?_ NB231_239.out _; (with_reducible repeat (first | refine blk_drewN ?_ _ | refine blk_drew ?_ | refine blk_alloc ?_ _)); refine blk_far ?_ NB231_239.out _; (with_reducible repeat (first | refine blk_drewN ?_ _ | refine blk_drew ?_ | refine blk_alloc ?_ _)); exact BK231.out⟩, ⟨by (with_reducible repeat (first | refine blk_drewN ?_ _ | refine blk_drew ?_ | refine blk_alloc ?_ _)); refine blk_far ?_ NB238_239.out _; (with_reducible repeat (first | refine blk_drewN ?_ _ | refine blk_drew ?_ | refine blk_alloc ?_ _)); refine blk_far ?_ NB238_239.out _; (with_reducible repeat (first | refine blk_drewN ?_ _ | refine blk_drew ?_ | refine blk_alloc ?_ _)); exact BK238.out⟩, ⟨by (with_reducible repeat (first | refine blk_drewN ?_ _ | refine blk_drew ?_ | refine blk_alloc ?_ _)); refine blk_put (cs := #[.int .i64 ((rd_T23 x7_2 (ji31)).f0), .int .i64 0]) ?_ 1 _ rfl; (with_reducible repeat (first | refine blk_drewN ?_ _ | refine blk_drew ?_ | refine blk_alloc ?_ _)); refine blk_put (cs := #[.int .i64 0, .int .i64 0]) ?_ 0 _ rfl; (with_reducible repeat (first | refine blk_drewN ?_ _ | refine blk_drew ?_ | refine blk_alloc ?_ _)); exact BK239.out⟩, ⟨by repeat (first | (with_reducible first | exact HB.out | apply below_alloc | apply pw_below_drewN | apply below_drew1 | refine below_set ?_ GE231.out | refine below_set ?_ GE238.out | refine below_set ?_ GE239.out) | exact HB.out)⟩⟩
     case round =>
      clear H'
      try clear c1; try clear c2; try clear c2b0; try clear c2b1; try clear c2b2; try clear p2; try clear q2; try clear hx2; try clear qi2; try clear c3; try clear c3b0; try clear c3b1; try clear c4; try clear c6; try clear c6b0; try clear p6; try clear c7; try clear c7b0; try clear c8; try clear c8b0; try clear c9; try clear c9b0; try clear c11; try clear c14; try clear c14b0; try clear c14b1; try clear c15; try clear c15b0; try clear c17; try clear c21; try clear p23; try clear q23; try clear hx23; try clear qi23; try clear c25; try clear c32; try clear c32b0; try clear c33; try clear c33b0; try clear c36; try clear c39; try clear c40; try clear c41; try clear hcz12_0; try clear hcz12_1; try clear hcz13_0; try clear hcz13_1; try clear hcz18_0; try clear hcz18_1; try clear hcz19_0; try clear hcz19_1; try clear hcz22_0; try clear hcz22_1; try clear hcz23_0; try clear hcz23_1; try clear hcz26_0; try clear hcz26_1; try clear hcz27_0; try clear hcz27_1; try clear hcz28_0; try clear hcz28_1; try clear hcz37_0; try clear hcz37_1; try clear hcz41_0; try clear hcz41_1; try clear hcz5_0; try clear hcz5_1; try clear hfz12_0; try clear hfz12_1; try clear hfz13_0; try clear hfz13_1; try clear hfz18_0; try clear hfz18_1; try clear hfz19_0; try clear hfz19_1; try clear hfz22_0; try clear hfz22_1; try clear hfz23_0; try clear hfz23_1; try clear hfz26_0; try clear hfz26_1; try clear hfz27_0; try clear hfz27_1; try clear hfz28_0; try clear hfz28_1; try clear hfz37_0; try clear hfz37_1; try clear hfz41_0; try clear hfz41_1; try clear hfz5_0; try clear hfz5_1; try clear hx230_0; try clear hx230_1; try clear hx232_0; try clear hx232_1; try clear hx237_0; try clear hx237_1; try clear p230; try clear p232; try clear p237; try clear q230; try clear q232; try clear q237
      obtain ⟨x58_3, x240000_3, x240001_3, rfl, HA, HK3, HO_7, BK231, BK238, BK239, HB⟩ := hrel
      cases gk with
      | zero => exact absurd HA.out (by simp [geom_hull.l2])
      | succ k3 =>
       have H := HA.out
       clear HA
       simp only [geom_hull.l2] at H
       by_cases c42 : x58_3 < (l0.length : Int)
       ·
        rw [if_pos c42] at H
        have c42b0 : decide (x58_3 < (l0.length : Int)) = true := decide_eq_true c42
        clear c42
        by_cases c43 : 0 ≤ x58_3
        rotate_left
        ·
         rw [if_neg c43] at H
         exact absurd H (by simp)
        rw [if_pos c43] at H
        have c43b0 : decide (0 ≤ x58_3) = true := decide_eq_true c43
        clear c43
        by_cases c44 : x58_3 < (l0.length : Int)
        rotate_left
        ·
         rw [if_neg c44] at H
         exact absurd H (by simp)
        rw [if_pos c44] at H
        have c44b0 : decide (x58_3 < (l0.length : Int)) = true := decide_eq_true c44
        clear c44
        replace H := Option.bind_eq_some_iff.mp H
        obtain ⟨t242, A450, H⟩ := H
        try dsimp only at H
        have A45 := Aside0.mk A450
        clear A450
        by_cases c46 : t242 = true
        ·
         subst c46
         rw [if_pos rfl] at H
         have H' := Aside0.mk H
         clear H
         have p240 : 0 ≤ (x58_3 : Int) := of_decide_eq_true (by first | (with_reducible assumption) | assumption)
         have q240 : x58_3 < (l0.length : Int) := of_decide_eq_true (by first | (with_reducible assumption) | assumption)
         obtain ⟨ad240, e240, hx240_0, hx240_1⟩ := at_T23 HR0.out x58_3 p240 q240
         obtain rfl : ad230 = ad240 := (by injection e240)
         replace hx240_0 := (HB.out.cell (World.block_lt_of_cell? w _ hx240_0)).trans hx240_0
         replace hx240_1 := (HB.out.cell (World.block_lt_of_cell? w _ hx240_1)).trans hx240_1
         replace p240 := eq_true p240
         replace q240 := eq_true q240
         go_wp2_with (first | ((with_reducible refine gate_dst (N := 11) rfl ?_); refine box_event ?hg (N := 11) ?hd (cs := #[.int .i64 0, .int .i64 0]) (t := 23) ?hr ?_; (case hd => rfl); (case hg => rfl); (case hr => first | (go_simp; done) | (go_simp; rfl)); intro gb241 hg w47 hbox hb; replace HO_7 := Aside0.mk (Kd.R_below (Kd.R_elderB (by (with_reducible repeat (first | apply Kd.R_alloc | apply Kd.R_drewN | apply Kd.R_drew)); exact HO_7.out) gb241 (Nat.le_of_eq hg.symm)) hb); have BK241 := Aside0.mk hbox; have GW241 := Aside0.mk ((by rw [hg]; exact (below_size (by repeat (first | (with_reducible first | exact HB.out | apply below_alloc | apply pw_below_drewN | apply below_drew1 | refine below_set ?_ GE231.out | refine below_set ?_ GE238.out | refine below_set ?_ GE239.out) | exact HB.out))) : w.heap.size ≤ gb241)); have GE241 := GW241; replace HB := Aside0.mk (below_step (by repeat (first | (with_reducible first | exact HB.out | apply below_alloc | apply pw_below_drewN | apply below_drew1 | refine below_set ?_ GE231.out | refine below_set ?_ GE238.out | refine below_set ?_ GE239.out) | exact HB.out)) hb); have NB231_241 := mNe BK231 hg; have NB241_231 := mSy NB231_241; replace BK231 := mBb BK231 hb; have NB238_241 := mNe BK238 hg; have NB241_238 := mSy NB238_241; replace BK238 := mBb BK238 hb; have NB239_241 := mNe BK239 hg; have NB241_239 := mSy NB239_241; replace BK239 := mBb BK239 hb; clear hb hbox hg; have hnb48 := NB241_231.out; have hnc48 := NB231_241.out; have hnb49 := NB241_238.out; have hnc49 := NB238_241.out; have hnb50 := NB241_239.out; have hnc50 := NB239_241.out; have hcz51 := blk_cell BK241.out; have hfz51 := blk_frozen BK241.out; have hnb52 := NB238_231.out; have hnc52 := NB231_238.out; have hnb53 := NB238_239.out; have hnc53 := NB239_238.out; have hcz54 := blk_cell BK238.out; have hfz54 := blk_frozen BK238.out; have hnb55 := NB239_231.out; have hnc55 := NB231_239.out; have hcz56 := blk_cell BK239.out; have hfz56 := blk_frozen BK239.out) | (go_at_call 50; (with_reducible refine (geom_hull_fn1.calls ((rd_T23 x7_2 (ji31)).f0) ((rd_T23 x7_2 (ji31)).f1) x240000_3 x240001_3 ((rd_T23 l0 x58_3).f0) ((rd_T23 l0 x58_3).f1) true _ A45.out).mono ?_); rintro e w57 ⟨rfl, hb⟩; replace HO_7 := Aside0.mk (Kd.R_below (by (with_reducible repeat (first | apply Kd.R_alloc | apply Kd.R_drewN | apply Kd.R_drew)); exact (Kd.R_mono (Kd.R_far (p := ⟨gb241, 1, none⟩) (Kd.R_far (p := ⟨gb241, 0, none⟩) (Kd.R_mono HO_7.out (fun k_ hk => (⟨hk, hk.2⟩ : _ ∧ k_ ≠ gb241))) (fun _ hk => hk.2) (.int .i64 ((rd_T23 l0 x58_3).f0))) (fun _ hk => hk.2) (.int .i64 ((rd_T23 l0 x58_3).f1))) (fun _ h_ => h_.1))) hb); replace BK231 := Aside0.mk (blk_below (g := gb231) (o := .cells #[.int .i64 x232000_1, .int .i64 x232001_1] 23 (0, 0)) (by (with_reducible repeat (first | refine blk_drewN ?_ _ | refine blk_drew ?_ | refine blk_alloc ?_ _)); refine blk_far ?_ NB231_241.out _; (with_reducible repeat (first | refine blk_drewN ?_ _ | refine blk_drew ?_ | refine blk_alloc ?_ _)); refine blk_far ?_ NB231_241.out _; (with_reducible repeat (first | refine blk_drewN ?_ _ | refine blk_drew ?_ | refine blk_alloc ?_ _)); exact BK231.out) hb); replace BK238 := Aside0.mk (blk_below (g := gb238) (o := .cells #[.int .i64 ((rd_T23 x7_2 (ji31)).f0), .int .i64 ((rd_T23 x7_2 (ji31)).f1)] 23 (0, 0)) (by (with_reducible repeat (first | refine blk_drewN ?_ _ | refine blk_drew ?_ | refine blk_alloc ?_ _)); refine blk_far ?_ NB238_241.out _; (with_reducible repeat (first | refine blk_drewN ?_ _ | refine blk_drew ?_ | refine blk_alloc ?_ _)); refine blk_far ?_ NB238_241.out _; (with_reducible repeat (first | refine blk_drewN ?_ _ | refine blk_drew ?_ | refine blk_alloc ?_ _)); exact BK238.out) hb); replace BK239 := Aside0.mk (blk_below (g := gb239) (o := .cells #[.int .i64 x240000_3, .int .i64 x240001_3] 23 (0, 0)) (by (with_reducible repeat (first | refine blk_drewN ?_ _ | refine blk_drew ?_ | refine blk_alloc ?_ _)); refine blk_far ?_ NB239_241.out _; (with_reducible repeat (first | refine blk_drewN ?_ _ | refine blk_drew ?_ | refine blk_alloc ?_ _)); refine blk_far ?_ NB239_241.out _; (with_reducible repeat (first | refine blk_drewN ?_ _ | refine blk_drew ?_ | refine blk_alloc ?_ _)); exact BK239.out) hb); replace BK241 := Aside0.mk (blk_below (g := gb241) (o := .cells #[.int .i64 ((rd_T23 l0 x58_3).f0), .int .i64 ((rd_T23 l0 x58_3).f1)] 23 (0, 0)) (by (with_reducible repeat (first | refine blk_drewN ?_ _ | refine blk_drew ?_ | refine blk_alloc ?_ _)); refine blk_put (cs := #[.int .i64 ((rd_T23 l0 x58_3).f0), .int .i64 0]) ?_ 1 _ rfl; (with_reducible repeat (first | refine blk_drewN ?_ _ | refine blk_drew ?_ | refine blk_alloc ?_ _)); refine blk_put (cs := #[.int .i64 0, .int .i64 0]) ?_ 0 _ rfl; (with_reducible repeat (first | refine blk_drewN ?_ _ | refine blk_drew ?_ | refine blk_alloc ?_ _)); exact BK241.out) hb); replace HB := Aside0.mk (below_step (by repeat (first | (with_reducible first | exact HB.out | apply below_alloc | apply pw_below_drewN | apply below_drew1 | refine below_set ?_ GE231.out | refine below_set ?_ GE238.out | refine below_set ?_ GE239.out | refine below_set ?_ GE241.out) | exact HB.out)) hb); (try clear hb); have hcz58 := blk_cell BK241.out; have hfz58 := blk_frozen BK241.out; have hcz59 := blk_cell BK239.out; have hfz59 := blk_frozen BK239.out))
         go_roundg k3
         case measure => have := HK1.out; have := HK2.out; have := HK3.out; omega
         case rel => exact ⟨(wrap64 (x58_3 + 1)), ((rd_T23 l0 x58_3).f0), ((rd_T23 l0 x58_3).f1), (by first | rfl | (simp; done) | (simp [*]; done)), H', ⟨by have := HK1.out; have := HK2.out; have := HK3.out; omega⟩, ⟨by (with_reducible repeat (first | apply Kd.R_alloc | apply Kd.R_drewN | apply Kd.R_drew)); exact Kd.R_mono (Kd.R_far (p := ⟨gb239, 1, none⟩) (Kd.R_far (p := ⟨gb239, 0, none⟩) (Kd.R_mono HO_7.out (fun k_ hk => (⟨hk, hk.1.2.2⟩ : _ ∧ k_ ≠ gb239))) (fun _ hk => hk.2) (.int .i64 ((rd_T23 l0 x58_3).f0))) (fun _ hk => hk.2) (.int .i64 ((rd_T23 l0 x58_3).f1))) (fun _ hk => ⟨hk.1.1.1, ⟨hk.1.1.2.1, hk.1.1.2.2⟩⟩)⟩, ⟨by (with_reducible repeat (first | refine blk_drewN ?_ _ | refine blk_drew ?_ | refine blk_alloc ?_ _)); refine blk_far ?_ NB231_239.out _; (with_reducible repeat (first | refine blk_drewN ?_ _ | refine blk_drew ?_ | refine blk_alloc ?_ _)); refine blk_far ?_ NB231_239.out _; (with_reducible repeat (first | refine blk_drewN ?_ _ | refine blk_drew ?_ | refine blk_alloc ?_ _)); exact BK231.out⟩, ⟨by (with_reducible repeat (first | refine blk_drewN ?_ _ | refine blk_drew ?_ | refine blk_alloc ?_ _)); refine blk_far ?_ NB238_239.out _; (with_reducible repeat (first | refine blk_drewN ?_ _ | refine blk_drew ?_ | refine blk_alloc ?_ _)); refine blk_far ?_ NB238_239.out _; (with_reducible repeat (first | refine blk_drewN ?_ _ | refine blk_drew ?_ | refine blk_alloc ?_ _)); exact BK238.out⟩, ⟨by (with_reducible repeat (first | refine blk_drewN ?_ _ | refine blk_drew ?_ | refine blk_alloc ?_ _)); refine blk_put (cs := #[.int .i64 ((rd_T23 l0 x58_3).f0), .int .i64 x240001_3]) ?_ 1 _ rfl; (with_reducible repeat (first | refine blk_drewN ?_ _ | refine blk_drew ?_ | refine blk_alloc ?_ _)); refine blk_put (cs := #[.int .i64 x240000_3, .int .i64 x240001_3]) ?_ 0 _ rfl; (with_reducible repeat (first | refine blk_drewN ?_ _ | refine blk_drew ?_ | refine blk_alloc ?_ _)); exact BK239.out⟩, ⟨by repeat (first | (with_reducible first | exact HB.out | apply below_alloc | apply pw_below_drewN | apply below_drew1 | refine below_set ?_ GE231.out | refine below_set ?_ GE238.out | refine below_set ?_ GE239.out | refine below_set ?_ GE241.out) | exact HB.out)⟩⟩
        replace c46 := Bool.eq_false_iff.mpr c46
        subst c46
        rw [if_neg (show ¬ (false = true) by decide)] at H
        have H' := Aside0.mk H
        clear H
        have p240 : 0 ≤ (x58_3 : Int) := of_decide_eq_true (by first | (with_reducible assumption) | assumption)
        have q240 : x58_3 < (l0.length : Int) := of_decide_eq_true (by first | (with_reducible assumption) | assumption)
        obtain ⟨ad240, e240, hx240_0, hx240_1⟩ := at_T23 HR0.out x58_3 p240 q240
        obtain rfl : ad230 = ad240 := (by injection e240)
        replace hx240_0 := (HB.out.cell (World.block_lt_of_cell? w _ hx240_0)).trans hx240_0
        replace hx240_1 := (HB.out.cell (World.block_lt_of_cell? w _ hx240_1)).trans hx240_1
        replace p240 := eq_true p240
        replace q240 := eq_true q240
        go_wp2_with (first | ((with_reducible refine gate_dst (N := 11) rfl ?_); refine box_event ?hg (N := 11) ?hd (cs := #[.int .i64 0, .int .i64 0]) (t := 23) ?hr ?_; (case hd => rfl); (case hg => rfl); (case hr => first | (go_simp; done) | (go_simp; rfl)); intro gb241 hg w60 hbox hb; replace HO_7 := Aside0.mk (Kd.R_below (Kd.R_elderB (by (with_reducible repeat (first | apply Kd.R_alloc | apply Kd.R_drewN | apply Kd.R_drew)); exact HO_7.out) gb241 (Nat.le_of_eq hg.symm)) hb); have BK241 := Aside0.mk hbox; have GW241 := Aside0.mk ((by rw [hg]; exact (below_size (by repeat (first | (with_reducible first | exact HB.out | apply below_alloc | apply pw_below_drewN | apply below_drew1 | refine below_set ?_ GE231.out | refine below_set ?_ GE238.out | refine below_set ?_ GE239.out) | exact HB.out))) : w.heap.size ≤ gb241)); have GE241 := GW241; replace HB := Aside0.mk (below_step (by repeat (first | (with_reducible first | exact HB.out | apply below_alloc | apply pw_below_drewN | apply below_drew1 | refine below_set ?_ GE231.out | refine below_set ?_ GE238.out | refine below_set ?_ GE239.out) | exact HB.out)) hb); have NB231_241 := mNe BK231 hg; have NB241_231 := mSy NB231_241; replace BK231 := mBb BK231 hb; have NB238_241 := mNe BK238 hg; have NB241_238 := mSy NB238_241; replace BK238 := mBb BK238 hb; have NB239_241 := mNe BK239 hg; have NB241_239 := mSy NB239_241; replace BK239 := mBb BK239 hb; clear hb hbox hg; have hnb61 := NB241_231.out; have hnc61 := NB231_241.out; have hnb62 := NB241_238.out; have hnc62 := NB238_241.out; have hnb63 := NB241_239.out; have hnc63 := NB239_241.out; have hcz64 := blk_cell BK241.out; have hfz64 := blk_frozen BK241.out; have hnb65 := NB238_231.out; have hnc65 := NB231_238.out; have hnb66 := NB238_239.out; have hnc66 := NB239_238.out; have hcz67 := blk_cell BK238.out; have hfz67 := blk_frozen BK238.out; have hnb68 := NB239_231.out; have hnc68 := NB231_239.out; have hcz69 := blk_cell BK239.out; have hfz69 := blk_frozen BK239.out) | (go_at_call 50; (with_reducible refine (geom_hull_fn1.calls ((rd_T23 x7_2 (ji31)).f0) ((rd_T23 x7_2 (ji31)).f1) x240000_3 x240001_3 ((rd_T23 l0 x58_3).f0) ((rd_T23 l0 x58_3).f1) false _ A45.out).mono ?_); rintro e w70 ⟨rfl, hb⟩; replace HO_7 := Aside0.mk (Kd.R_below (by (with_reducible repeat (first | apply Kd.R_alloc | apply Kd.R_drewN | apply Kd.R_drew)); exact (Kd.R_mono (Kd.R_far (p := ⟨gb241, 1, none⟩) (Kd.R_far (p := ⟨gb241, 0, none⟩) (Kd.R_mono HO_7.out (fun k_ hk => (⟨hk, hk.2⟩ : _ ∧ k_ ≠ gb241))) (fun _ hk => hk.2) (.int .i64 ((rd_T23 l0 x58_3).f0))) (fun _ hk => hk.2) (.int .i64 ((rd_T23 l0 x58_3).f1))) (fun _ h_ => h_.1))) hb); replace BK231 := Aside0.mk (blk_below (g := gb231) (o := .cells #[.int .i64 x232000_1, .int .i64 x232001_1] 23 (0, 0)) (by (with_reducible repeat (first | refine blk_drewN ?_ _ | refine blk_drew ?_ | refine blk_alloc ?_ _)); refine blk_far ?_ NB231_241.out _; (with_reducible repeat (first | refine blk_drewN ?_ _ | refine blk_drew ?_ | refine blk_alloc ?_ _)); refine blk_far ?_ NB231_241.out _; (with_reducible repeat (first | refine blk_drewN ?_ _ | refine blk_drew ?_ | refine blk_alloc ?_ _)); exact BK231.out) hb); replace BK238 := Aside0.mk (blk_below (g := gb238) (o := .cells #[.int .i64 ((rd_T23 x7_2 (ji31)).f0), .int .i64 ((rd_T23 x7_2 (ji31)).f1)] 23 (0, 0)) (by (with_reducible repeat (first | refine blk_drewN ?_ _ | refine blk_drew ?_ | refine blk_alloc ?_ _)); refine blk_far ?_ NB238_241.out _; (with_reducible repeat (first | refine blk_drewN ?_ _ | refine blk_drew ?_ | refine blk_alloc ?_ _)); refine blk_far ?_ NB238_241.out _; (with_reducible repeat (first | refine blk_drewN ?_ _ | refine blk_drew ?_ | refine blk_alloc ?_ _)); exact BK238.out) hb); replace BK239 := Aside0.mk (blk_below (g := gb239) (o := .cells #[.int .i64 x240000_3, .int .i64 x240001_3] 23 (0, 0)) (by (with_reducible repeat (first | refine blk_drewN ?_ _ | refine blk_drew ?_ | refine blk_alloc ?_ _)); refine blk_far ?_ NB239_241.out _; (with_reducible repeat (first | refine blk_drewN ?_ _ | refine blk_drew ?_ | refine blk_alloc ?_ _)); refine blk_far ?_ NB239_241.out _; (with_reducible repeat (first | refine blk_drewN ?_ _ | refine blk_drew ?_ | refine blk_alloc ?_ _)); exact BK239.out) hb); replace BK241 := Aside0.mk (blk_below (g := gb241) (o := .cells #[.int .i64 ((rd_T23 l0 x58_3).f0), .int .i64 ((rd_T23 l0 x58_3).f1)] 23 (0, 0)) (by (with_reducible repeat (first | refine blk_drewN ?_ _ | refine blk_drew ?_ | refine blk_alloc ?_ _)); refine blk_put (cs := #[.int .i64 ((rd_T23 l0 x58_3).f0), .int .i64 0]) ?_ 1 _ rfl; (with_reducible repeat (first | refine blk_drewN ?_ _ | refine blk_drew ?_ | refine blk_alloc ?_ _)); refine blk_put (cs := #[.int .i64 0, .int .i64 0]) ?_ 0 _ rfl; (with_reducible repeat (first | refine blk_drewN ?_ _ | refine blk_drew ?_ | refine blk_alloc ?_ _)); exact BK241.out) hb); replace HB := Aside0.mk (below_step (by repeat (first | (with_reducible first | exact HB.out | apply below_alloc | apply pw_below_drewN | apply below_drew1 | refine below_set ?_ GE231.out | refine below_set ?_ GE238.out | refine below_set ?_ GE239.out | refine below_set ?_ GE241.out) | exact HB.out)) hb); (try clear hb)))
        go_roundg k3
        case measure => have := HK1.out; have := HK2.out; have := HK3.out; omega
        case rel => exact ⟨(wrap64 (x58_3 + 1)), (x240000_3), (x240001_3), (by first | rfl | (simp; done) | (simp [*]; done)), H', ⟨by have := HK1.out; have := HK2.out; have := HK3.out; omega⟩, ⟨by (with_reducible repeat (first | apply Kd.R_alloc | apply Kd.R_drewN | apply Kd.R_drew)); exact Kd.R_mono HO_7.out (fun _ hk => ⟨hk.1.1, ⟨hk.1.2.1, hk.1.2.2⟩⟩)⟩, ⟨BK231.out⟩, ⟨BK238.out⟩, ⟨BK239.out⟩, ⟨by repeat (first | (with_reducible first | exact HB.out | apply below_alloc | apply pw_below_drewN | apply below_drew1 | refine below_set ?_ GE231.out | refine below_set ?_ GE238.out | refine below_set ?_ GE239.out | refine below_set ?_ GE241.out) | exact HB.out)⟩⟩
       rw [if_neg c42] at H
       have c42b0 : decide (x58_3 < (l0.length : Int)) = false := decide_eq_false c42
       clear c42
       have H' := Aside0.mk H
       clear H
       go_wp2
       try go_step3
       try go_wp2
       try go_step3
       go_loopg [71] k3 (fun kq v71 w' => ∃ (x71_4 : Int), v71 = .int .i64 x71_4 ∧ Aside0 (geom_hull.l3 kq l0 x7_2 (x7_2.length : Int) x71_4 x240000_3 x240001_3 = some r) ∧ Aside0 (kq ≤ k3) ∧ Aside0 (Kd.R k23 23 w' w.heap.size (fun k_ => k_ ≠ gb231 ∧ k_ ≠ gb238 ∧ k_ ≠ gb239) (.slice (some ad237) x7_2.length co34) x7_2) ∧ Aside0 (w'.heap[gb231]? = some (.cells #[.int .i64 x232000_1, .int .i64 x232001_1] 23 (0, 0))) ∧ Aside0 (w'.heap[gb238]? = some (.cells #[.int .i64 ((rd_T23 x7_2 (ji31)).f0), .int .i64 ((rd_T23 x7_2 (ji31)).f1)] 23 (0, 0))) ∧ Aside0 (w'.heap[gb239]? = some (.cells #[.int .i64 x240000_3, .int .i64 x240001_3] 23 (0, 0))) ∧ Aside0 (Below w.heap.size w w'))
       case atStart => exact ⟨(0), (by first | rfl | (simp; done) | (simp [*]; done)), H', ⟨Nat.le_refl _⟩, ⟨by (with_reducible repeat (first | apply Kd.R_alloc | apply Kd.R_drewN | apply Kd.R_drew)); exact HO_7.out⟩, ⟨BK231.out⟩, ⟨BK238.out⟩, ⟨BK239.out⟩, ⟨HB.out⟩⟩
       case round =>
        clear H'
        try clear c1; try clear c2; try clear c2b0; try clear c2b1; try clear c2b2; try clear p2; try clear q2; try clear hx2; try clear qi2; try clear c3; try clear c3b0; try clear c3b1; try clear c4; try clear c5; try clear c6; try clear c6b0; try clear p6; try clear c7; try clear c7b0; try clear c8; try clear c8b0; try clear c9; try clear c9b0; try clear c11; try clear c14; try clear c14b0; try clear c14b1; try clear c15; try clear c15b0; try clear c17; try clear c21; try clear p23; try clear q23; try clear hx23; try clear qi23; try clear p24; try clear q24; try clear hx24; try clear c25; try clear c32; try clear c32b0; try clear c33; try clear c33b0; try clear c36; try clear c39; try clear c40; try clear c41; try clear c42; try clear c42b0; try clear c43; try clear c43b0; try clear c44; try clear c44b0; try clear c46; try clear c48; try clear c49; try clear c50; try clear c52; try clear c53; try clear c55; try clear c61; try clear c62; try clear c63; try clear p64; try clear c65; try clear c66; try clear c68; try clear hcz12_0; try clear hcz12_1; try clear hcz13_0; try clear hcz13_1; try clear hcz18_0; try clear hcz18_1; try clear hcz19_0; try clear hcz19_1; try clear hcz22_0; try clear hcz22_1; try clear hcz23_0; try clear hcz23_1; try clear hcz26_0; try clear hcz26_1; try clear hcz27_0; try clear hcz27_1; try clear hcz28_0; try clear hcz28_1; try clear hcz37_0; try clear hcz37_1; try clear hcz41_0; try clear hcz41_1; try clear hcz51_0; try clear hcz51_1; try clear hcz54_0; try clear hcz54_1; try clear hcz56_0; try clear hcz56_1; try clear hcz58_0; try clear hcz58_1; try clear hcz59_0; try clear hcz59_1; try clear hcz5_0; try clear hcz5_1; try clear hcz64_0; try clear hcz64_1; try clear hcz67_0; try clear hcz67_1; try clear hcz69_0; try clear hcz69_1; try clear hfz12_0; try clear hfz12_1; try clear hfz13_0; try clear hfz13_1; try clear hfz18_0; try clear hfz18_1; try clear hfz19_0; try clear hfz19_1; try clear hfz22_0; try clear hfz22_1; try clear hfz23_0; try clear hfz23_1; try clear hfz26_0; try clear hfz26_1; try clear hfz27_0; try clear hfz27_1; try clear hfz28_0; try clear hfz28_1; try clear hfz37_0; try clear hfz37_1; try clear hfz41_0; try clear hfz41_1; try clear hfz51_0; try clear hfz51_1; try clear hfz54_0; try clear hfz54_1; try clear hfz56_0; try clear hfz56_1; try clear hfz58_0; try clear hfz58_1; try clear hfz59_0; try clear hfz59_1; try clear hfz5_0; try clear hfz5_1; try clear hfz64_0; try clear hfz64_1; try clear hfz67_0; try clear hfz67_1; try clear hfz69_0; try clear hfz69_1; try clear hx230_0; try clear hx230_1; try clear hx232_0; try clear hx232_1; try clear hx237_0; try clear hx237_1; try clear hx240_0; try clear hx240_1; try clear p230; try clear p232; try clear p237; try clear p240; try clear q230; try clear q232; try clear q237; try clear q240
        obtain ⟨x71_4, rfl, HA, HK4, HO_7, BK231, BK238, BK239, HB⟩ := hrel
        cases gk with
        | zero => exact absurd HA.out (by simp [geom_hull.l3])
        | succ k4 =>
         have H := HA.out
         clear HA
         simp only [geom_hull.l3] at H
         by_cases c71 : x71_4 < (x7_2.length : Int)
         rotate_left
         ·
          rw [if_neg c71] at H
          have c71b0 : decide (x71_4 < (x7_2.length : Int)) = false := decide_eq_false c71
          clear c71
          by_cases c91 : x7_2.length < 8796093022208
          rotate_left
          ·
           rw [if_neg c91] at H
           exact absurd H (by simp)
          rw [if_pos c91] at H
          have LMc91 := Aside0.mk c91
          clear c91
          obtain ⟨y245, hy245⟩ : ∃ y_ : List (S23), y_ = (x7_2 ++ [(⟨x240000_3, x240001_3⟩ : S23)]) := ⟨_, rfl⟩
          rw [← hy245] at H
          have Ny245 := Aside0.mk hy245
          clear hy245
          have H' := Aside0.mk H
          clear H
          have hnb92 := NB239_231.out
          have hnc92 := NB231_239.out
          have hnb93 := NB239_238.out
          have hnc93 := NB238_239.out
          have hcz94 := blk_cell BK239.out; have hfz94 := blk_frozen BK239.out
          go_wp2_with (first | ((with_reducible refine gate_builtin (b := .append) (xs := #[.tmp 79, .tmp 81]) rfl ?_); at_builtin; refine Kd.R_append k23 (w0 := w) w.heap.size rfl (.tmp 79) (.tmp 81) 41 23 (.agg #[(.int .i64 0), (.int .i64 0)]) 16 rfl Try.underlying41 info23 rfl (by decide) (by omega) (.slice (some ad237) x7_2.length co34) x7_2 (⟨x240000_3, x240001_3⟩ : S23) [.int .i64 x240000_3, .int .i64 x240001_3] (fun k_ => k_ ≠ gb231 ∧ k_ ≠ gb238 ∧ k_ ≠ gb239) (fun _ => False) rfl rfl ?aP (fun _ hk => hk.elim) ?aF ?aO ?aB ?aS ?aL ?_; (case aP => exact k23_mkM _ _ _ (⟨x240000_3, x240001_3⟩ : S23)); (case aB => exact HB.out); (case aF => exact (fun k_ hk => ⟨Kd.freshB (g := gb231) (o := .cells #[.int .i64 x232000_1, .int .i64 x232001_1] 23 (0, 0)) BK231.out k_ hk, Kd.freshB (g := gb238) (o := .cells #[.int .i64 ((rd_T23 x7_2 (ji31)).f0), .int .i64 ((rd_T23 x7_2 (ji31)).f1)] 23 (0, 0)) BK238.out k_ hk, Kd.freshB (g := gb239) (o := .cells #[.int .i64 x240000_3, .int .i64 x240001_3] 23 (0, 0)) BK239.out k_ hk⟩)); (case aO => exact HO_7.out); (case aS => exact (below_size HB.out)); (case aL => have := LMc91.out; omega); intro v246 w95 ho hb hg hat; rw [← Ny245.out] at ho; replace BK231 := Aside0.mk (blk_grown (g := gb231) (o := .cells #[.int .i64 x232000_1, .int .i64 x232001_1] 23 (0, 0)) BK231.out hg (Kd.R_away HO_7.out (fun _ hk => hk.1))); replace BK238 := Aside0.mk (blk_grown (g := gb238) (o := .cells #[.int .i64 ((rd_T23 x7_2 (ji31)).f0), .int .i64 ((rd_T23 x7_2 (ji31)).f1)] 23 (0, 0)) BK238.out hg (Kd.R_away HO_7.out (fun _ hk => hk.2.1))); replace BK239 := Aside0.mk (blk_grown (g := gb239) (o := .cells #[.int .i64 x240000_3, .int .i64 x240001_3] 23 (0, 0)) BK239.out hg (Kd.R_away HO_7.out (fun _ hk => hk.2.2))); replace HB := Aside0.mk hb; have HO247 := Aside0.mk ho; clear HO_7; clear ho hb hg hat))
          go_roundg k4
          case measure => have := HK1.out; have := HK2.out; have := HK3.out; have := HK4.out; omega
          case rel => exact ⟨(y245), H', ⟨by have := HK1.out; have := HK2.out; have := HK3.out; have := HK4.out; omega⟩, ⟨by (with_reducible repeat (first | apply Kd.R_alloc | apply Kd.R_drewN | apply Kd.R_drew)); exact Kd.R_mono HO247.out (fun _ hk => hk.1)⟩, ⟨BK231.out⟩, ⟨HB.out⟩⟩
         rw [if_pos c71] at H
         have c71b0 : decide (x71_4 < (x7_2.length : Int)) = true := decide_eq_true c71
         clear c71
         by_cases c72 : 0 ≤ x71_4
         rotate_left
         ·
          rw [if_neg c72] at H
          exact absurd H (by simp)
         rw [if_pos c72] at H
         have c72b0 : decide (0 ≤ x71_4) = true := decide_eq_true c72
         clear c72
         by_cases c73 : x71_4 < (x7_2.length : Int)
         rotate_left
         ·
          rw [if_neg c73] at H
          exact absurd H (by simp)
         rw [if_pos c73] at H
         have c73b0 : decide (x71_4 < (x7_2.length : Int)) = true := decide_eq_true c73
         clear c73
         by_cases c74 : (((rd_T23 x7_2 x71_4).f0) == x240000_3 && (((rd_T23 x7_2 x71_4).f1) == x240001_3)) = true
         ·
          rw [if_pos c74] at H
          have c74b0 : (((rd_T23 x7_2 x71_4).f0) == x240000_3 && (((rd_T23 x7_2 x71_4).f1) == x240001_3)) = true := c74
          (try (have c74b1 : decide (((rd_T23 x7_2 x71_4).f0) = x240000_3 && (((rd_T23 x7_2 x71_4).f1) == x240001_3)) = true := by simpa using c74))
          (try (have c74b2 : (((rd_T23 x7_2 x71_4).f0) == x240000_3 && (((rd_T23 x7_2 x71_4).f1) == x240001_3)) = true := by simpa using c74))
          clear c74
          obtain rfl := Option.some.inj H
          have p243 : 0 ≤ (x71_4 : Int) := of_decide_eq_true (by first | (with_reducible assumption) | assumption)
          have q243 : x71_4 < (x7_2.length : Int) := of_decide_eq_true (by first | (with_reducible assumption) | assumption)
          obtain ⟨ad243, e243, hx243_0, hx243_1⟩ := at_T23 (Kd.R_reads' HO_7.out).2.2 x71_4 p243 q243
          obtain rfl : ad237 = ad243 := (by injection e243)
          replace p243 := eq_true p243
          replace q243 := eq_true q243
          go_wp2_with (first | ((with_reducible refine gate_dst (N := 13) rfl ?_); refine box_event ?hg (N := 13) ?hd (cs := #[.int .i64 0, .int .i64 0]) (t := 23) ?hr ?_; (case hd => rfl); (case hg => rfl); (case hr => first | (go_simp; done) | (go_simp; rfl)); intro gb244 hg w75 hbox hb; replace HO_7 := Aside0.mk (Kd.R_below (Kd.R_elderB (by (with_reducible repeat (first | apply Kd.R_alloc | apply Kd.R_drewN | apply Kd.R_drew)); exact HO_7.out) gb244 (Nat.le_of_eq hg.symm)) hb); have BK244 := Aside0.mk hbox; have GW244 := Aside0.mk ((by rw [hg]; exact (below_size (by repeat (first | (with_reducible first | exact HB.out | apply below_alloc | apply pw_below_drewN | apply below_drew1 | refine below_set ?_ GE231.out | refine below_set ?_ GE238.out | refine below_set ?_ GE239.out) | exact HB.out))) : w.heap.size ≤ gb244)); have GE244 := GW244; replace HB := Aside0.mk (below_step (by repeat (first | (with_reducible first | exact HB.out | apply below_alloc | apply pw_below_drewN | apply below_drew1 | refine below_set ?_ GE231.out | refine below_set ?_ GE238.out | refine below_set ?_ GE239.out) | exact HB.out)) hb); have NB231_244 := mNe BK231 hg; have NB244_231 := mSy NB231_244; replace BK231 := mBb BK231 hb; have NB238_244 := mNe BK238 hg; have NB244_238 := mSy NB238_244; replace BK238 := mBb BK238 hb; have NB239_244 := mNe BK239 hg; have NB244_239 := mSy NB239_244; replace BK239 := mBb BK239 hb; clear hb hbox hg; have hnb76 := NB244_231.out; have hnc76 := NB231_244.out; have hnb77 := NB244_238.out; have hnc77 := NB238_244.out; have hnb78 := NB244_239.out; have hnc78 := NB239_244.out; have hcz79 := blk_cell BK244.out; have hfz79 := blk_frozen BK244.out; have hnb80 := NB239_231.out; have hnc80 := NB231_239.out; have hnb81 := NB239_238.out; have hnc81 := NB238_239.out; have hcz82 := blk_cell BK239.out; have hfz82 := blk_frozen BK239.out))
          try rw [Exit.noGoto_ret]
          go_ret
          exact ⟨_, by first | rfl | (simp [errW_none, errW_some] <;> rfl) | (simp only [← hji31]; first | rfl | (simp [errW_none, errW_some] <;> rfl)) | (simp [*, errW_none, errW_some] <;> rfl), by (with_reducible repeat (first | apply Kd.R_alloc | apply Kd.R_drewN | apply Kd.R_drew)); exact Kd.R_mono (Kd.R_far (p := ⟨gb244, 1, none⟩) (Kd.R_far (p := ⟨gb244, 0, none⟩) (Kd.R_mono HO_7.out (fun k_ hk => (⟨hk, hk.2⟩ : _ ∧ k_ ≠ gb244))) (fun _ hk => hk.2) (.int .i64 ((rd_T23 x7_2 x71_4).f0))) (fun _ hk => hk.2) (.int .i64 ((rd_T23 x7_2 x71_4).f1))) (fun _ hk => trivial), by repeat (first | (with_reducible first | exact HB.out | apply below_alloc | apply pw_below_drewN | apply below_drew1 | refine below_set ?_ GE231.out | refine below_set ?_ GE238.out | refine below_set ?_ GE239.out | refine below_set ?_ GE244.out) | exact HB.out)⟩
         rw [if_neg c74] at H
         have c74b0 : (((rd_T23 x7_2 x71_4).f0) == x240000_3 && (((rd_T23 x7_2 x71_4).f1) == x240001_3)) = false := by simpa using c74
         (try (have c74b1 : decide (((rd_T23 x7_2 x71_4).f0) = x240000_3 && (((rd_T23 x7_2 x71_4).f1) == x240001_3)) = false := by simpa using c74))
         (try (have c74b2 : (((rd_T23 x7_2 x71_4).f0) == x240000_3 && (((rd_T23 x7_2 x71_4).f1) == x240001_3)) = false := by simpa using c74))
         (try (have c74b3 : ¬ (((rd_T23 x7_2 x71_4).f0) = x240000_3 && (((rd_T23 x7_2 x71_4).f1) == x240001_3)) := by simpa using c74))
         clear c74
         have H' := Aside0.mk H
         clear H
         have p243 : 0 ≤ (x71_4 : Int) := of_decide_eq_true (by first | (with_reducible assumption) | assumption)
         have q243 : x71_4 < (x7_2.length : Int) := of_decide_eq_true (by first | (with_reducible assumption) | assumption)
         obtain ⟨ad243, e243, hx243_0, hx243_1⟩ := at_T23 (Kd.R_reads' HO_7.out).2.2 x71_4 p243 q243
         obtain rfl : ad237 = ad243 := (by injection e243)
         replace p243 := eq_true p243
         replace q243 := eq_true q243
         go_wp2_with (first | ((with_reducible refine gate_dst (N := 13) rfl ?_); refine box_event ?hg (N := 13) ?hd (cs := #[.int .i64 0, .int .i64 0]) (t := 23) ?hr ?_; (case hd => rfl); (case hg => rfl); (case hr => first | (go_simp; done) | (go_simp; rfl)); intro gb244 hg w83 hbox hb; replace HO_7 := Aside0.mk (Kd.R_below (Kd.R_elderB (by (with_reducible repeat (first | apply Kd.R_alloc | apply Kd.R_drewN | apply Kd.R_drew)); exact HO_7.out) gb244 (Nat.le_of_eq hg.symm)) hb); have BK244 := Aside0.mk hbox; have GW244 := Aside0.mk ((by rw [hg]; exact (below_size (by repeat (first | (with_reducible first | exact HB.out | apply below_alloc | apply pw_below_drewN | apply below_drew1 | refine below_set ?_ GE231.out | refine below_set ?_ GE238.out | refine below_set ?_ GE239.out) | exact HB.out))) : w.heap.size ≤ gb244)); have GE244 := GW244; replace HB := Aside0.mk (below_step (by repeat (first | (with_reducible first | exact HB.out | apply below_alloc | apply pw_below_drewN | apply below_drew1 | refine below_set ?_ GE231.out | refine below_set ?_ GE238.out | refine below_set ?_ GE239.out) | exact HB.out)) hb); have NB231_244 := mNe BK231 hg; have NB244_231 := mSy NB231_244; replace BK231 := mBb BK231 hb; have NB238_244 := mNe BK238 hg; have NB244_238 := mSy NB238_244; replace BK238 := mBb BK238 hb; have NB239_244 := mNe BK239 hg; have NB244_239 := mSy NB239_244; replace BK239 := mBb BK239 hb; clear hb hbox hg; have hnb84 := NB244_231.out; have hnc84 := NB231_244.out; have hnb85 := NB244_238.out; have hnc85 := NB238_244.out; have hnb86 := NB244_239.out; have hnc86 := NB239_244.out; have hcz87 := blk_cell BK244.out; have hfz87 := blk_frozen BK244.out; have hnb88 := NB239_231.out; have hnc88 := NB231_239.out; have hnb89 := NB239_238.out; have hnc89 := NB238_239.out; have hcz90 := blk_cell BK239.out; have hfz90 := blk_frozen BK239.out))
         go_roundg k4
         case measure => have := HK1.out; have := HK2.out; have := HK3.out; have := HK4.out; omega
         case rel => exact ⟨(wrap64 (x71_4 + 1)), (by first | rfl | (simp; done) | (simp [*]; done)), H', ⟨by have := HK1.out; have := HK2.out; have := HK3.out; have := HK4.out; omega⟩, ⟨by (with_reducible repeat (first | apply Kd.R_alloc | apply Kd.R_drewN | apply Kd.R_drew)); exact Kd.R_mono (Kd.R_far (p := ⟨gb244, 1, none⟩) (Kd.R_far (p := ⟨gb244, 0, none⟩) (Kd.R_mono HO_7.out (fun k_ hk => (⟨hk, hk.2⟩ : _ ∧ k_ ≠ gb244))) (fun _ hk => hk.2) (.int .i64 ((rd_T23 x7_2 x71_4).f0))) (fun _ hk => hk.2) (.int .i64 ((rd_T23 x7_2 x71_4).f1))) (fun _ hk => ⟨hk.1.1.1, ⟨hk.1.1.2.1, hk.1.1.2.2⟩⟩)⟩, ⟨by (with_reducible repeat (first | refine blk_drewN ?_ _ | refine blk_drew ?_ | refine blk_alloc ?_ _)); refine blk_far ?_ NB231_244.out _; (with_reducible repeat (first | refine blk_drewN ?_ _ | refine blk_drew ?_ | refine blk_alloc ?_ _)); refine blk_far ?_ NB231_244.out _; (with_reducible repeat (first | refine blk_drewN ?_ _ | refine blk_drew ?_ | refine blk_alloc ?_ _)); exact BK231.out⟩, ⟨by (with_reducible repeat (first | refine blk_drewN ?_ _ | refine blk_drew ?_ | refine blk_alloc ?_ _)); refine blk_far ?_ NB238_244.out _; (with_reducible repeat (first | refine blk_drewN ?_ _ | refine blk_drew ?_ | refine blk_alloc ?_ _)); refine blk_far ?_ NB238_244.out _; (with_reducible repeat (first | refine blk_drewN ?_ _ | refine blk_drew ?_ | refine blk_alloc ?_ _)); exact BK238.out⟩, ⟨by (with_reducible repeat (first | refine blk_drewN ?_ _ | refine blk_drew ?_ | refine blk_alloc ?_ _)); refine blk_far ?_ NB239_244.out _; (with_reducible repeat (first | refine blk_drewN ?_ _ | refine blk_drew ?_ | refine blk_alloc ?_ _)); refine blk_far ?_ NB239_244.out _; (with_reducible repeat (first | refine blk_drewN ?_ _ | refine blk_drew ?_ | refine blk_alloc ?_ _)); exact BK239.out⟩, ⟨by repeat (first | (with_reducible first | exact HB.out | apply below_alloc | apply pw_below_drewN | apply below_drew1 | refine below_set ?_ GE231.out | refine below_set ?_ GE238.out | refine below_set ?_ GE239.out | refine below_set ?_ GE244.out) | exact HB.out)⟩⟩
end Go.Proofs.Ytmilejcbkpkplaa.PAll
-- Written by wip/tools/handprint.py: walks of the functions that the law reaches; Lean checks them.
namespace Go.Proofs.Ytmilejcbkpkplaa.PAll
open Go.RowKit Go.Proofs.YtmilejcbkpkplaaW.PrintWords Go.Proofs.YtmilejcbkpkplaaW.PrintLast Go.Proofs.YtmilejcbkpkplaaW.PrintMore
attribute [local go_sem] max2_int min2_int max_two min_two max_three min_three max_four min_four   -- for this text's walks alone
set_option linter.unusedVariables false
set_option linter.unusedSimpArgs false
attribute [local go_sem high] eqA23

/-! ### geom_Hull: function 20 -/
def geom_Hull.f (k : Nat) (l0 : List (S23)) : Option ((List (S23)) × Int) := (geom_check.f k l0).bind fun t248 => (if t248 = 0 then ((geom_hull.f k l0).bind fun t249 => (some (t249, 0))) else (some (([] : List (S23)), t248)))
theorem geom_Hull.mono : ∀ a0 k, LeO (geom_Hull.f k a0) (geom_Hull.f (k + 1) a0) := by
 intro a0 k
 unfold geom_Hull.f
 repeat' first
   | (with_reducible exact geom_check.mono _ _)
   | (with_reducible exact geom_hull.mono _ _)
   | (with_reducible exact LeO.refl _)
   | (with_reducible exact LeO.none _)
   | (with_reducible refine LeO.ite ?_ ?_)
   | (with_reducible refine LeO.bind ?_ (fun _ => ?_))
   | exact geom_check.mono _ _
   | exact geom_hull.mono _ _
   | exact LeO.none _
   | refine LeO.ite ?_ ?_
   | refine LeO.bind ?_ (fun _ => ?_)
set_option maxHeartbeats 8000000 in
set_option maxRecDepth 100000 in
theorem geom_Hull.calls (k : Nat) (A0 : Option Addr) (c0 : Nat) (l0 : List (S23)) (r1 : List (S23)) (r2 : Int) (w : World) (hr0 : Kd.C k23 w A0 l0.length l0) (hc0 : l0.length ≤ c0) (h : geom_Hull.f k l0 = some (r1, r2)) :
  Calls Try.prog 20 #[.slice A0 l0.length c0] w fun e w' => ∃ v0_ : Value, e = .returned (.tuple #[v0_, .int .i64 r2]) ∧ Kd.R k23 23 w' w.heap.size (fun _ => True) v0_ r1 ∧ Below w.heap.size w w' := by
 have HR0 := Aside0.mk hr0
 have HC0 := Aside0.mk hc0
 clear hr0 hc0
 have HB := Aside0.mk (Below.refl w.heap.size w)
 have H : ((geom_check.f k l0).bind fun t248 => (if t248 = 0 then ((geom_hull.f k l0).bind fun t249 => (some (t249, 0))) else (some (([] : List (S23)), t248)))) = some (r1, r2) := h
 clear h
 replace H := Option.bind_eq_some_iff.mp H
 obtain ⟨t248, A20, H⟩ := H
 replace H : (if t248 = 0 then ((geom_hull.f k l0).bind fun t249 => (some (t249, 0))) else (some (([] : List (S23)), t248))) = some (r1, r2) := H
 have A2 := Aside0.mk A20
 clear A20
 by_cases c3 : t248 = 0
 ·
  rw [if_pos c3] at H
  have c3b0 : (t248 == 0) = true := beq_iff_eq.mpr c3
  have c3b1 : (t248 != 0) = false := bne_eq_false_iff_eq.mpr c3
  clear c3
  replace H := Option.bind_eq_some_iff.mp H
  obtain ⟨t249, A40, H⟩ := H
  replace H : (some (t249, 0)) = some (r1, r2) := H
  have A4 := Aside0.mk A40
  clear A40
  simp only [Option.some.injEq, Prod.mk.injEq] at H
  obtain ⟨rfl, rfl⟩ := H
  go_enter Try.func20, Try.ntmps20
  go_wp2_with (first | ((with_reducible refine gate_callee (f := 40) rfl ?_); refine goesL_ (some 6) rfl rfl Try.func40 (by kernel_rfl) rfl #[.slice A0 l0.length c0] rfl (by (try simp only [List.map_toArray, List.map_cons, List.map_nil]); first | done | rfl | (simp only [List.length_drop, List.length_take]; rfl)) ?_; (with_reducible refine (geom_check.calls k _ _ l0 t248 _ ?side1 ?side2 A2.out).mono ?_); (case side1 => repeat (first | exact HR0.out | (with_reducible refine Kd.C_alloc ?_ _) | (with_reducible refine Kd.C_drewN ?_ _) | (with_reducible refine Kd.C_drew ?_))); (case side2 => exact HC0.out); rintro e w5 ⟨rfl, hb⟩; refine ⟨_, rfl, ?_⟩; have n0_ := Aside0.mk (below_step (by repeat (first | (with_reducible first | exact HB.out | apply below_alloc | apply pw_below_drewN | apply below_drew1) | exact HB.out)) hb); clear HB; have HB := n0_; clear n0_; (try clear hb); (try clear hb2); (try clear hk); (try clear hi)) | ((with_reducible refine gate_callee (f := 41) rfl ?_); refine goesL_ (some 11) rfl rfl Try.func41 (by kernel_rfl) rfl #[.slice A0 l0.length c0] rfl (by (try simp only [List.map_toArray, List.map_cons, List.map_nil]); first | done | rfl | (simp only [List.length_drop, List.length_take]; rfl)) ?_; (with_reducible refine (geom_hull.calls k _ _ l0 t249 _ ?side1 ?side2 A4.out).mono ?_); (case side1 => repeat (first | exact (Kd.C_below HR0.out HB.out) | (with_reducible refine Kd.C_alloc ?_ _) | (with_reducible refine Kd.C_drewN ?_ _) | (with_reducible refine Kd.C_drew ?_))); (case side2 => exact HC0.out); rintro e w6 ⟨v250, rfl, ho0, hb⟩; refine ⟨_, rfl, ?_⟩; have n0_ := Aside0.mk (Kd.R_lower ho0 (below_size (by repeat (first | (with_reducible first | exact HB.out | apply below_alloc | apply pw_below_drewN | apply below_drew1) | exact HB.out)))); have n1_ := Aside0.mk (below_step (by repeat (first | (with_reducible first | exact HB.out | apply below_alloc | apply pw_below_drewN | apply below_drew1) | exact HB.out)) hb); clear HB; have HO251 := n0_; have HB := n1_; clear n0_ n1_; (try clear hb); (try clear hb2); (try clear hk); (try clear hi); (try clear ho0)))
  go_ret2
  exact ⟨_, by first | rfl | (simp [errW_none, errW_some] <;> rfl) | (simp [*, errW_none, errW_some] <;> rfl), by (with_reducible repeat (first | apply Kd.R_alloc | apply Kd.R_drewN | apply Kd.R_drew)); exact HO251.out, by repeat (first | (with_reducible first | exact HB.out | apply below_alloc | apply pw_below_drewN | apply below_drew1) | exact HB.out)⟩
 ·
  rw [if_neg c3] at H
  have c3b0 : (t248 == 0) = false := beq_eq_false_iff_ne.mpr c3
  have c3b1 : (t248 != 0) = true := bne_iff_ne.mpr c3
  simp only [Option.some.injEq, Prod.mk.injEq] at H
  obtain ⟨rfl, rfl⟩ := H
  go_enter Try.func20, Try.ntmps20
  go_wp2_with (first | ((with_reducible refine gate_callee (f := 40) rfl ?_); refine goesL_ (some 6) rfl rfl Try.func40 (by kernel_rfl) rfl #[.slice A0 l0.length c0] rfl (by (try simp only [List.map_toArray, List.map_cons, List.map_nil]); first | done | rfl | (simp only [List.length_drop, List.length_take]; rfl)) ?_; (with_reducible refine (geom_check.calls k _ _ l0 t248 _ ?side1 ?side2 A2.out).mono ?_); (case side1 => repeat (first | exact HR0.out | (with_reducible refine Kd.C_alloc ?_ _) | (with_reducible refine Kd.C_drewN ?_ _) | (with_reducible refine Kd.C_drew ?_))); (case side2 => exact HC0.out); rintro e w7 ⟨rfl, hb⟩; refine ⟨_, rfl, ?_⟩; have n0_ := Aside0.mk (below_step (by repeat (first | (with_reducible first | exact HB.out | apply below_alloc | apply pw_below_drewN | apply below_drew1) | exact HB.out)) hb); clear HB; have HB := n0_; clear n0_; (try clear hb); (try clear hb2); (try clear hk); (try clear hi)))
  go_ret2
  exact ⟨_, by first | rfl | (simp [errW_none, errW_some] <;> rfl) | (simp [*, errW_none, errW_some] <;> rfl), by first | exact Kd.R_nil _ _ _ _ _ | exact Kd.N_nil _ _ _ _ _ | exact Kd.V_nil _ _ _ _ _ | exact Kd.Q_nil _ _ _ _ _ | exact Kd.S_nil _ _ _ _ _, by repeat (first | (with_reducible first | exact HB.out | apply below_alloc | apply pw_below_drewN | apply below_drew1) | exact HB.out)⟩
end Go.Proofs.Ytmilejcbkpkplaa.PAll
-- Written by wip/tools/handprint.py: walks of the functions that the law reaches; Lean checks them.
namespace Go.Proofs.Ytmilejcbkpkplaa.PAll
open Go.RowKit Go.Proofs.YtmilejcbkpkplaaW.PrintWords Go.Proofs.YtmilejcbkpkplaaW.PrintLast Go.Proofs.YtmilejcbkpkplaaW.PrintMore
attribute [local go_sem] max2_int min2_int max_two min_two max_three min_three max_four min_four   -- for this text's walks alone
set_option linter.unusedVariables false
set_option linter.unusedSimpArgs false
attribute [local go_sem high] eqA23

/-! ### dancestudioref03_Same: function 22 -/
def dancestudioref03_Same.l0 : Nat → List (S23) → List (S23) → Int → Option (Bool)
 | 0, _, _, _ => none
 | k + 1, x0, x1, x5 => if x5 < (x0.length : Int) then (if 0 ≤ x5 then (if x5 < (x1.length : Int) then (if (!(((rd_T23 x0 x5).f0) == ((rd_T23 x1 x5).f0)) || (!(((rd_T23 x0 x5).f1) == ((rd_T23 x1 x5).f1)))) = true then (some false) else (dancestudioref03_Same.l0 k x0 x1 (wrap64 (x5 + 1)))) else (none)) else (none)) else (some true)
def dancestudioref03_Same.f (k : Nat) (l0 : List (S23)) (l1 : List (S23)) : Option (Bool) := if (l0.length : Int) = (l1.length : Int) then (dancestudioref03_Same.l0 k l0 l1 0) else (some false)
theorem dancestudioref03_Same.mono_l : ∀ k, (∀ y0 y1 y2, LeO (dancestudioref03_Same.l0 k y0 y1 y2) (dancestudioref03_Same.l0 (k + 1) y0 y1 y2))
 | 0 => fun _ _ _ r h => by simp [dancestudioref03_Same.l0] at h
 | k + 1 => by
  have ih0 := dancestudioref03_Same.mono_l k
  ·
   intro y0 y1 y2
   unfold dancestudioref03_Same.l0
   repeat' first
   | (with_reducible exact ih0 _ _ _)
   | (with_reducible exact LeO.refl _)
   | (with_reducible exact LeO.none _)
   | (with_reducible refine LeO.ite ?_ ?_)
   | (with_reducible refine LeO.bind ?_ (fun _ => ?_))
   | exact ih0 _ _ _
   | exact LeO.none _
   | refine LeO.ite ?_ ?_
   | refine LeO.bind ?_ (fun _ => ?_)
theorem dancestudioref03_Same.mono : ∀ a0 a1 k, LeO (dancestudioref03_Same.f k a0 a1) (dancestudioref03_Same.f (k + 1) a0 a1) := by
 intro a0 a1 k
 have ih0 := dancestudioref03_Same.mono_l k
 unfold dancestudioref03_Same.f
 repeat' first
   | (with_reducible exact ih0 _ _ _)
   | (with_reducible exact LeO.refl _)
   | (with_reducible exact LeO.none _)
   | (with_reducible refine LeO.ite ?_ ?_)
   | (with_reducible refine LeO.bind ?_ (fun _ => ?_))
   | exact ih0 _ _ _
   | exact LeO.none _
   | refine LeO.ite ?_ ?_
   | refine LeO.bind ?_ (fun _ => ?_)
set_option maxHeartbeats 8000000 in
set_option maxRecDepth 100000 in
theorem dancestudioref03_Same.calls (k : Nat) (A0 : Option Addr) (c0 : Nat) (l0 : List (S23)) (A1 : Option Addr) (c1 : Nat) (l1 : List (S23)) (r : Bool) (w : World) (hr0 : Kd.C k23 w A0 l0.length l0) (hc0 : l0.length ≤ c0) (hr1 : Kd.C k23 w A1 l1.length l1) (hc1 : l1.length ≤ c1) (h : dancestudioref03_Same.f k l0 l1 = some r) :
  Calls Try.prog 22 #[.slice A0 l0.length c0, .slice A1 l1.length c1] w fun e w' => e = .returned (.bool r) ∧ Drawn0 w w' := by
 have hu23 := Try.underlying23
 have HR0 := Aside0.mk hr0
 have HC0 := Aside0.mk hc0
 clear hr0 hc0
 have HR1 := Aside0.mk hr1
 have HC1 := Aside0.mk hc1
 clear hr1 hc1
 have H : (if (l0.length : Int) = (l1.length : Int) then (dancestudioref03_Same.l0 k l0 l1 0) else (some false)) = some r := h
 clear h
 by_cases c3 : (l0.length : Int) = (l1.length : Int)
 ·
  rw [if_pos c3] at H
  have c3b0 : ((l0.length : Int) == (l1.length : Int)) = true := beq_iff_eq.mpr c3
  have c3b1 : ((l0.length : Int) != (l1.length : Int)) = false := bne_eq_false_iff_eq.mpr c3
  have c3b2 : (l0.length == l1.length) = true := by first | simpa using c3 | (simp at c3 ⊢; omega)
  clear c3
  have H' := Aside0.mk H
  clear H
  go_enter Try.func22, Try.ntmps22
  go_wp2
  repeat (go_quiet (fail); try go_wp2)
  go_loopg [5] k (fun kq v5 w' => ∃ (x5_1 : Int), v5 = .int .i64 x5_1 ∧ Aside0 (dancestudioref03_Same.l0 kq l0 l1 x5_1 = some r) ∧ Aside0 (kq ≤ k) ∧ Drawn0 w w')
  case atStart => exact ⟨(0), (by first | rfl | (simp; done) | (simp [*]; done)), H', ⟨Nat.le_refl _⟩, by repeat (first | exact Drawn0.refl _ | apply Drawn0.step)⟩
  case round =>
   clear H'
   try clear c1
   try clear c2
   try clear p2
   try clear c3
   try clear c3b0
   try clear c3b1
   try clear c3b2
   obtain ⟨x5_1, rfl, HA, HK1, ⟨m1, rfl⟩⟩ := hrel
   cases gk with
   | zero => exact absurd HA.out (by simp [dancestudioref03_Same.l0])
   | succ k1 =>
    have H := HA.out
    clear HA
    simp only [dancestudioref03_Same.l0] at H
    by_cases c4 : x5_1 < (l0.length : Int)
    ·
     rw [if_pos c4] at H
     have c4b0 : decide (x5_1 < (l0.length : Int)) = true := decide_eq_true c4
     clear c4
     by_cases c5 : 0 ≤ x5_1
     ·
      rw [if_pos c5] at H
      have c5b0 : decide (0 ≤ x5_1) = true := decide_eq_true c5
      clear c5
      by_cases c6 : x5_1 < (l1.length : Int)
      ·
       rw [if_pos c6] at H
       have c6b0 : decide (x5_1 < (l1.length : Int)) = true := decide_eq_true c6
       clear c6
       by_cases c7 : (!(((rd_T23 l0 x5_1).f0) == ((rd_T23 l1 x5_1).f0)) || (!(((rd_T23 l0 x5_1).f1) == ((rd_T23 l1 x5_1).f1)))) = true
       ·
        rw [if_pos c7] at H
        have c7b0 : (!(((rd_T23 l0 x5_1).f0) == ((rd_T23 l1 x5_1).f0)) || (!(((rd_T23 l0 x5_1).f1) == ((rd_T23 l1 x5_1).f1)))) = true := c7
        clear c7
        obtain rfl := Option.some.inj H
        have p252 : 0 ≤ (x5_1 : Int) := of_decide_eq_true (by first | (with_reducible assumption) | assumption)
        have q252 : x5_1 < (l0.length : Int) := of_decide_eq_true (by first | (with_reducible assumption) | assumption)
        obtain ⟨ad252, e252, hx252_0, hx252_1⟩ := at_T23 HR0.out x5_1 p252 q252
        cases e252
        replace p252 := eq_true p252
        replace q252 := eq_true q252
        have p253 : 0 ≤ (x5_1 : Int) := of_decide_eq_true (by first | (with_reducible assumption) | assumption)
        have q253 : x5_1 < (l1.length : Int) := of_decide_eq_true (by first | (with_reducible assumption) | assumption)
        obtain ⟨ad253, e253, hx253_0, hx253_1⟩ := at_T23 HR1.out x5_1 p253 q253
        cases e253
        replace p253 := eq_true p253
        replace q253 := eq_true q253
        go_wp2
        repeat (go_quiet (fail); try go_wp2)
        go_ret
        exact ⟨by first | rfl | (simp; done) | (simp [*]; done), by repeat (first | exact Drawn0.refl _ | apply Drawn0.step)⟩
       ·
        rw [if_neg c7] at H
        have c7b0 : (!(((rd_T23 l0 x5_1).f0) == ((rd_T23 l1 x5_1).f0)) || (!(((rd_T23 l0 x5_1).f1) == ((rd_T23 l1 x5_1).f1)))) = false := by simpa using c7
        clear c7
        have H' := Aside0.mk H
        clear H
        have p252 : 0 ≤ (x5_1 : Int) := of_decide_eq_true (by first | (with_reducible assumption) | assumption)
        have q252 : x5_1 < (l0.length : Int) := of_decide_eq_true (by first | (with_reducible assumption) | assumption)
        obtain ⟨ad252, e252, hx252_0, hx252_1⟩ := at_T23 HR0.out x5_1 p252 q252
        cases e252
        replace p252 := eq_true p252
        replace q252 := eq_true q252
        have p253 : 0 ≤ (x5_1 : Int) := of_decide_eq_true (by first | (with_reducible assumption) | assumption)
        have q253 : x5_1 < (l1.length : Int) := of_decide_eq_true (by first | (with_reducible assumption) | assumption)
        obtain ⟨ad253, e253, hx253_0, hx253_1⟩ := at_T23 HR1.out x5_1 p253 q253
        cases e253
        replace p253 := eq_true p253
        replace q253 := eq_true q253
        go_wp2
        repeat (go_quiet (fail); try go_wp2)
        go_roundg k1
        case measure => have := HK1.out; omega
        case rel => exact ⟨(wrap64 (x5_1 + 1)), (by first | rfl | (simp; done) | (simp [*]; done)), H', ⟨by have := HK1.out; omega⟩, by repeat (first | exact Drawn0.refl _ | apply Drawn0.step)⟩
      ·
       rw [if_neg c6] at H
       exact absurd H (by simp)
     ·
      rw [if_neg c5] at H
      exact absurd H (by simp)
    ·
     rw [if_neg c4] at H
     have c4b0 : decide (x5_1 < (l0.length : Int)) = false := decide_eq_false c4
     clear c4
     obtain rfl := Option.some.inj H
     go_wp2
     repeat (go_quiet (fail); try go_wp2)
     go_ret
     exact ⟨by first | rfl | (simp; done) | (simp [*]; done), by repeat (first | exact Drawn0.refl _ | apply Drawn0.step)⟩
 ·
  rw [if_neg c3] at H
  have c3b0 : ((l0.length : Int) == (l1.length : Int)) = false := beq_eq_false_iff_ne.mpr c3
  have c3b1 : ((l0.length : Int) != (l1.length : Int)) = true := bne_iff_ne.mpr c3
  have c3b2 : (l0.length == l1.length) = false := by first | simpa using c3 | (simp at c3 ⊢; omega)
  obtain rfl := Option.some.inj H
  go_enter Try.func22, Try.ntmps22
  go_wp2
  repeat (go_quiet (fail); try go_wp2)
  go_ret
  exact ⟨by first | rfl | (simp; done) | (simp [*]; done), by repeat (first | exact Drawn0.refl _ | apply Drawn0.step)⟩
end Go.Proofs.Ytmilejcbkpkplaa.PAll
