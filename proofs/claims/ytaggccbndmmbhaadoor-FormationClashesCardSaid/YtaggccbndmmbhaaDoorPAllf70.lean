-- Written by wip/tools/handprint.py: walks of the functions that the law reaches; Lean checks them.
import Derived.Test.YtaggccbndmmbhaaDoorBase
import Derived.Test.YtaggccbndmmbhaaDoorPAllf83
namespace Go.Proofs.YtaggccbndmmbhaaDoor.PAll
open Go.RowKit Go.Proofs.YtaggccbndmmbhaaDoorW.PrintWords Go.Proofs.YtaggccbndmmbhaaDoorW.PrintLast Go.Proofs.YtaggccbndmmbhaaDoorW.PrintMore
attribute [local go_sem] max2_int min2_int max_two min_two max_three min_three max_four min_four   -- for this text's walks alone
set_option linter.unusedVariables false
set_option linter.unusedSimpArgs false

/-! ### assign_solve: function 70 -/
def assign_solve.l0 : Nat → List (List Int) → Int → Int → List Int → List Int → List Int → Option (List Int × List Int × List Int)
 | 0, _, _, _, _, _, _ => none
 | k + 1, x0, x3, x5, x191000, x191001, x191002 => if x5 ≤ x3 then ((assign_solved_add.f k x191000 x0 x5 x191001 x191002).bind fun bt191 => (assign_solve.l0 k x0 x3 (wrap64 (x5 + 1)) bt191.1 bt191.2.1 bt191.2.2)) else (some (x191000, x191001, x191002))
def assign_solve.f (k : Nat) (l0 : List (List Int)) : Option (List Int × List Int × List Int) := if 0 ≤ (wrap64 ((l0.length : Int) + 1)) then (if (wrap64 ((l0.length : Int) + 1) : Int).toNat ≤ 35184372088832 then (assign_solve.l0 k l0 (l0.length : Int) 1 (List.replicate (wrap64 ((l0.length : Int) + 1) : Int).toNat 0) (List.replicate (wrap64 ((l0.length : Int) + 1) : Int).toNat 0) (List.replicate (wrap64 ((l0.length : Int) + 1) : Int).toNat 0)) else (none)) else (none)
def assign_solve.T2 : Bool × List (List Nat × List Nat) := (true, [([], []), ([0], [0]), ([1, 1], [1]), ([], []), ([3], [3]), ([4, 4], [4]), ([], []), ([6], [6]), ([7, 7], [7]), ([2, 5, 8], [2, 5, 8]), ([], []), ([10, 9, 0, 1, 2, 3, 4, 5, 6, 7, 8, 9, 10], [9, 10])])
def assign_solve.B2 : List Nat := [0, 1, 3, 0, 8, 24, 0, 64, 192, 511, 0, 2047]
theorem assign_solve.tab2 : rtab .any (opsOf Tryd.f70 2) = assign_solve.T2 := by kernel_rfl
theorem assign_solve.bits2 : waitsOk assign_solve.T2.2 assign_solve.B2 = true := by kernel_rfl
set_option maxHeartbeats 8000000 in
set_option maxRecDepth 100000 in
theorem assign_solve.calls (k : Nat) (A0 : Option Addr) (c0 : Nat) (l0 : List (List Int)) (r1 : List Int) (r2 : List Int) (r3 : List Int) (w : World) (hr0 : Kd.C (Kd.slice 3 (Kd.int .i64)) w A0 l0.length l0) (hc0 : l0.length ≤ c0) (h : assign_solve.f k l0 = some (r1, r2, r3)) :
  Calls Tryd.prog 70 #[.slice A0 l0.length c0] w fun e w' => ∃ v0_ v1_ v2_ : Value, e = .returned (.agg #[v0_, v1_, v2_]) ∧ Kd.R (Kd.int .i64) 3 w' w.heap.size (fun k_ => some k_ ≠ (v1_ : Value).ownBlock ∧ some k_ ≠ (v2_ : Value).ownBlock) v0_ r1 ∧ Kd.R (Kd.int .i64) 3 w' w.heap.size (fun k_ => some k_ ≠ (v0_ : Value).ownBlock ∧ some k_ ≠ (v2_ : Value).ownBlock) v1_ r2 ∧ Kd.R (Kd.int .i64) 3 w' w.heap.size (fun k_ => some k_ ≠ (v0_ : Value).ownBlock ∧ some k_ ≠ (v1_ : Value).ownBlock) v2_ r3 ∧ Below w.heap.size w w' := by
 have hu90 := Tryd.underlying90
 have HR0 := Aside0.mk hr0
 have HC0 := Aside0.mk hc0
 clear hr0 hc0
 have HB := Aside0.mk (Below.refl w.heap.size w)
 have H := h
 unfold assign_solve.f at H
 clear h
 obtain ⟨ji2, hji2⟩ : ∃ j_ : Int, (wrap64 ((l0.length : Int) + 1)) = j_ := ⟨_, rfl⟩
 replace H : (if 0 ≤ (ji2) then (if (ji2 : Int).toNat ≤ 35184372088832 then (assign_solve.l0 k l0 (l0.length : Int) 1 (List.replicate (ji2 : Int).toNat 0) (List.replicate (ji2 : Int).toNat 0) (List.replicate (ji2 : Int).toNat 0)) else (none)) else (none)) = some (r1, r2, r3) := by first | (rw [hji2] at H; exact H) | (simp only [hji2] at H ⊢; exact H)
 have hji2w : (IntKind.i64.wrap ((l0.length : Int) + 1)) = ji2 := (i64_w _).trans hji2
 obtain ⟨c3, H⟩ : (0 ≤ (ji2)) ∧ _ := mIf H
 have c3b0 := eq_true c3
 have c3b1 := decide_eq_true c3
 clear c3
 obtain ⟨c4, H⟩ : ((ji2 : Int).toNat ≤ 35184372088832) ∧ _ := mIf H
 have c4b0 := eq_true c4
 have c4b1 := decide_eq_true c4
 clear c4
 obtain ⟨y181, hy181⟩ : ∃ y_ : List Int, y_ = (List.replicate (ji2 : Int).toNat 0) := ⟨_, rfl⟩
 replace H : (assign_solve.l0 k l0 (l0.length : Int) 1 y181 (List.replicate (ji2 : Int).toNat 0) (List.replicate (ji2 : Int).toNat 0)) = some (r1, r2, r3) := by first | (rw [hy181]; with_reducible exact H) | (have H2_ := (Option.bind_some _ _).symm.trans H; rw [hy181]; with_reducible exact H2_) | (have H2_ := (Option.bind_some _ _).symm.trans H; with_reducible exact H2_) | with_reducible exact H | (rw [hy181]; exact H) | exact H
 have Ny181 := Aside0.mk hy181
 clear hy181
 obtain ⟨y184, hy184⟩ : ∃ y_ : List Int, y_ = (List.replicate (ji2 : Int).toNat 0) := ⟨_, rfl⟩
 replace H : (assign_solve.l0 k l0 (l0.length : Int) 1 y181 y184 (List.replicate (ji2 : Int).toNat 0)) = some (r1, r2, r3) := by first | (rw [hy184]; with_reducible exact H) | (have H2_ := (Option.bind_some _ _).symm.trans H; rw [hy184]; with_reducible exact H2_) | (have H2_ := (Option.bind_some _ _).symm.trans H; with_reducible exact H2_) | with_reducible exact H | (rw [hy184]; exact H) | exact H
 have Ny184 := Aside0.mk hy184
 clear hy184
 obtain ⟨y187, hy187⟩ : ∃ y_ : List Int, y_ = (List.replicate (ji2 : Int).toNat 0) := ⟨_, rfl⟩
 rw [← hy187] at H
 have Ny187 := Aside0.mk hy187
 clear hy187
 have H' := Aside0.mk H
 clear H
 go_enter Tryd.func70, Tryd.ntmps70
 try go_wp2_with (first | ((with_reducible refine gate_dst (N := 2) rfl ?_); refine box_event rfl (N := 2) rfl (cs := #[.slice none 0 0, .slice none 0 0, .slice none 0 0]) (t := 90) (by first | (go_simp; done) | (go_simp; rfl)) ?_; intro gb1 hg w5 hbox hb; have BK1 := Aside0.mk hbox; have GW1 := mGw HB hg; have GE1 := GW1; replace HB := mSt HB hb; clear hb hbox hg))
 replace BK1 := Aside0.mk (blk_drew BK1.out); replace HB := Aside0.mk (below_drew1 HB.out)
 refine start_ (n := 12) (S := fun w' => True) (ds := []) #[false, false, false, false, false, false, false, false, false, false, false, false] (by kernel_rfl) rfl rfl trivial (fun hHeld => ?_); refine with_tabW assign_solve.tab2 assign_solve.bits2 (fun HT_ HW_ => ?_)
 generalize w5.drew = w6 at BK1 HB hHeld ⊢
 refine pM 0 8 HT_ ?_
 refine pM 1 9 HT_ ?_
 refine pM 3 11 HT_ ?_
 refine pM 4 12 HT_ ?_
 refine pM 6 14 HT_ ?_
 refine pM 7 15 HT_ ?_
 refine join_ (σ := Value × Value × Value × Nat) 1 #[true, true, true, true, true, true, true, true, true, true, true, false] (fun s_ => [(10, s_.1), (13, s_.2.1), (16, s_.2.2.1), (4, .pointer (some ⟨s_.2.2.2, 0, none⟩)), (17, .agg #[s_.1, s_.2.1, s_.2.2.1])]) (fun s_ w' => (Kd.R (Kd.int .i64) 3 w' w.heap.size (fun k_ => some k_ ≠ (s_.2.1 : Value).ownBlock ∧ some k_ ≠ (s_.2.2.1 : Value).ownBlock) s_.1 y181) ∧ (Kd.R (Kd.int .i64) 3 w' w.heap.size (fun k_ => some k_ ≠ (s_.1 : Value).ownBlock ∧ some k_ ≠ (s_.2.2.1 : Value).ownBlock) s_.2.1 y184) ∧ (Kd.R (Kd.int .i64) 3 w' w.heap.size (fun k_ => some k_ ≠ (s_.1 : Value).ownBlock ∧ some k_ ≠ (s_.2.1 : Value).ownBlock) s_.2.2.1 y187) ∧ (w'.heap[gb1]? = some (.cells #[.slice none 0 0, .slice none 0 0, .slice none 0 0] 90 (0, 0))) ∧ (w'.heap[s_.2.2.2]? = some (.cells #[.slice none 0 0, .slice none 0 0, .slice none 0 0] 90 (0, 0))) ∧ (w.heap.size ≤ s_.2.2.2) ∧ (w.heap.size ≤ s_.2.2.2) ∧ (gb1 ≠ s_.2.2.2) ∧ (s_.2.2.2 ≠ gb1) ∧ (Below w.heap.size w w')) ?_ ?_
 rotate_left
 ·
  intro hJ2_5_8_10
  refine join_ (σ := Value × Value × Value) 2 #[true, true, true, true, true, true, true, true, true, true, false, false] (fun s_ => [(10, s_.1), (13, s_.2.1), (16, s_.2.2), (17, .agg #[s_.1, s_.2.1, s_.2.2])]) (fun s_ w' => (Kd.R (Kd.int .i64) 3 w' w.heap.size (fun k_ => some k_ ≠ (s_.2.1 : Value).ownBlock ∧ some k_ ≠ (s_.2.2 : Value).ownBlock) s_.1 y181) ∧ (Kd.R (Kd.int .i64) 3 w' w.heap.size (fun k_ => some k_ ≠ (s_.1 : Value).ownBlock ∧ some k_ ≠ (s_.2.2 : Value).ownBlock) s_.2.1 y184) ∧ (Kd.R (Kd.int .i64) 3 w' w.heap.size (fun k_ => some k_ ≠ (s_.1 : Value).ownBlock ∧ some k_ ≠ (s_.2.1 : Value).ownBlock) s_.2.2 y187) ∧ (w'.heap[gb1]? = some (.cells #[.slice none 0 0, .slice none 0 0, .slice none 0 0] 90 (0, 0))) ∧ (Below w.heap.size w w')) ?_ ?_
  ·
   skip
   rintro ⟨v182, v185, v188⟩ w16 ⟨h0_, h1_, h2_, h3_, h4_⟩
   have n0_ := Aside0.mk h0_; have n1_ := Aside0.mk h1_; have n2_ := Aside0.mk h2_; have n3_ := Aside0.mk h3_; have n4_ := Aside0.mk h4_; clear BK1; clear HB; clear h0_ h1_ h2_ h3_ h4_; have HO183 := n0_; have HO186 := n1_; have HO189 := n2_; have BK1 := n3_; have HB := n4_; clear n0_ n1_ n2_ n3_ n4_
   have hHeld := trivial
   obtain ⟨Ao17, co17, eo17⟩ := Kd.R_slice HO189.out
   subst eo17
   obtain ⟨Ao18, co18, eo18⟩ := Kd.R_slice HO186.out
   subst eo18
   obtain ⟨Ao19, co19, eo19⟩ := Kd.R_slice HO183.out
   subst eo19
   refine norm_ (a' := ?_) ?_ ?_
   rotate_left
   ·
    simp only [putAll, Act.put, List.setIfInBounds_toArray, List.set_cons_zero, List.set_cons_succ]
    rfl
   refine one_ (i := 10) (N := some 4) #[true, true, true, true, true, true, true, true, true, true, true, false] rfl rfl (one_of HT_.out (by kernel_rfl)) (by decide) (fun K hK => ?_)
   refine box_step ?hg (N := 4) ?hd (cs := #[.slice none 0 0, .slice none 0 0, .slice none 0 0]) (t := 90) ?hr ?_; (case hd => rfl); (case hg => rfl); (case hr => first | (go_simp; done) | (go_simp; rfl))
   intro gb2 hg w20 hbox hb
   replace HO183 := Aside0.mk (Kd.R_below HO183.out hb); replace HO186 := Aside0.mk (Kd.R_below HO186.out hb); replace HO189 := Aside0.mk (Kd.R_below HO189.out hb); have BK2 := Aside0.mk hbox; have GW2 := mGw HB hg; have GE2 := GW2; replace HB := mSt HB hb; have NB1_2 := mNe BK1 hg; have NB2_1 := mSy NB1_2; replace BK1 := mBb BK1 hb
   clear hb hbox hg
   refine hK.out _ _ trivial (fun hHeld => ?_)
   clear hK K
   refine norm_ (by show Act.put _ (some 4) _ = _; simp only [mP]; rfl) ?_
   exact norm_ (by simp only [putAll, Act.put, List.setIfInBounds_toArray, List.set_cons_zero, List.set_cons_succ] <;> rfl) (hJ2_5_8_10 (.slice Ao19 y181.length co19, .slice Ao18 y184.length co18, .slice Ao17 y187.length co17, gb2) _ ⟨HO183.out, HO186.out, HO189.out, BK1.out, BK2.out, GW2.out, GE2.out, NB1_2.out, NB2_1.out, HB.out⟩)
  intro hJ2_5_8
  refine join_ (σ := Value × Value × Nat) 3 #[true, true, true, true, true, true, true, true, false, false, true, false] (fun s_ => [(10, s_.1), (13, s_.2.1), (4, .pointer (some ⟨s_.2.2, 0, none⟩))]) (fun s_ w' => (Kd.R (Kd.int .i64) 3 w' w.heap.size (fun k_ => some k_ ≠ (s_.2.1 : Value).ownBlock) s_.1 y181) ∧ (Kd.R (Kd.int .i64) 3 w' w.heap.size (fun k_ => some k_ ≠ (s_.1 : Value).ownBlock) s_.2.1 y184) ∧ (w'.heap[gb1]? = some (.cells #[.slice none 0 0, .slice none 0 0, .slice none 0 0] 90 (0, 0))) ∧ (w'.heap[s_.2.2]? = some (.cells #[.slice none 0 0, .slice none 0 0, .slice none 0 0] 90 (0, 0))) ∧ (w.heap.size ≤ s_.2.2) ∧ (w.heap.size ≤ s_.2.2) ∧ (gb1 ≠ s_.2.2) ∧ (s_.2.2 ≠ gb1) ∧ (Below w.heap.size w w')) ?_ ?_
  ·
   skip
   rintro ⟨v182, v185, gb2⟩ w12 ⟨h0_, h1_, h2_, h3_, h4_, h5_, h6_, h7_, h8_⟩
   have n0_ := Aside0.mk h0_; have n1_ := Aside0.mk h1_; have n2_ := Aside0.mk h2_; have n3_ := Aside0.mk h3_; have n4_ := Aside0.mk h4_; have n5_ := Aside0.mk h5_; have n6_ := Aside0.mk h6_; have n7_ := Aside0.mk h7_; have n8_ := Aside0.mk h8_; clear BK1; clear HB; clear h0_ h1_ h2_ h3_ h4_ h5_ h6_ h7_ h8_; have HO183 := n0_; have HO186 := n1_; have BK1 := n2_; have BK2 := n3_; have GW2 := n4_; have GE2 := n5_; have NB1_2 := n6_; have NB2_1 := n7_; have HB := n8_; clear n0_ n1_ n2_ n3_ n4_ n5_ n6_ n7_ n8_
   have hHeld := trivial
   refine norm_ (a' := ?_) ?_ ?_
   rotate_left
   ·
    simp only [putAll, Act.put, List.setIfInBounds_toArray, List.set_cons_zero, List.set_cons_succ]
    rfl
   refine one_ (i := 8) (N := some 16) #[true, true, true, true, true, true, true, true, true, false, true, false] rfl rfl (one_of HT_.out (by kernel_rfl)) (by decide) (fun K hK => ?_)
   refine Kd.R_make_step (Kd.int .i64) _ 3 (by rfl) (N := 16) rfl 29 _ _ rfl ji2 rfl rfl Tryd.underlying29 (.int .i64 0) 8 info3 rfl (by decide) (by omega) 0 (ok := fun _ => True) (okp := fun _ => True) rfl (fun _ hk => hk) trivial (of_decide_eq_true (by assumption)) (Nat.le_trans (Nat.mul_le_mul_right _ (of_decide_eq_true (by assumption) : ji2.toNat ≤ 35184372088832)) (by omega)) (Below.refl _ _) (Nat.le_refl _) ?_
   intro v188 w13 ho14 hb hg_ hnew_
   clear hg_ hnew_
   (first | rw [← Ny187.out] at ho14 | (simp only [Int.reduceToNat] at ho14; rw [← Ny187.out] at ho14))
   have HO189 := Aside0.mk (Kd.R_lower (Kd.R_new' (Kd.R_new' ho14 (Kd.R_lt HO183.out)) (Kd.R_lt HO186.out)) (below_size HB.out)); replace HO183 := Aside0.mk (Kd.R_elder' HO183.out (Kd.R_base ho14) hb); replace HO186 := Aside0.mk (Kd.R_elder' HO186.out (Kd.R_base ho14) hb); replace BK1 := mBb BK1 hb; replace BK2 := mBb BK2 hb; replace HB := mSt HB hb
   clear hb ho14
   obtain ⟨Ao15, co15, eo15⟩ := Kd.R_slice HO189.out
   subst eo15
   obtain ⟨Ao16, co16, eo16⟩ := Kd.R_slice HO186.out
   subst eo16
   obtain ⟨Ao17, co17, eo17⟩ := Kd.R_slice HO183.out
   subst eo17
   refine hK.out _ _ trivial (fun hHeld => ?_)
   clear hK K
   refine norm_ (by show Act.put _ (some 16) _ = _; simp only [mP]; rfl) ?_
   refine pM 9 17 HT_ ?_
   exact norm_ (by simp only [putAll, Act.put, List.setIfInBounds_toArray, List.set_cons_zero, List.set_cons_succ] <;> rfl) (hJ2_5_8_10 (.slice Ao17 y181.length co17, .slice Ao16 y184.length co16, .slice Ao15 y187.length co15, gb2) _ ⟨HO183.out, HO186.out, (by exact Kd.R_mono HO189.out (fun _ hk => ⟨hk.1.2, hk.2⟩)), BK1.out, BK2.out, GW2.out, GE2.out, NB1_2.out, NB2_1.out, HB.out⟩)
  intro hJ2_5_10
  refine join_ (σ := Value × Value × Nat) 3 #[true, true, true, true, true, false, true, true, true, false, true, false] (fun s_ => [(10, s_.1), (16, s_.2.1), (4, .pointer (some ⟨s_.2.2, 0, none⟩))]) (fun s_ w' => (Kd.R (Kd.int .i64) 3 w' w.heap.size (fun k_ => some k_ ≠ (s_.2.1 : Value).ownBlock) s_.1 y181) ∧ (Kd.R (Kd.int .i64) 3 w' w.heap.size (fun k_ => some k_ ≠ (s_.1 : Value).ownBlock) s_.2.1 y187) ∧ (w'.heap[gb1]? = some (.cells #[.slice none 0 0, .slice none 0 0, .slice none 0 0] 90 (0, 0))) ∧ (w'.heap[s_.2.2]? = some (.cells #[.slice none 0 0, .slice none 0 0, .slice none 0 0] 90 (0, 0))) ∧ (w.heap.size ≤ s_.2.2) ∧ (w.heap.size ≤ s_.2.2) ∧ (gb1 ≠ s_.2.2) ∧ (s_.2.2 ≠ gb1) ∧ (Below w.heap.size w w')) ?_ ?_
  ·
   skip
   rintro ⟨v182, v188, gb2⟩ w12 ⟨h0_, h1_, h2_, h3_, h4_, h5_, h6_, h7_, h8_⟩
   have n0_ := Aside0.mk h0_; have n1_ := Aside0.mk h1_; have n2_ := Aside0.mk h2_; have n3_ := Aside0.mk h3_; have n4_ := Aside0.mk h4_; have n5_ := Aside0.mk h5_; have n6_ := Aside0.mk h6_; have n7_ := Aside0.mk h7_; have n8_ := Aside0.mk h8_; clear BK1; clear HB; clear h0_ h1_ h2_ h3_ h4_ h5_ h6_ h7_ h8_; have HO183 := n0_; have HO189 := n1_; have BK1 := n2_; have BK2 := n3_; have GW2 := n4_; have GE2 := n5_; have NB1_2 := n6_; have NB2_1 := n7_; have HB := n8_; clear n0_ n1_ n2_ n3_ n4_ n5_ n6_ n7_ n8_
   have hHeld := trivial
   refine norm_ (a' := ?_) ?_ ?_
   rotate_left
   ·
    simp only [putAll, Act.put, List.setIfInBounds_toArray, List.set_cons_zero, List.set_cons_succ]
    rfl
   refine one_ (i := 5) (N := some 13) #[true, true, true, true, true, true, true, true, true, false, true, false] rfl rfl (one_of HT_.out (by kernel_rfl)) (by decide) (fun K hK => ?_)
   refine Kd.R_make_step (Kd.int .i64) _ 3 (by rfl) (N := 13) rfl 29 _ _ rfl ji2 rfl rfl Tryd.underlying29 (.int .i64 0) 8 info3 rfl (by decide) (by omega) 0 (ok := fun _ => True) (okp := fun _ => True) rfl (fun _ hk => hk) trivial (of_decide_eq_true (by assumption)) (Nat.le_trans (Nat.mul_le_mul_right _ (of_decide_eq_true (by assumption) : ji2.toNat ≤ 35184372088832)) (by omega)) (Below.refl _ _) (Nat.le_refl _) ?_
   intro v185 w13 ho14 hb hg_ hnew_
   clear hg_ hnew_
   (first | rw [← Ny184.out] at ho14 | (simp only [Int.reduceToNat] at ho14; rw [← Ny184.out] at ho14))
   have HO186 := Aside0.mk (Kd.R_lower (Kd.R_new' (Kd.R_new' ho14 (Kd.R_lt HO183.out)) (Kd.R_lt HO189.out)) (below_size HB.out)); replace HO183 := Aside0.mk (Kd.R_elder' HO183.out (Kd.R_base ho14) hb); replace HO189 := Aside0.mk (Kd.R_elder' HO189.out (Kd.R_base ho14) hb); replace BK1 := mBb BK1 hb; replace BK2 := mBb BK2 hb; replace HB := mSt HB hb
   clear hb ho14
   obtain ⟨Ao15, co15, eo15⟩ := Kd.R_slice HO189.out
   subst eo15
   obtain ⟨Ao16, co16, eo16⟩ := Kd.R_slice HO186.out
   subst eo16
   obtain ⟨Ao17, co17, eo17⟩ := Kd.R_slice HO183.out
   subst eo17
   refine hK.out _ _ trivial (fun hHeld => ?_)
   clear hK K
   refine norm_ (by show Act.put _ (some 13) _ = _; simp only [mP]; rfl) ?_
   refine pM 9 17 HT_ ?_
   exact norm_ (by simp only [putAll, Act.put, List.setIfInBounds_toArray, List.set_cons_zero, List.set_cons_succ] <;> rfl) (hJ2_5_8_10 (.slice Ao17 y181.length co17, .slice Ao16 y184.length co16, .slice Ao15 y187.length co15, gb2) _ ⟨(by exact Kd.R_mono HO183.out (fun _ hk => ⟨hk.2, hk.1⟩)), (by exact Kd.R_mono HO186.out (fun _ hk => ⟨hk.1.2, hk.2⟩)), HO189.out, BK1.out, BK2.out, GW2.out, GE2.out, NB1_2.out, NB2_1.out, HB.out⟩)
  intro hJ2_8_10
  refine join_ (σ := Value × Value × Nat) 3 #[true, true, false, true, true, true, true, true, true, false, true, false] (fun s_ => [(13, s_.1), (16, s_.2.1), (4, .pointer (some ⟨s_.2.2, 0, none⟩))]) (fun s_ w' => (Kd.R (Kd.int .i64) 3 w' w.heap.size (fun k_ => some k_ ≠ (s_.2.1 : Value).ownBlock) s_.1 y184) ∧ (Kd.R (Kd.int .i64) 3 w' w.heap.size (fun k_ => some k_ ≠ (s_.1 : Value).ownBlock) s_.2.1 y187) ∧ (w'.heap[gb1]? = some (.cells #[.slice none 0 0, .slice none 0 0, .slice none 0 0] 90 (0, 0))) ∧ (w'.heap[s_.2.2]? = some (.cells #[.slice none 0 0, .slice none 0 0, .slice none 0 0] 90 (0, 0))) ∧ (w.heap.size ≤ s_.2.2) ∧ (w.heap.size ≤ s_.2.2) ∧ (gb1 ≠ s_.2.2) ∧ (s_.2.2 ≠ gb1) ∧ (Below w.heap.size w w')) ?_ ?_
  ·
   skip
   rintro ⟨v185, v188, gb2⟩ w12 ⟨h0_, h1_, h2_, h3_, h4_, h5_, h6_, h7_, h8_⟩
   have n0_ := Aside0.mk h0_; have n1_ := Aside0.mk h1_; have n2_ := Aside0.mk h2_; have n3_ := Aside0.mk h3_; have n4_ := Aside0.mk h4_; have n5_ := Aside0.mk h5_; have n6_ := Aside0.mk h6_; have n7_ := Aside0.mk h7_; have n8_ := Aside0.mk h8_; clear BK1; clear HB; clear h0_ h1_ h2_ h3_ h4_ h5_ h6_ h7_ h8_; have HO186 := n0_; have HO189 := n1_; have BK1 := n2_; have BK2 := n3_; have GW2 := n4_; have GE2 := n5_; have NB1_2 := n6_; have NB2_1 := n7_; have HB := n8_; clear n0_ n1_ n2_ n3_ n4_ n5_ n6_ n7_ n8_
   have hHeld := trivial
   refine norm_ (a' := ?_) ?_ ?_
   rotate_left
   ·
    simp only [putAll, Act.put, List.setIfInBounds_toArray, List.set_cons_zero, List.set_cons_succ]
    rfl
   refine one_ (i := 2) (N := some 10) #[true, true, true, true, true, true, true, true, true, false, true, false] rfl rfl (one_of HT_.out (by kernel_rfl)) (by decide) (fun K hK => ?_)
   refine Kd.R_make_step (Kd.int .i64) _ 3 (by rfl) (N := 10) rfl 29 _ _ rfl ji2 rfl rfl Tryd.underlying29 (.int .i64 0) 8 info3 rfl (by decide) (by omega) 0 (ok := fun _ => True) (okp := fun _ => True) rfl (fun _ hk => hk) trivial (of_decide_eq_true (by assumption)) (Nat.le_trans (Nat.mul_le_mul_right _ (of_decide_eq_true (by assumption) : ji2.toNat ≤ 35184372088832)) (by omega)) (Below.refl _ _) (Nat.le_refl _) ?_
   intro v182 w13 ho14 hb hg_ hnew_
   clear hg_ hnew_
   (first | rw [← Ny181.out] at ho14 | (simp only [Int.reduceToNat] at ho14; rw [← Ny181.out] at ho14))
   have HO183 := Aside0.mk (Kd.R_lower (Kd.R_new' (Kd.R_new' ho14 (Kd.R_lt HO186.out)) (Kd.R_lt HO189.out)) (below_size HB.out)); replace HO186 := Aside0.mk (Kd.R_elder' HO186.out (Kd.R_base ho14) hb); replace HO189 := Aside0.mk (Kd.R_elder' HO189.out (Kd.R_base ho14) hb); replace BK1 := mBb BK1 hb; replace BK2 := mBb BK2 hb; replace HB := mSt HB hb
   clear hb ho14
   obtain ⟨Ao15, co15, eo15⟩ := Kd.R_slice HO189.out
   subst eo15
   obtain ⟨Ao16, co16, eo16⟩ := Kd.R_slice HO186.out
   subst eo16
   obtain ⟨Ao17, co17, eo17⟩ := Kd.R_slice HO183.out
   subst eo17
   refine hK.out _ _ trivial (fun hHeld => ?_)
   clear hK K
   refine norm_ (by show Act.put _ (some 10) _ = _; simp only [mP]; rfl) ?_
   refine pM 9 17 HT_ ?_
   exact norm_ (by simp only [putAll, Act.put, List.setIfInBounds_toArray, List.set_cons_zero, List.set_cons_succ] <;> rfl) (hJ2_5_8_10 (.slice Ao17 y181.length co17, .slice Ao16 y184.length co16, .slice Ao15 y187.length co15, gb2) _ ⟨(by exact Kd.R_mono HO183.out (fun _ hk => ⟨hk.1.2, hk.2⟩)), (by exact Kd.R_mono HO186.out (fun _ hk => ⟨hk.2, hk.1⟩)), (by exact Kd.R_mono HO189.out (fun _ hk => ⟨hk.2, hk.1⟩)), BK1.out, BK2.out, GW2.out, GE2.out, NB1_2.out, NB2_1.out, HB.out⟩)
  intro hJ5_8_10
  refine join_ (σ := Value × Value) 4 #[true, true, true, true, true, true, true, true, false, false, false, false] (fun s_ => [(10, s_.1), (13, s_.2)]) (fun s_ w' => (Kd.R (Kd.int .i64) 3 w' w.heap.size (fun k_ => some k_ ≠ (s_.2 : Value).ownBlock) s_.1 y181) ∧ (Kd.R (Kd.int .i64) 3 w' w.heap.size (fun k_ => some k_ ≠ (s_.1 : Value).ownBlock) s_.2 y184) ∧ (w'.heap[gb1]? = some (.cells #[.slice none 0 0, .slice none 0 0, .slice none 0 0] 90 (0, 0))) ∧ (Below w.heap.size w w')) ?_ ?_
  ·
   skip
   rintro ⟨v182, v185⟩ w11 ⟨h0_, h1_, h2_, h3_⟩
   have n0_ := Aside0.mk h0_; have n1_ := Aside0.mk h1_; have n2_ := Aside0.mk h2_; have n3_ := Aside0.mk h3_; clear BK1; clear HB; clear h0_ h1_ h2_ h3_; have HO183 := n0_; have HO186 := n1_; have BK1 := n2_; have HB := n3_; clear n0_ n1_ n2_ n3_
   have hHeld := trivial
   refine norm_ (a' := ?_) ?_ ?_
   rotate_left
   ·
    simp only [putAll, Act.put, List.setIfInBounds_toArray, List.set_cons_zero, List.set_cons_succ]
    rfl
   refine two_ (i := 8) (j := 10) (Ni := some 16) (Nj := some 4) #[true, true, true, true, true, true, true, true, true, false, false, false] #[true, true, true, true, true, true, true, true, false, false, true, false] rfl rfl rfl rfl (two_of HT_.out (by kernel_rfl)) (by decide) (by decide) (fun K hK => ?_) (fun K hK => ?_)
   ·
    skip
    refine Kd.R_make_step (Kd.int .i64) _ 3 (by rfl) (N := 16) rfl 29 _ _ rfl ji2 rfl rfl Tryd.underlying29 (.int .i64 0) 8 info3 rfl (by decide) (by omega) 0 (ok := fun _ => True) (okp := fun _ => True) rfl (fun _ hk => hk) trivial (of_decide_eq_true (by assumption)) (Nat.le_trans (Nat.mul_le_mul_right _ (of_decide_eq_true (by assumption) : ji2.toNat ≤ 35184372088832)) (by omega)) (Below.refl _ _) (Nat.le_refl _) ?_
    intro v188 w12 ho13 hb hg_ hnew_
    clear hg_ hnew_
    (first | rw [← Ny187.out] at ho13 | (simp only [Int.reduceToNat] at ho13; rw [← Ny187.out] at ho13))
    have HO189 := Aside0.mk (Kd.R_lower (Kd.R_new' (Kd.R_new' ho13 (Kd.R_lt HO183.out)) (Kd.R_lt HO186.out)) (below_size HB.out)); replace HO183 := Aside0.mk (Kd.R_elder' HO183.out (Kd.R_base ho13) hb); replace HO186 := Aside0.mk (Kd.R_elder' HO186.out (Kd.R_base ho13) hb); replace BK1 := mBb BK1 hb; replace HB := mSt HB hb
    clear hb ho13
    obtain ⟨Ao14, co14, eo14⟩ := Kd.R_slice HO189.out
    subst eo14
    obtain ⟨Ao15, co15, eo15⟩ := Kd.R_slice HO186.out
    subst eo15
    obtain ⟨Ao16, co16, eo16⟩ := Kd.R_slice HO183.out
    subst eo16
    refine hK.out _ _ trivial (fun hHeld => ?_)
    clear hK K
    refine norm_ (by show Act.put _ (some 16) _ = _; simp only [mP]; rfl) ?_
    refine pM 9 17 HT_ ?_
    exact norm_ (by simp only [putAll, Act.put, List.setIfInBounds_toArray, List.set_cons_zero, List.set_cons_succ] <;> rfl) (hJ2_5_8 (.slice Ao16 y181.length co16, .slice Ao15 y184.length co15, .slice Ao14 y187.length co14) _ ⟨HO183.out, HO186.out, (by exact Kd.R_mono HO189.out (fun _ hk => ⟨hk.1.2, hk.2⟩)), BK1.out, HB.out⟩)
   ·
    skip
    refine box_step ?hg (N := 4) ?hd (cs := #[.slice none 0 0, .slice none 0 0, .slice none 0 0]) (t := 90) ?hr ?_; (case hd => rfl); (case hg => rfl); (case hr => first | (go_simp; done) | (go_simp; rfl))
    intro gb2 hg w12 hbox hb
    replace HO183 := Aside0.mk (Kd.R_below HO183.out hb); replace HO186 := Aside0.mk (Kd.R_below HO186.out hb); have BK2 := Aside0.mk hbox; have GW2 := mGw HB hg; have GE2 := GW2; replace HB := mSt HB hb; have NB1_2 := mNe BK1 hg; have NB2_1 := mSy NB1_2; replace BK1 := mBb BK1 hb
    clear hb hbox hg
    refine hK.out _ _ trivial (fun hHeld => ?_)
    clear hK K
    refine norm_ (by show Act.put _ (some 4) _ = _; simp only [mP]; rfl) ?_
    exact norm_ (by simp only [putAll, Act.put, List.setIfInBounds_toArray, List.set_cons_zero, List.set_cons_succ] <;> rfl) (hJ2_5_10 (v182, v185, gb2) _ ⟨HO183.out, HO186.out, BK1.out, BK2.out, GW2.out, GE2.out, NB1_2.out, NB2_1.out, HB.out⟩)
  intro hJ2_5
  refine join_ (σ := Value × Value) 4 #[true, true, true, true, true, false, true, true, true, false, false, false] (fun s_ => [(10, s_.1), (16, s_.2)]) (fun s_ w' => (Kd.R (Kd.int .i64) 3 w' w.heap.size (fun k_ => some k_ ≠ (s_.2 : Value).ownBlock) s_.1 y181) ∧ (Kd.R (Kd.int .i64) 3 w' w.heap.size (fun k_ => some k_ ≠ (s_.1 : Value).ownBlock) s_.2 y187) ∧ (w'.heap[gb1]? = some (.cells #[.slice none 0 0, .slice none 0 0, .slice none 0 0] 90 (0, 0))) ∧ (Below w.heap.size w w')) ?_ ?_
  ·
   skip
   rintro ⟨v182, v188⟩ w11 ⟨h0_, h1_, h2_, h3_⟩
   have n0_ := Aside0.mk h0_; have n1_ := Aside0.mk h1_; have n2_ := Aside0.mk h2_; have n3_ := Aside0.mk h3_; clear BK1; clear HB; clear h0_ h1_ h2_ h3_; have HO183 := n0_; have HO189 := n1_; have BK1 := n2_; have HB := n3_; clear n0_ n1_ n2_ n3_
   have hHeld := trivial
   refine norm_ (a' := ?_) ?_ ?_
   rotate_left
   ·
    simp only [putAll, Act.put, List.setIfInBounds_toArray, List.set_cons_zero, List.set_cons_succ]
    rfl
   refine two_ (i := 5) (j := 10) (Ni := some 13) (Nj := some 4) #[true, true, true, true, true, true, true, true, true, false, false, false] #[true, true, true, true, true, false, true, true, true, false, true, false] rfl rfl rfl rfl (two_of HT_.out (by kernel_rfl)) (by decide) (by decide) (fun K hK => ?_) (fun K hK => ?_)
   ·
    skip
    refine Kd.R_make_step (Kd.int .i64) _ 3 (by rfl) (N := 13) rfl 29 _ _ rfl ji2 rfl rfl Tryd.underlying29 (.int .i64 0) 8 info3 rfl (by decide) (by omega) 0 (ok := fun _ => True) (okp := fun _ => True) rfl (fun _ hk => hk) trivial (of_decide_eq_true (by assumption)) (Nat.le_trans (Nat.mul_le_mul_right _ (of_decide_eq_true (by assumption) : ji2.toNat ≤ 35184372088832)) (by omega)) (Below.refl _ _) (Nat.le_refl _) ?_
    intro v185 w12 ho13 hb hg_ hnew_
    clear hg_ hnew_
    (first | rw [← Ny184.out] at ho13 | (simp only [Int.reduceToNat] at ho13; rw [← Ny184.out] at ho13))
    have HO186 := Aside0.mk (Kd.R_lower (Kd.R_new' (Kd.R_new' ho13 (Kd.R_lt HO183.out)) (Kd.R_lt HO189.out)) (below_size HB.out)); replace HO183 := Aside0.mk (Kd.R_elder' HO183.out (Kd.R_base ho13) hb); replace HO189 := Aside0.mk (Kd.R_elder' HO189.out (Kd.R_base ho13) hb); replace BK1 := mBb BK1 hb; replace HB := mSt HB hb
    clear hb ho13
    obtain ⟨Ao14, co14, eo14⟩ := Kd.R_slice HO189.out
    subst eo14
    obtain ⟨Ao15, co15, eo15⟩ := Kd.R_slice HO186.out
    subst eo15
    obtain ⟨Ao16, co16, eo16⟩ := Kd.R_slice HO183.out
    subst eo16
    refine hK.out _ _ trivial (fun hHeld => ?_)
    clear hK K
    refine norm_ (by show Act.put _ (some 13) _ = _; simp only [mP]; rfl) ?_
    refine pM 9 17 HT_ ?_
    exact norm_ (by simp only [putAll, Act.put, List.setIfInBounds_toArray, List.set_cons_zero, List.set_cons_succ] <;> rfl) (hJ2_5_8 (.slice Ao16 y181.length co16, .slice Ao15 y184.length co15, .slice Ao14 y187.length co14) _ ⟨(by exact Kd.R_mono HO183.out (fun _ hk => ⟨hk.2, hk.1⟩)), (by exact Kd.R_mono HO186.out (fun _ hk => ⟨hk.1.2, hk.2⟩)), HO189.out, BK1.out, HB.out⟩)
   ·
    skip
    refine box_step ?hg (N := 4) ?hd (cs := #[.slice none 0 0, .slice none 0 0, .slice none 0 0]) (t := 90) ?hr ?_; (case hd => rfl); (case hg => rfl); (case hr => first | (go_simp; done) | (go_simp; rfl))
    intro gb2 hg w12 hbox hb
    replace HO183 := Aside0.mk (Kd.R_below HO183.out hb); replace HO189 := Aside0.mk (Kd.R_below HO189.out hb); have BK2 := Aside0.mk hbox; have GW2 := mGw HB hg; have GE2 := GW2; replace HB := mSt HB hb; have NB1_2 := mNe BK1 hg; have NB2_1 := mSy NB1_2; replace BK1 := mBb BK1 hb
    clear hb hbox hg
    refine hK.out _ _ trivial (fun hHeld => ?_)
    clear hK K
    refine norm_ (by show Act.put _ (some 4) _ = _; simp only [mP]; rfl) ?_
    exact norm_ (by simp only [putAll, Act.put, List.setIfInBounds_toArray, List.set_cons_zero, List.set_cons_succ] <;> rfl) (hJ2_8_10 (v182, v188, gb2) _ ⟨HO183.out, HO189.out, BK1.out, BK2.out, GW2.out, GE2.out, NB1_2.out, NB2_1.out, HB.out⟩)
  intro hJ2_8
  refine join_ (σ := Value × Nat) 4 #[true, true, true, true, true, false, true, true, false, false, true, false] (fun s_ => [(10, s_.1), (4, .pointer (some ⟨s_.2, 0, none⟩))]) (fun s_ w' => (Kd.R (Kd.int .i64) 3 w' w.heap.size (fun _ => True) s_.1 y181) ∧ (w'.heap[gb1]? = some (.cells #[.slice none 0 0, .slice none 0 0, .slice none 0 0] 90 (0, 0))) ∧ (w'.heap[s_.2]? = some (.cells #[.slice none 0 0, .slice none 0 0, .slice none 0 0] 90 (0, 0))) ∧ (w.heap.size ≤ s_.2) ∧ (w.heap.size ≤ s_.2) ∧ (gb1 ≠ s_.2) ∧ (s_.2 ≠ gb1) ∧ (Below w.heap.size w w')) ?_ ?_
  ·
   skip
   rintro ⟨v182, gb2⟩ w10 ⟨h0_, h1_, h2_, h3_, h4_, h5_, h6_, h7_⟩
   have n0_ := Aside0.mk h0_; have n1_ := Aside0.mk h1_; have n2_ := Aside0.mk h2_; have n3_ := Aside0.mk h3_; have n4_ := Aside0.mk h4_; have n5_ := Aside0.mk h5_; have n6_ := Aside0.mk h6_; have n7_ := Aside0.mk h7_; clear BK1; clear HB; clear h0_ h1_ h2_ h3_ h4_ h5_ h6_ h7_; have HO183 := n0_; have BK1 := n1_; have BK2 := n2_; have GW2 := n3_; have GE2 := n4_; have NB1_2 := n5_; have NB2_1 := n6_; have HB := n7_; clear n0_ n1_ n2_ n3_ n4_ n5_ n6_ n7_
   have hHeld := trivial
   refine norm_ (a' := ?_) ?_ ?_
   rotate_left
   ·
    simp only [putAll, Act.put, List.setIfInBounds_toArray, List.set_cons_zero, List.set_cons_succ]
    rfl
   refine two_ (i := 5) (j := 8) (Ni := some 13) (Nj := some 16) #[true, true, true, true, true, true, true, true, false, false, true, false] #[true, true, true, true, true, false, true, true, true, false, true, false] rfl rfl rfl rfl (two_of HT_.out (by kernel_rfl)) (by decide) (by decide) (fun K hK => ?_) (fun K hK => ?_)
   ·
    skip
    refine Kd.R_make_step (Kd.int .i64) _ 3 (by rfl) (N := 13) rfl 29 _ _ rfl ji2 rfl rfl Tryd.underlying29 (.int .i64 0) 8 info3 rfl (by decide) (by omega) 0 (ok := fun _ => True) (okp := fun _ => True) rfl (fun _ hk => hk) trivial (of_decide_eq_true (by assumption)) (Nat.le_trans (Nat.mul_le_mul_right _ (of_decide_eq_true (by assumption) : ji2.toNat ≤ 35184372088832)) (by omega)) (Below.refl _ _) (Nat.le_refl _) ?_
    intro v185 w11 ho12 hb hg_ hnew_
    clear hg_ hnew_
    (first | rw [← Ny184.out] at ho12 | (simp only [Int.reduceToNat] at ho12; rw [← Ny184.out] at ho12))
    have HO186 := Aside0.mk (Kd.R_lower (Kd.R_new' ho12 (Kd.R_lt HO183.out)) (below_size HB.out)); replace HO183 := Aside0.mk (Kd.R_elder' HO183.out (Kd.R_base ho12) hb); replace BK1 := mBb BK1 hb; replace BK2 := mBb BK2 hb; replace HB := mSt HB hb
    clear hb ho12
    refine hK.out _ _ trivial (fun hHeld => ?_)
    clear hK K
    refine norm_ (by show Act.put _ (some 13) _ = _; simp only [mP]; rfl) ?_
    exact norm_ (by simp only [putAll, Act.put, List.setIfInBounds_toArray, List.set_cons_zero, List.set_cons_succ] <;> rfl) (hJ2_5_10 (v182, v185, gb2) _ ⟨(by exact Kd.R_mono HO183.out (fun _ hk => hk.2)), (by exact Kd.R_mono HO186.out (fun _ hk => hk.2)), BK1.out, BK2.out, GW2.out, GE2.out, NB1_2.out, NB2_1.out, HB.out⟩)
   ·
    skip
    refine Kd.R_make_step (Kd.int .i64) _ 3 (by rfl) (N := 16) rfl 29 _ _ rfl ji2 rfl rfl Tryd.underlying29 (.int .i64 0) 8 info3 rfl (by decide) (by omega) 0 (ok := fun _ => True) (okp := fun _ => True) rfl (fun _ hk => hk) trivial (of_decide_eq_true (by assumption)) (Nat.le_trans (Nat.mul_le_mul_right _ (of_decide_eq_true (by assumption) : ji2.toNat ≤ 35184372088832)) (by omega)) (Below.refl _ _) (Nat.le_refl _) ?_
    intro v188 w11 ho12 hb hg_ hnew_
    clear hg_ hnew_
    (first | rw [← Ny187.out] at ho12 | (simp only [Int.reduceToNat] at ho12; rw [← Ny187.out] at ho12))
    have HO189 := Aside0.mk (Kd.R_lower (Kd.R_new' ho12 (Kd.R_lt HO183.out)) (below_size HB.out)); replace HO183 := Aside0.mk (Kd.R_elder' HO183.out (Kd.R_base ho12) hb); replace BK1 := mBb BK1 hb; replace BK2 := mBb BK2 hb; replace HB := mSt HB hb
    clear hb ho12
    refine hK.out _ _ trivial (fun hHeld => ?_)
    clear hK K
    refine norm_ (by show Act.put _ (some 16) _ = _; simp only [mP]; rfl) ?_
    exact norm_ (by simp only [putAll, Act.put, List.setIfInBounds_toArray, List.set_cons_zero, List.set_cons_succ] <;> rfl) (hJ2_8_10 (v182, v188, gb2) _ ⟨(by exact Kd.R_mono HO183.out (fun _ hk => hk.2)), (by exact Kd.R_mono HO189.out (fun _ hk => hk.2)), BK1.out, BK2.out, GW2.out, GE2.out, NB1_2.out, NB2_1.out, HB.out⟩)
  intro hJ2_10
  refine join_ (σ := Value × Value) 4 #[true, true, false, true, true, true, true, true, true, false, false, false] (fun s_ => [(13, s_.1), (16, s_.2)]) (fun s_ w' => (Kd.R (Kd.int .i64) 3 w' w.heap.size (fun k_ => some k_ ≠ (s_.2 : Value).ownBlock) s_.1 y184) ∧ (Kd.R (Kd.int .i64) 3 w' w.heap.size (fun k_ => some k_ ≠ (s_.1 : Value).ownBlock) s_.2 y187) ∧ (w'.heap[gb1]? = some (.cells #[.slice none 0 0, .slice none 0 0, .slice none 0 0] 90 (0, 0))) ∧ (Below w.heap.size w w')) ?_ ?_
  ·
   skip
   rintro ⟨v185, v188⟩ w11 ⟨h0_, h1_, h2_, h3_⟩
   have n0_ := Aside0.mk h0_; have n1_ := Aside0.mk h1_; have n2_ := Aside0.mk h2_; have n3_ := Aside0.mk h3_; clear BK1; clear HB; clear h0_ h1_ h2_ h3_; have HO186 := n0_; have HO189 := n1_; have BK1 := n2_; have HB := n3_; clear n0_ n1_ n2_ n3_
   have hHeld := trivial
   refine norm_ (a' := ?_) ?_ ?_
   rotate_left
   ·
    simp only [putAll, Act.put, List.setIfInBounds_toArray, List.set_cons_zero, List.set_cons_succ]
    rfl
   refine two_ (i := 2) (j := 10) (Ni := some 10) (Nj := some 4) #[true, true, true, true, true, true, true, true, true, false, false, false] #[true, true, false, true, true, true, true, true, true, false, true, false] rfl rfl rfl rfl (two_of HT_.out (by kernel_rfl)) (by decide) (by decide) (fun K hK => ?_) (fun K hK => ?_)
   ·
    skip
    refine Kd.R_make_step (Kd.int .i64) _ 3 (by rfl) (N := 10) rfl 29 _ _ rfl ji2 rfl rfl Tryd.underlying29 (.int .i64 0) 8 info3 rfl (by decide) (by omega) 0 (ok := fun _ => True) (okp := fun _ => True) rfl (fun _ hk => hk) trivial (of_decide_eq_true (by assumption)) (Nat.le_trans (Nat.mul_le_mul_right _ (of_decide_eq_true (by assumption) : ji2.toNat ≤ 35184372088832)) (by omega)) (Below.refl _ _) (Nat.le_refl _) ?_
    intro v182 w12 ho13 hb hg_ hnew_
    clear hg_ hnew_
    (first | rw [← Ny181.out] at ho13 | (simp only [Int.reduceToNat] at ho13; rw [← Ny181.out] at ho13))
    have HO183 := Aside0.mk (Kd.R_lower (Kd.R_new' (Kd.R_new' ho13 (Kd.R_lt HO186.out)) (Kd.R_lt HO189.out)) (below_size HB.out)); replace HO186 := Aside0.mk (Kd.R_elder' HO186.out (Kd.R_base ho13) hb); replace HO189 := Aside0.mk (Kd.R_elder' HO189.out (Kd.R_base ho13) hb); replace BK1 := mBb BK1 hb; replace HB := mSt HB hb
    clear hb ho13
    obtain ⟨Ao14, co14, eo14⟩ := Kd.R_slice HO189.out
    subst eo14
    obtain ⟨Ao15, co15, eo15⟩ := Kd.R_slice HO186.out
    subst eo15
    obtain ⟨Ao16, co16, eo16⟩ := Kd.R_slice HO183.out
    subst eo16
    refine hK.out _ _ trivial (fun hHeld => ?_)
    clear hK K
    refine norm_ (by show Act.put _ (some 10) _ = _; simp only [mP]; rfl) ?_
    refine pM 9 17 HT_ ?_
    exact norm_ (by simp only [putAll, Act.put, List.setIfInBounds_toArray, List.set_cons_zero, List.set_cons_succ] <;> rfl) (hJ2_5_8 (.slice Ao16 y181.length co16, .slice Ao15 y184.length co15, .slice Ao14 y187.length co14) _ ⟨(by exact Kd.R_mono HO183.out (fun _ hk => ⟨hk.1.2, hk.2⟩)), (by exact Kd.R_mono HO186.out (fun _ hk => ⟨hk.2, hk.1⟩)), (by exact Kd.R_mono HO189.out (fun _ hk => ⟨hk.2, hk.1⟩)), BK1.out, HB.out⟩)
   ·
    skip
    refine box_step ?hg (N := 4) ?hd (cs := #[.slice none 0 0, .slice none 0 0, .slice none 0 0]) (t := 90) ?hr ?_; (case hd => rfl); (case hg => rfl); (case hr => first | (go_simp; done) | (go_simp; rfl))
    intro gb2 hg w12 hbox hb
    replace HO186 := Aside0.mk (Kd.R_below HO186.out hb); replace HO189 := Aside0.mk (Kd.R_below HO189.out hb); have BK2 := Aside0.mk hbox; have GW2 := mGw HB hg; have GE2 := GW2; replace HB := mSt HB hb; have NB1_2 := mNe BK1 hg; have NB2_1 := mSy NB1_2; replace BK1 := mBb BK1 hb
    clear hb hbox hg
    refine hK.out _ _ trivial (fun hHeld => ?_)
    clear hK K
    refine norm_ (by show Act.put _ (some 4) _ = _; simp only [mP]; rfl) ?_
    exact norm_ (by simp only [putAll, Act.put, List.setIfInBounds_toArray, List.set_cons_zero, List.set_cons_succ] <;> rfl) (hJ5_8_10 (v185, v188, gb2) _ ⟨HO186.out, HO189.out, BK1.out, BK2.out, GW2.out, GE2.out, NB1_2.out, NB2_1.out, HB.out⟩)
  intro hJ5_8
  refine join_ (σ := Value × Nat) 4 #[true, true, false, true, true, true, true, true, false, false, true, false] (fun s_ => [(13, s_.1), (4, .pointer (some ⟨s_.2, 0, none⟩))]) (fun s_ w' => (Kd.R (Kd.int .i64) 3 w' w.heap.size (fun _ => True) s_.1 y184) ∧ (w'.heap[gb1]? = some (.cells #[.slice none 0 0, .slice none 0 0, .slice none 0 0] 90 (0, 0))) ∧ (w'.heap[s_.2]? = some (.cells #[.slice none 0 0, .slice none 0 0, .slice none 0 0] 90 (0, 0))) ∧ (w.heap.size ≤ s_.2) ∧ (w.heap.size ≤ s_.2) ∧ (gb1 ≠ s_.2) ∧ (s_.2 ≠ gb1) ∧ (Below w.heap.size w w')) ?_ ?_
  ·
   skip
   rintro ⟨v185, gb2⟩ w10 ⟨h0_, h1_, h2_, h3_, h4_, h5_, h6_, h7_⟩
   have n0_ := Aside0.mk h0_; have n1_ := Aside0.mk h1_; have n2_ := Aside0.mk h2_; have n3_ := Aside0.mk h3_; have n4_ := Aside0.mk h4_; have n5_ := Aside0.mk h5_; have n6_ := Aside0.mk h6_; have n7_ := Aside0.mk h7_; clear BK1; clear HB; clear h0_ h1_ h2_ h3_ h4_ h5_ h6_ h7_; have HO186 := n0_; have BK1 := n1_; have BK2 := n2_; have GW2 := n3_; have GE2 := n4_; have NB1_2 := n5_; have NB2_1 := n6_; have HB := n7_; clear n0_ n1_ n2_ n3_ n4_ n5_ n6_ n7_
   have hHeld := trivial
   refine norm_ (a' := ?_) ?_ ?_
   rotate_left
   ·
    simp only [putAll, Act.put, List.setIfInBounds_toArray, List.set_cons_zero, List.set_cons_succ]
    rfl
   refine two_ (i := 2) (j := 8) (Ni := some 10) (Nj := some 16) #[true, true, true, true, true, true, true, true, false, false, true, false] #[true, true, false, true, true, true, true, true, true, false, true, false] rfl rfl rfl rfl (two_of HT_.out (by kernel_rfl)) (by decide) (by decide) (fun K hK => ?_) (fun K hK => ?_)
   ·
    skip
    refine Kd.R_make_step (Kd.int .i64) _ 3 (by rfl) (N := 10) rfl 29 _ _ rfl ji2 rfl rfl Tryd.underlying29 (.int .i64 0) 8 info3 rfl (by decide) (by omega) 0 (ok := fun _ => True) (okp := fun _ => True) rfl (fun _ hk => hk) trivial (of_decide_eq_true (by assumption)) (Nat.le_trans (Nat.mul_le_mul_right _ (of_decide_eq_true (by assumption) : ji2.toNat ≤ 35184372088832)) (by omega)) (Below.refl _ _) (Nat.le_refl _) ?_
    intro v182 w11 ho12 hb hg_ hnew_
    clear hg_ hnew_
    (first | rw [← Ny181.out] at ho12 | (simp only [Int.reduceToNat] at ho12; rw [← Ny181.out] at ho12))
    have HO183 := Aside0.mk (Kd.R_lower (Kd.R_new' ho12 (Kd.R_lt HO186.out)) (below_size HB.out)); replace HO186 := Aside0.mk (Kd.R_elder' HO186.out (Kd.R_base ho12) hb); replace BK1 := mBb BK1 hb; replace BK2 := mBb BK2 hb; replace HB := mSt HB hb
    clear hb ho12
    refine hK.out _ _ trivial (fun hHeld => ?_)
    clear hK K
    refine norm_ (by show Act.put _ (some 10) _ = _; simp only [mP]; rfl) ?_
    exact norm_ (by simp only [putAll, Act.put, List.setIfInBounds_toArray, List.set_cons_zero, List.set_cons_succ] <;> rfl) (hJ2_5_10 (v182, v185, gb2) _ ⟨(by exact Kd.R_mono HO183.out (fun _ hk => hk.2)), (by exact Kd.R_mono HO186.out (fun _ hk => hk.2)), BK1.out, BK2.out, GW2.out, GE2.out, NB1_2.out, NB2_1.out, HB.out⟩)
   ·
    skip
    refine Kd.R_make_step (Kd.int .i64) _ 3 (by rfl) (N := 16) rfl 29 _ _ rfl ji2 rfl rfl Tryd.underlying29 (.int .i64 0) 8 info3 rfl (by decide) (by omega) 0 (ok := fun _ => True) (okp := fun _ => True) rfl (fun _ hk => hk) trivial (of_decide_eq_true (by assumption)) (Nat.le_trans (Nat.mul_le_mul_right _ (of_decide_eq_true (by assumption) : ji2.toNat ≤ 35184372088832)) (by omega)) (Below.refl _ _) (Nat.le_refl _) ?_
    intro v188 w11 ho12 hb hg_ hnew_
    clear hg_ hnew_
    (first | rw [← Ny187.out] at ho12 | (simp only [Int.reduceToNat] at ho12; rw [← Ny187.out] at ho12))
    have HO189 := Aside0.mk (Kd.R_lower (Kd.R_new' ho12 (Kd.R_lt HO186.out)) (below_size HB.out)); replace HO186 := Aside0.mk (Kd.R_elder' HO186.out (Kd.R_base ho12) hb); replace BK1 := mBb BK1 hb; replace BK2 := mBb BK2 hb; replace HB := mSt HB hb
    clear hb ho12
    refine hK.out _ _ trivial (fun hHeld => ?_)
    clear hK K
    refine norm_ (by show Act.put _ (some 16) _ = _; simp only [mP]; rfl) ?_
    exact norm_ (by simp only [putAll, Act.put, List.setIfInBounds_toArray, List.set_cons_zero, List.set_cons_succ] <;> rfl) (hJ5_8_10 (v185, v188, gb2) _ ⟨(by exact Kd.R_mono HO186.out (fun _ hk => hk.2)), (by exact Kd.R_mono HO189.out (fun _ hk => hk.2)), BK1.out, BK2.out, GW2.out, GE2.out, NB1_2.out, NB2_1.out, HB.out⟩)
  intro hJ5_10
  refine join_ (σ := Value × Nat) 4 #[true, true, false, true, true, false, true, true, true, false, true, false] (fun s_ => [(16, s_.1), (4, .pointer (some ⟨s_.2, 0, none⟩))]) (fun s_ w' => (Kd.R (Kd.int .i64) 3 w' w.heap.size (fun _ => True) s_.1 y187) ∧ (w'.heap[gb1]? = some (.cells #[.slice none 0 0, .slice none 0 0, .slice none 0 0] 90 (0, 0))) ∧ (w'.heap[s_.2]? = some (.cells #[.slice none 0 0, .slice none 0 0, .slice none 0 0] 90 (0, 0))) ∧ (w.heap.size ≤ s_.2) ∧ (w.heap.size ≤ s_.2) ∧ (gb1 ≠ s_.2) ∧ (s_.2 ≠ gb1) ∧ (Below w.heap.size w w')) ?_ ?_
  ·
   skip
   rintro ⟨v188, gb2⟩ w10 ⟨h0_, h1_, h2_, h3_, h4_, h5_, h6_, h7_⟩
   have n0_ := Aside0.mk h0_; have n1_ := Aside0.mk h1_; have n2_ := Aside0.mk h2_; have n3_ := Aside0.mk h3_; have n4_ := Aside0.mk h4_; have n5_ := Aside0.mk h5_; have n6_ := Aside0.mk h6_; have n7_ := Aside0.mk h7_; clear BK1; clear HB; clear h0_ h1_ h2_ h3_ h4_ h5_ h6_ h7_; have HO189 := n0_; have BK1 := n1_; have BK2 := n2_; have GW2 := n3_; have GE2 := n4_; have NB1_2 := n5_; have NB2_1 := n6_; have HB := n7_; clear n0_ n1_ n2_ n3_ n4_ n5_ n6_ n7_
   have hHeld := trivial
   refine norm_ (a' := ?_) ?_ ?_
   rotate_left
   ·
    simp only [putAll, Act.put, List.setIfInBounds_toArray, List.set_cons_zero, List.set_cons_succ]
    rfl
   refine two_ (i := 2) (j := 5) (Ni := some 10) (Nj := some 13) #[true, true, true, true, true, false, true, true, true, false, true, false] #[true, true, false, true, true, true, true, true, true, false, true, false] rfl rfl rfl rfl (two_of HT_.out (by kernel_rfl)) (by decide) (by decide) (fun K hK => ?_) (fun K hK => ?_)
   ·
    skip
    refine Kd.R_make_step (Kd.int .i64) _ 3 (by rfl) (N := 10) rfl 29 _ _ rfl ji2 rfl rfl Tryd.underlying29 (.int .i64 0) 8 info3 rfl (by decide) (by omega) 0 (ok := fun _ => True) (okp := fun _ => True) rfl (fun _ hk => hk) trivial (of_decide_eq_true (by assumption)) (Nat.le_trans (Nat.mul_le_mul_right _ (of_decide_eq_true (by assumption) : ji2.toNat ≤ 35184372088832)) (by omega)) (Below.refl _ _) (Nat.le_refl _) ?_
    intro v182 w11 ho12 hb hg_ hnew_
    clear hg_ hnew_
    (first | rw [← Ny181.out] at ho12 | (simp only [Int.reduceToNat] at ho12; rw [← Ny181.out] at ho12))
    have HO183 := Aside0.mk (Kd.R_lower (Kd.R_new' ho12 (Kd.R_lt HO189.out)) (below_size HB.out)); replace HO189 := Aside0.mk (Kd.R_elder' HO189.out (Kd.R_base ho12) hb); replace BK1 := mBb BK1 hb; replace BK2 := mBb BK2 hb; replace HB := mSt HB hb
    clear hb ho12
    refine hK.out _ _ trivial (fun hHeld => ?_)
    clear hK K
    refine norm_ (by show Act.put _ (some 10) _ = _; simp only [mP]; rfl) ?_
    exact norm_ (by simp only [putAll, Act.put, List.setIfInBounds_toArray, List.set_cons_zero, List.set_cons_succ] <;> rfl) (hJ2_8_10 (v182, v188, gb2) _ ⟨(by exact Kd.R_mono HO183.out (fun _ hk => hk.2)), (by exact Kd.R_mono HO189.out (fun _ hk => hk.2)), BK1.out, BK2.out, GW2.out, GE2.out, NB1_2.out, NB2_1.out, HB.out⟩)
   ·
    skip
    refine Kd.R_make_step (Kd.int .i64) _ 3 (by rfl) (N := 13) rfl 29 _ _ rfl ji2 rfl rfl Tryd.underlying29 (.int .i64 0) 8 info3 rfl (by decide) (by omega) 0 (ok := fun _ => True) (okp := fun _ => True) rfl (fun _ hk => hk) trivial (of_decide_eq_true (by assumption)) (Nat.le_trans (Nat.mul_le_mul_right _ (of_decide_eq_true (by assumption) : ji2.toNat ≤ 35184372088832)) (by omega)) (Below.refl _ _) (Nat.le_refl _) ?_
    intro v185 w11 ho12 hb hg_ hnew_
    clear hg_ hnew_
    (first | rw [← Ny184.out] at ho12 | (simp only [Int.reduceToNat] at ho12; rw [← Ny184.out] at ho12))
    have HO186 := Aside0.mk (Kd.R_lower (Kd.R_new' ho12 (Kd.R_lt HO189.out)) (below_size HB.out)); replace HO189 := Aside0.mk (Kd.R_elder' HO189.out (Kd.R_base ho12) hb); replace BK1 := mBb BK1 hb; replace BK2 := mBb BK2 hb; replace HB := mSt HB hb
    clear hb ho12
    refine hK.out _ _ trivial (fun hHeld => ?_)
    clear hK K
    refine norm_ (by show Act.put _ (some 13) _ = _; simp only [mP]; rfl) ?_
    exact norm_ (by simp only [putAll, Act.put, List.setIfInBounds_toArray, List.set_cons_zero, List.set_cons_succ] <;> rfl) (hJ5_8_10 (v185, v188, gb2) _ ⟨(by exact Kd.R_mono HO186.out (fun _ hk => hk.2)), (by exact Kd.R_mono HO189.out (fun _ hk => hk.2)), BK1.out, BK2.out, GW2.out, GE2.out, NB1_2.out, NB2_1.out, HB.out⟩)
  intro hJ8_10
  refine join_ (σ := Value) 5 #[true, true, true, true, true, false, true, true, false, false, false, false] (fun s_ => [(10, s_)]) (fun s_ w' => (Kd.R (Kd.int .i64) 3 w' w.heap.size (fun _ => True) s_ y181) ∧ (w'.heap[gb1]? = some (.cells #[.slice none 0 0, .slice none 0 0, .slice none 0 0] 90 (0, 0))) ∧ (Below w.heap.size w w')) ?_ ?_
  ·
   skip
   rintro v182 w9 ⟨h0_, h1_, h2_⟩
   have n0_ := Aside0.mk h0_; have n1_ := Aside0.mk h1_; have n2_ := Aside0.mk h2_; clear BK1; clear HB; clear h0_ h1_ h2_; have HO183 := n0_; have BK1 := n1_; have HB := n2_; clear n0_ n1_ n2_
   have hHeld := trivial
   refine norm_ (a' := ?_) ?_ ?_
   rotate_left
   ·
    simp only [putAll, Act.put, List.setIfInBounds_toArray, List.set_cons_zero, List.set_cons_succ]
    rfl
   refine three_ (i := 5) (j := 8) (k := 10) (Ni := some 13) (Nj := some 16) (Nk := some 4) #[true, true, true, true, true, true, true, true, false, false, false, false] #[true, true, true, true, true, false, true, true, true, false, false, false] #[true, true, true, true, true, false, true, true, false, false, true, false] rfl rfl rfl rfl rfl rfl (three_of HT_.out (by kernel_rfl)) (by decide) (by decide) (by decide) (fun K hK => ?_) (fun K hK => ?_) (fun K hK => ?_)
   ·
    skip
    refine Kd.R_make_step (Kd.int .i64) _ 3 (by rfl) (N := 13) rfl 29 _ _ rfl ji2 rfl rfl Tryd.underlying29 (.int .i64 0) 8 info3 rfl (by decide) (by omega) 0 (ok := fun _ => True) (okp := fun _ => True) rfl (fun _ hk => hk) trivial (of_decide_eq_true (by assumption)) (Nat.le_trans (Nat.mul_le_mul_right _ (of_decide_eq_true (by assumption) : ji2.toNat ≤ 35184372088832)) (by omega)) (Below.refl _ _) (Nat.le_refl _) ?_
    intro v185 w10 ho11 hb hg_ hnew_
    clear hg_ hnew_
    (first | rw [← Ny184.out] at ho11 | (simp only [Int.reduceToNat] at ho11; rw [← Ny184.out] at ho11))
    have HO186 := Aside0.mk (Kd.R_lower (Kd.R_new' ho11 (Kd.R_lt HO183.out)) (below_size HB.out)); replace HO183 := Aside0.mk (Kd.R_elder' HO183.out (Kd.R_base ho11) hb); replace BK1 := mBb BK1 hb; replace HB := mSt HB hb
    clear hb ho11
    refine hK.out _ _ trivial (fun hHeld => ?_)
    clear hK K
    refine norm_ (by show Act.put _ (some 13) _ = _; simp only [mP]; rfl) ?_
    exact norm_ (by simp only [putAll, Act.put, List.setIfInBounds_toArray, List.set_cons_zero, List.set_cons_succ] <;> rfl) (hJ2_5 (v182, v185) _ ⟨(by exact Kd.R_mono HO183.out (fun _ hk => hk.2)), (by exact Kd.R_mono HO186.out (fun _ hk => hk.2)), BK1.out, HB.out⟩)
   ·
    skip
    refine Kd.R_make_step (Kd.int .i64) _ 3 (by rfl) (N := 16) rfl 29 _ _ rfl ji2 rfl rfl Tryd.underlying29 (.int .i64 0) 8 info3 rfl (by decide) (by omega) 0 (ok := fun _ => True) (okp := fun _ => True) rfl (fun _ hk => hk) trivial (of_decide_eq_true (by assumption)) (Nat.le_trans (Nat.mul_le_mul_right _ (of_decide_eq_true (by assumption) : ji2.toNat ≤ 35184372088832)) (by omega)) (Below.refl _ _) (Nat.le_refl _) ?_
    intro v188 w10 ho11 hb hg_ hnew_
    clear hg_ hnew_
    (first | rw [← Ny187.out] at ho11 | (simp only [Int.reduceToNat] at ho11; rw [← Ny187.out] at ho11))
    have HO189 := Aside0.mk (Kd.R_lower (Kd.R_new' ho11 (Kd.R_lt HO183.out)) (below_size HB.out)); replace HO183 := Aside0.mk (Kd.R_elder' HO183.out (Kd.R_base ho11) hb); replace BK1 := mBb BK1 hb; replace HB := mSt HB hb
    clear hb ho11
    refine hK.out _ _ trivial (fun hHeld => ?_)
    clear hK K
    refine norm_ (by show Act.put _ (some 16) _ = _; simp only [mP]; rfl) ?_
    exact norm_ (by simp only [putAll, Act.put, List.setIfInBounds_toArray, List.set_cons_zero, List.set_cons_succ] <;> rfl) (hJ2_8 (v182, v188) _ ⟨(by exact Kd.R_mono HO183.out (fun _ hk => hk.2)), (by exact Kd.R_mono HO189.out (fun _ hk => hk.2)), BK1.out, HB.out⟩)
   ·
    skip
    refine box_step ?hg (N := 4) ?hd (cs := #[.slice none 0 0, .slice none 0 0, .slice none 0 0]) (t := 90) ?hr ?_; (case hd => rfl); (case hg => rfl); (case hr => first | (go_simp; done) | (go_simp; rfl))
    intro gb2 hg w10 hbox hb
    replace HO183 := Aside0.mk (Kd.R_below HO183.out hb); have BK2 := Aside0.mk hbox; have GW2 := mGw HB hg; have GE2 := GW2; replace HB := mSt HB hb; have NB1_2 := mNe BK1 hg; have NB2_1 := mSy NB1_2; replace BK1 := mBb BK1 hb
    clear hb hbox hg
    refine hK.out _ _ trivial (fun hHeld => ?_)
    clear hK K
    refine norm_ (by show Act.put _ (some 4) _ = _; simp only [mP]; rfl) ?_
    exact norm_ (by simp only [putAll, Act.put, List.setIfInBounds_toArray, List.set_cons_zero, List.set_cons_succ] <;> rfl) (hJ2_10 (v182, gb2) _ ⟨HO183.out, BK1.out, BK2.out, GW2.out, GE2.out, NB1_2.out, NB2_1.out, HB.out⟩)
  intro hJ2
  refine join_ (σ := Value) 5 #[true, true, false, true, true, true, true, true, false, false, false, false] (fun s_ => [(13, s_)]) (fun s_ w' => (Kd.R (Kd.int .i64) 3 w' w.heap.size (fun _ => True) s_ y184) ∧ (w'.heap[gb1]? = some (.cells #[.slice none 0 0, .slice none 0 0, .slice none 0 0] 90 (0, 0))) ∧ (Below w.heap.size w w')) ?_ ?_
  ·
   skip
   rintro v185 w9 ⟨h0_, h1_, h2_⟩
   have n0_ := Aside0.mk h0_; have n1_ := Aside0.mk h1_; have n2_ := Aside0.mk h2_; clear BK1; clear HB; clear h0_ h1_ h2_; have HO186 := n0_; have BK1 := n1_; have HB := n2_; clear n0_ n1_ n2_
   have hHeld := trivial
   refine norm_ (a' := ?_) ?_ ?_
   rotate_left
   ·
    simp only [putAll, Act.put, List.setIfInBounds_toArray, List.set_cons_zero, List.set_cons_succ]
    rfl
   refine three_ (i := 2) (j := 8) (k := 10) (Ni := some 10) (Nj := some 16) (Nk := some 4) #[true, true, true, true, true, true, true, true, false, false, false, false] #[true, true, false, true, true, true, true, true, true, false, false, false] #[true, true, false, true, true, true, true, true, false, false, true, false] rfl rfl rfl rfl rfl rfl (three_of HT_.out (by kernel_rfl)) (by decide) (by decide) (by decide) (fun K hK => ?_) (fun K hK => ?_) (fun K hK => ?_)
   ·
    skip
    refine Kd.R_make_step (Kd.int .i64) _ 3 (by rfl) (N := 10) rfl 29 _ _ rfl ji2 rfl rfl Tryd.underlying29 (.int .i64 0) 8 info3 rfl (by decide) (by omega) 0 (ok := fun _ => True) (okp := fun _ => True) rfl (fun _ hk => hk) trivial (of_decide_eq_true (by assumption)) (Nat.le_trans (Nat.mul_le_mul_right _ (of_decide_eq_true (by assumption) : ji2.toNat ≤ 35184372088832)) (by omega)) (Below.refl _ _) (Nat.le_refl _) ?_
    intro v182 w10 ho11 hb hg_ hnew_
    clear hg_ hnew_
    (first | rw [← Ny181.out] at ho11 | (simp only [Int.reduceToNat] at ho11; rw [← Ny181.out] at ho11))
    have HO183 := Aside0.mk (Kd.R_lower (Kd.R_new' ho11 (Kd.R_lt HO186.out)) (below_size HB.out)); replace HO186 := Aside0.mk (Kd.R_elder' HO186.out (Kd.R_base ho11) hb); replace BK1 := mBb BK1 hb; replace HB := mSt HB hb
    clear hb ho11
    refine hK.out _ _ trivial (fun hHeld => ?_)
    clear hK K
    refine norm_ (by show Act.put _ (some 10) _ = _; simp only [mP]; rfl) ?_
    exact norm_ (by simp only [putAll, Act.put, List.setIfInBounds_toArray, List.set_cons_zero, List.set_cons_succ] <;> rfl) (hJ2_5 (v182, v185) _ ⟨(by exact Kd.R_mono HO183.out (fun _ hk => hk.2)), (by exact Kd.R_mono HO186.out (fun _ hk => hk.2)), BK1.out, HB.out⟩)
   ·
    skip
    refine Kd.R_make_step (Kd.int .i64) _ 3 (by rfl) (N := 16) rfl 29 _ _ rfl ji2 rfl rfl Tryd.underlying29 (.int .i64 0) 8 info3 rfl (by decide) (by omega) 0 (ok := fun _ => True) (okp := fun _ => True) rfl (fun _ hk => hk) trivial (of_decide_eq_true (by assumption)) (Nat.le_trans (Nat.mul_le_mul_right _ (of_decide_eq_true (by assumption) : ji2.toNat ≤ 35184372088832)) (by omega)) (Below.refl _ _) (Nat.le_refl _) ?_
    intro v188 w10 ho11 hb hg_ hnew_
    clear hg_ hnew_
    (first | rw [← Ny187.out] at ho11 | (simp only [Int.reduceToNat] at ho11; rw [← Ny187.out] at ho11))
    have HO189 := Aside0.mk (Kd.R_lower (Kd.R_new' ho11 (Kd.R_lt HO186.out)) (below_size HB.out)); replace HO186 := Aside0.mk (Kd.R_elder' HO186.out (Kd.R_base ho11) hb); replace BK1 := mBb BK1 hb; replace HB := mSt HB hb
    clear hb ho11
    refine hK.out _ _ trivial (fun hHeld => ?_)
    clear hK K
    refine norm_ (by show Act.put _ (some 16) _ = _; simp only [mP]; rfl) ?_
    exact norm_ (by simp only [putAll, Act.put, List.setIfInBounds_toArray, List.set_cons_zero, List.set_cons_succ] <;> rfl) (hJ5_8 (v185, v188) _ ⟨(by exact Kd.R_mono HO186.out (fun _ hk => hk.2)), (by exact Kd.R_mono HO189.out (fun _ hk => hk.2)), BK1.out, HB.out⟩)
   ·
    skip
    refine box_step ?hg (N := 4) ?hd (cs := #[.slice none 0 0, .slice none 0 0, .slice none 0 0]) (t := 90) ?hr ?_; (case hd => rfl); (case hg => rfl); (case hr => first | (go_simp; done) | (go_simp; rfl))
    intro gb2 hg w10 hbox hb
    replace HO186 := Aside0.mk (Kd.R_below HO186.out hb); have BK2 := Aside0.mk hbox; have GW2 := mGw HB hg; have GE2 := GW2; replace HB := mSt HB hb; have NB1_2 := mNe BK1 hg; have NB2_1 := mSy NB1_2; replace BK1 := mBb BK1 hb
    clear hb hbox hg
    refine hK.out _ _ trivial (fun hHeld => ?_)
    clear hK K
    refine norm_ (by show Act.put _ (some 4) _ = _; simp only [mP]; rfl) ?_
    exact norm_ (by simp only [putAll, Act.put, List.setIfInBounds_toArray, List.set_cons_zero, List.set_cons_succ] <;> rfl) (hJ5_10 (v185, gb2) _ ⟨HO186.out, BK1.out, BK2.out, GW2.out, GE2.out, NB1_2.out, NB2_1.out, HB.out⟩)
  intro hJ5
  refine join_ (σ := Value) 5 #[true, true, false, true, true, false, true, true, true, false, false, false] (fun s_ => [(16, s_)]) (fun s_ w' => (Kd.R (Kd.int .i64) 3 w' w.heap.size (fun _ => True) s_ y187) ∧ (w'.heap[gb1]? = some (.cells #[.slice none 0 0, .slice none 0 0, .slice none 0 0] 90 (0, 0))) ∧ (Below w.heap.size w w')) ?_ ?_
  ·
   skip
   rintro v188 w9 ⟨h0_, h1_, h2_⟩
   have n0_ := Aside0.mk h0_; have n1_ := Aside0.mk h1_; have n2_ := Aside0.mk h2_; clear BK1; clear HB; clear h0_ h1_ h2_; have HO189 := n0_; have BK1 := n1_; have HB := n2_; clear n0_ n1_ n2_
   have hHeld := trivial
   refine norm_ (a' := ?_) ?_ ?_
   rotate_left
   ·
    simp only [putAll, Act.put, List.setIfInBounds_toArray, List.set_cons_zero, List.set_cons_succ]
    rfl
   refine three_ (i := 2) (j := 5) (k := 10) (Ni := some 10) (Nj := some 13) (Nk := some 4) #[true, true, true, true, true, false, true, true, true, false, false, false] #[true, true, false, true, true, true, true, true, true, false, false, false] #[true, true, false, true, true, false, true, true, true, false, true, false] rfl rfl rfl rfl rfl rfl (three_of HT_.out (by kernel_rfl)) (by decide) (by decide) (by decide) (fun K hK => ?_) (fun K hK => ?_) (fun K hK => ?_)
   ·
    skip
    refine Kd.R_make_step (Kd.int .i64) _ 3 (by rfl) (N := 10) rfl 29 _ _ rfl ji2 rfl rfl Tryd.underlying29 (.int .i64 0) 8 info3 rfl (by decide) (by omega) 0 (ok := fun _ => True) (okp := fun _ => True) rfl (fun _ hk => hk) trivial (of_decide_eq_true (by assumption)) (Nat.le_trans (Nat.mul_le_mul_right _ (of_decide_eq_true (by assumption) : ji2.toNat ≤ 35184372088832)) (by omega)) (Below.refl _ _) (Nat.le_refl _) ?_
    intro v182 w10 ho11 hb hg_ hnew_
    clear hg_ hnew_
    (first | rw [← Ny181.out] at ho11 | (simp only [Int.reduceToNat] at ho11; rw [← Ny181.out] at ho11))
    have HO183 := Aside0.mk (Kd.R_lower (Kd.R_new' ho11 (Kd.R_lt HO189.out)) (below_size HB.out)); replace HO189 := Aside0.mk (Kd.R_elder' HO189.out (Kd.R_base ho11) hb); replace BK1 := mBb BK1 hb; replace HB := mSt HB hb
    clear hb ho11
    refine hK.out _ _ trivial (fun hHeld => ?_)
    clear hK K
    refine norm_ (by show Act.put _ (some 10) _ = _; simp only [mP]; rfl) ?_
    exact norm_ (by simp only [putAll, Act.put, List.setIfInBounds_toArray, List.set_cons_zero, List.set_cons_succ] <;> rfl) (hJ2_8 (v182, v188) _ ⟨(by exact Kd.R_mono HO183.out (fun _ hk => hk.2)), (by exact Kd.R_mono HO189.out (fun _ hk => hk.2)), BK1.out, HB.out⟩)
   ·
    skip
    refine Kd.R_make_step (Kd.int .i64) _ 3 (by rfl) (N := 13) rfl 29 _ _ rfl ji2 rfl rfl Tryd.underlying29 (.int .i64 0) 8 info3 rfl (by decide) (by omega) 0 (ok := fun _ => True) (okp := fun _ => True) rfl (fun _ hk => hk) trivial (of_decide_eq_true (by assumption)) (Nat.le_trans (Nat.mul_le_mul_right _ (of_decide_eq_true (by assumption) : ji2.toNat ≤ 35184372088832)) (by omega)) (Below.refl _ _) (Nat.le_refl _) ?_
    intro v185 w10 ho11 hb hg_ hnew_
    clear hg_ hnew_
    (first | rw [← Ny184.out] at ho11 | (simp only [Int.reduceToNat] at ho11; rw [← Ny184.out] at ho11))
    have HO186 := Aside0.mk (Kd.R_lower (Kd.R_new' ho11 (Kd.R_lt HO189.out)) (below_size HB.out)); replace HO189 := Aside0.mk (Kd.R_elder' HO189.out (Kd.R_base ho11) hb); replace BK1 := mBb BK1 hb; replace HB := mSt HB hb
    clear hb ho11
    refine hK.out _ _ trivial (fun hHeld => ?_)
    clear hK K
    refine norm_ (by show Act.put _ (some 13) _ = _; simp only [mP]; rfl) ?_
    exact norm_ (by simp only [putAll, Act.put, List.setIfInBounds_toArray, List.set_cons_zero, List.set_cons_succ] <;> rfl) (hJ5_8 (v185, v188) _ ⟨(by exact Kd.R_mono HO186.out (fun _ hk => hk.2)), (by exact Kd.R_mono HO189.out (fun _ hk => hk.2)), BK1.out, HB.out⟩)
   ·
    skip
    refine box_step ?hg (N := 4) ?hd (cs := #[.slice none 0 0, .slice none 0 0, .slice none 0 0]) (t := 90) ?hr ?_; (case hd => rfl); (case hg => rfl); (case hr => first | (go_simp; done) | (go_simp; rfl))
    intro gb2 hg w10 hbox hb
    replace HO189 := Aside0.mk (Kd.R_below HO189.out hb); have BK2 := Aside0.mk hbox; have GW2 := mGw HB hg; have GE2 := GW2; replace HB := mSt HB hb; have NB1_2 := mNe BK1 hg; have NB2_1 := mSy NB1_2; replace BK1 := mBb BK1 hb
    clear hb hbox hg
    refine hK.out _ _ trivial (fun hHeld => ?_)
    clear hK K
    refine norm_ (by show Act.put _ (some 4) _ = _; simp only [mP]; rfl) ?_
    exact norm_ (by simp only [putAll, Act.put, List.setIfInBounds_toArray, List.set_cons_zero, List.set_cons_succ] <;> rfl) (hJ8_10 (v188, gb2) _ ⟨HO189.out, BK1.out, BK2.out, GW2.out, GE2.out, NB1_2.out, NB2_1.out, HB.out⟩)
  intro hJ8
  refine join_ (σ := Nat) 5 #[true, true, false, true, true, false, true, true, false, false, true, false] (fun s_ => [(4, .pointer (some ⟨s_, 0, none⟩))]) (fun s_ w' => (w'.heap[gb1]? = some (.cells #[.slice none 0 0, .slice none 0 0, .slice none 0 0] 90 (0, 0))) ∧ (w'.heap[s_]? = some (.cells #[.slice none 0 0, .slice none 0 0, .slice none 0 0] 90 (0, 0))) ∧ (w.heap.size ≤ s_) ∧ (w.heap.size ≤ s_) ∧ (gb1 ≠ s_) ∧ (s_ ≠ gb1) ∧ (Below w.heap.size w w')) ?_ ?_
  rotate_left
  ·
   intro hJ10
   refine four_ (i := 2) (j := 5) (k := 8) (m := 10) (Ni := some 10) (Nj := some 13) (Nk := some 16) (Nm := some 4) #[true, true, true, true, true, false, true, true, false, false, false, false] #[true, true, false, true, true, true, true, true, false, false, false, false] #[true, true, false, true, true, false, true, true, true, false, false, false] #[true, true, false, true, true, false, true, true, false, false, true, false] rfl rfl rfl rfl rfl rfl rfl rfl (four_of HT_.out (by kernel_rfl)) (by decide) (by decide) (by decide) (by decide) (fun K hK => ?_) (fun K hK => ?_) (fun K hK => ?_) (fun K hK => ?_)
   ·
    skip
    refine Kd.R_make_step (Kd.int .i64) _ 3 (by rfl) (N := 10) rfl 29 _ _ rfl ji2 rfl rfl Tryd.underlying29 (.int .i64 0) 8 info3 rfl (by decide) (by omega) 0 (ok := fun _ => True) (okp := fun _ => True) rfl (fun _ hk => hk) trivial (of_decide_eq_true (by assumption)) (Nat.le_trans (Nat.mul_le_mul_right _ (of_decide_eq_true (by assumption) : ji2.toNat ≤ 35184372088832)) (by omega)) (Below.refl _ _) (Nat.le_refl _) ?_
    intro v182 w7 ho8 hb hg_ hnew_
    clear hg_ hnew_
    (first | rw [← Ny181.out] at ho8 | (simp only [Int.reduceToNat] at ho8; rw [← Ny181.out] at ho8))
    have HO183 := Aside0.mk (Kd.R_lower ho8 (below_size HB.out)); replace BK1 := mBb BK1 hb; replace HB := mSt HB hb
    clear hb ho8
    refine hK.out _ _ trivial (fun hHeld => ?_)
    clear hK K
    refine norm_ (by show Act.put _ (some 10) _ = _; simp only [mP]; rfl) ?_
    exact norm_ (by simp only [putAll, Act.put, List.setIfInBounds_toArray, List.set_cons_zero, List.set_cons_succ] <;> rfl) (hJ2 (v182) _ ⟨HO183.out, BK1.out, HB.out⟩)
   ·
    skip
    refine Kd.R_make_step (Kd.int .i64) _ 3 (by rfl) (N := 13) rfl 29 _ _ rfl ji2 rfl rfl Tryd.underlying29 (.int .i64 0) 8 info3 rfl (by decide) (by omega) 0 (ok := fun _ => True) (okp := fun _ => True) rfl (fun _ hk => hk) trivial (of_decide_eq_true (by assumption)) (Nat.le_trans (Nat.mul_le_mul_right _ (of_decide_eq_true (by assumption) : ji2.toNat ≤ 35184372088832)) (by omega)) (Below.refl _ _) (Nat.le_refl _) ?_
    intro v185 w7 ho8 hb hg_ hnew_
    clear hg_ hnew_
    (first | rw [← Ny184.out] at ho8 | (simp only [Int.reduceToNat] at ho8; rw [← Ny184.out] at ho8))
    have HO186 := Aside0.mk (Kd.R_lower ho8 (below_size HB.out)); replace BK1 := mBb BK1 hb; replace HB := mSt HB hb
    clear hb ho8
    refine hK.out _ _ trivial (fun hHeld => ?_)
    clear hK K
    refine norm_ (by show Act.put _ (some 13) _ = _; simp only [mP]; rfl) ?_
    exact norm_ (by simp only [putAll, Act.put, List.setIfInBounds_toArray, List.set_cons_zero, List.set_cons_succ] <;> rfl) (hJ5 (v185) _ ⟨HO186.out, BK1.out, HB.out⟩)
   ·
    skip
    refine Kd.R_make_step (Kd.int .i64) _ 3 (by rfl) (N := 16) rfl 29 _ _ rfl ji2 rfl rfl Tryd.underlying29 (.int .i64 0) 8 info3 rfl (by decide) (by omega) 0 (ok := fun _ => True) (okp := fun _ => True) rfl (fun _ hk => hk) trivial (of_decide_eq_true (by assumption)) (Nat.le_trans (Nat.mul_le_mul_right _ (of_decide_eq_true (by assumption) : ji2.toNat ≤ 35184372088832)) (by omega)) (Below.refl _ _) (Nat.le_refl _) ?_
    intro v188 w7 ho8 hb hg_ hnew_
    clear hg_ hnew_
    (first | rw [← Ny187.out] at ho8 | (simp only [Int.reduceToNat] at ho8; rw [← Ny187.out] at ho8))
    have HO189 := Aside0.mk (Kd.R_lower ho8 (below_size HB.out)); replace BK1 := mBb BK1 hb; replace HB := mSt HB hb
    clear hb ho8
    refine hK.out _ _ trivial (fun hHeld => ?_)
    clear hK K
    refine norm_ (by show Act.put _ (some 16) _ = _; simp only [mP]; rfl) ?_
    exact norm_ (by simp only [putAll, Act.put, List.setIfInBounds_toArray, List.set_cons_zero, List.set_cons_succ] <;> rfl) (hJ8 (v188) _ ⟨HO189.out, BK1.out, HB.out⟩)
   ·
    skip
    refine box_step ?hg (N := 4) ?hd (cs := #[.slice none 0 0, .slice none 0 0, .slice none 0 0]) (t := 90) ?hr ?_; (case hd => rfl); (case hg => rfl); (case hr => first | (go_simp; done) | (go_simp; rfl))
    intro gb2 hg w7 hbox hb
    have BK2 := Aside0.mk hbox; have GW2 := mGw HB hg; have GE2 := GW2; replace HB := mSt HB hb; have NB1_2 := mNe BK1 hg; have NB2_1 := mSy NB1_2; replace BK1 := mBb BK1 hb
    clear hb hbox hg
    refine hK.out _ _ trivial (fun hHeld => ?_)
    clear hK K
    refine norm_ (by show Act.put _ (some 4) _ = _; simp only [mP]; rfl) ?_
    exact norm_ (by simp only [putAll, Act.put, List.setIfInBounds_toArray, List.set_cons_zero, List.set_cons_succ] <;> rfl) (hJ10 (gb2) _ ⟨BK1.out, BK2.out, GW2.out, GE2.out, NB1_2.out, NB2_1.out, HB.out⟩)
  skip
  rintro gb2 w8 ⟨h0_, h1_, h2_, h3_, h4_, h5_, h6_⟩
  have n0_ := Aside0.mk h0_; have n1_ := Aside0.mk h1_; have n2_ := Aside0.mk h2_; have n3_ := Aside0.mk h3_; have n4_ := Aside0.mk h4_; have n5_ := Aside0.mk h5_; have n6_ := Aside0.mk h6_; clear BK1; clear HB; clear h0_ h1_ h2_ h3_ h4_ h5_ h6_; have BK1 := n0_; have BK2 := n1_; have GW2 := n2_; have GE2 := n3_; have NB1_2 := n4_; have NB2_1 := n5_; have HB := n6_; clear n0_ n1_ n2_ n3_ n4_ n5_ n6_
  have hHeld := trivial
  refine norm_ (a' := ?_) ?_ ?_
  rotate_left
  ·
   simp only [putAll, Act.put, List.setIfInBounds_toArray, List.set_cons_zero, List.set_cons_succ]
   rfl
  refine three_ (i := 2) (j := 5) (k := 8) (Ni := some 10) (Nj := some 13) (Nk := some 16) #[true, true, true, true, true, false, true, true, false, false, true, false] #[true, true, false, true, true, true, true, true, false, false, true, false] #[true, true, false, true, true, false, true, true, true, false, true, false] rfl rfl rfl rfl rfl rfl (three_of HT_.out (by kernel_rfl)) (by decide) (by decide) (by decide) (fun K hK => ?_) (fun K hK => ?_) (fun K hK => ?_)
  ·
   skip
   refine Kd.R_make_step (Kd.int .i64) _ 3 (by rfl) (N := 10) rfl 29 _ _ rfl ji2 rfl rfl Tryd.underlying29 (.int .i64 0) 8 info3 rfl (by decide) (by omega) 0 (ok := fun _ => True) (okp := fun _ => True) rfl (fun _ hk => hk) trivial (of_decide_eq_true (by assumption)) (Nat.le_trans (Nat.mul_le_mul_right _ (of_decide_eq_true (by assumption) : ji2.toNat ≤ 35184372088832)) (by omega)) (Below.refl _ _) (Nat.le_refl _) ?_
   intro v182 w9 ho10 hb hg_ hnew_
   clear hg_ hnew_
   (first | rw [← Ny181.out] at ho10 | (simp only [Int.reduceToNat] at ho10; rw [← Ny181.out] at ho10))
   have HO183 := Aside0.mk (Kd.R_lower ho10 (below_size HB.out)); replace BK1 := mBb BK1 hb; replace BK2 := mBb BK2 hb; replace HB := mSt HB hb
   clear hb ho10
   refine hK.out _ _ trivial (fun hHeld => ?_)
   clear hK K
   refine norm_ (by show Act.put _ (some 10) _ = _; simp only [mP]; rfl) ?_
   exact norm_ (by simp only [putAll, Act.put, List.setIfInBounds_toArray, List.set_cons_zero, List.set_cons_succ] <;> rfl) (hJ2_10 (v182, gb2) _ ⟨HO183.out, BK1.out, BK2.out, GW2.out, GE2.out, NB1_2.out, NB2_1.out, HB.out⟩)
  ·
   skip
   refine Kd.R_make_step (Kd.int .i64) _ 3 (by rfl) (N := 13) rfl 29 _ _ rfl ji2 rfl rfl Tryd.underlying29 (.int .i64 0) 8 info3 rfl (by decide) (by omega) 0 (ok := fun _ => True) (okp := fun _ => True) rfl (fun _ hk => hk) trivial (of_decide_eq_true (by assumption)) (Nat.le_trans (Nat.mul_le_mul_right _ (of_decide_eq_true (by assumption) : ji2.toNat ≤ 35184372088832)) (by omega)) (Below.refl _ _) (Nat.le_refl _) ?_
   intro v185 w9 ho10 hb hg_ hnew_
   clear hg_ hnew_
   (first | rw [← Ny184.out] at ho10 | (simp only [Int.reduceToNat] at ho10; rw [← Ny184.out] at ho10))
   have HO186 := Aside0.mk (Kd.R_lower ho10 (below_size HB.out)); replace BK1 := mBb BK1 hb; replace BK2 := mBb BK2 hb; replace HB := mSt HB hb
   clear hb ho10
   refine hK.out _ _ trivial (fun hHeld => ?_)
   clear hK K
   refine norm_ (by show Act.put _ (some 13) _ = _; simp only [mP]; rfl) ?_
   exact norm_ (by simp only [putAll, Act.put, List.setIfInBounds_toArray, List.set_cons_zero, List.set_cons_succ] <;> rfl) (hJ5_10 (v185, gb2) _ ⟨HO186.out, BK1.out, BK2.out, GW2.out, GE2.out, NB1_2.out, NB2_1.out, HB.out⟩)
  ·
   skip
   refine Kd.R_make_step (Kd.int .i64) _ 3 (by rfl) (N := 16) rfl 29 _ _ rfl ji2 rfl rfl Tryd.underlying29 (.int .i64 0) 8 info3 rfl (by decide) (by omega) 0 (ok := fun _ => True) (okp := fun _ => True) rfl (fun _ hk => hk) trivial (of_decide_eq_true (by assumption)) (Nat.le_trans (Nat.mul_le_mul_right _ (of_decide_eq_true (by assumption) : ji2.toNat ≤ 35184372088832)) (by omega)) (Below.refl _ _) (Nat.le_refl _) ?_
   intro v188 w9 ho10 hb hg_ hnew_
   clear hg_ hnew_
   (first | rw [← Ny187.out] at ho10 | (simp only [Int.reduceToNat] at ho10; rw [← Ny187.out] at ho10))
   have HO189 := Aside0.mk (Kd.R_lower ho10 (below_size HB.out)); replace BK1 := mBb BK1 hb; replace BK2 := mBb BK2 hb; replace HB := mSt HB hb
   clear hb ho10
   refine hK.out _ _ trivial (fun hHeld => ?_)
   clear hK K
   refine norm_ (by show Act.put _ (some 16) _ = _; simp only [mP]; rfl) ?_
   exact norm_ (by simp only [putAll, Act.put, List.setIfInBounds_toArray, List.set_cons_zero, List.set_cons_succ] <;> rfl) (hJ8_10 (v188, gb2) _ ⟨HO189.out, BK1.out, BK2.out, GW2.out, GE2.out, NB1_2.out, NB2_1.out, HB.out⟩)
 rintro ⟨v182, v185, v188, gb2⟩ w17 ⟨h0_, h1_, h2_, h3_, h4_, h5_, h6_, h7_, h8_, h9_⟩
 have n0_ := Aside0.mk h0_; have n1_ := Aside0.mk h1_; have n2_ := Aside0.mk h2_; have n3_ := Aside0.mk h3_; have n4_ := Aside0.mk h4_; have n5_ := Aside0.mk h5_; have n6_ := Aside0.mk h6_; have n7_ := Aside0.mk h7_; have n8_ := Aside0.mk h8_; have n9_ := Aside0.mk h9_; clear BK1; clear HB; clear h0_ h1_ h2_ h3_ h4_ h5_ h6_ h7_ h8_ h9_; have HO183 := n0_; have HO186 := n1_; have HO189 := n2_; have BK1 := n3_; have BK2 := n4_; have GW2 := n5_; have GE2 := n6_; have NB1_2 := n7_; have NB2_1 := n8_; have HB := n9_; clear n0_ n1_ n2_ n3_ n4_ n5_ n6_ n7_ n8_ n9_
 have hHeld := trivial
 obtain ⟨Ao18, co18, eo18⟩ := Kd.R_slice HO189.out
 subst eo18
 obtain ⟨Ao19, co19, eo19⟩ := Kd.R_slice HO186.out
 subst eo19
 obtain ⟨Ao20, co20, eo20⟩ := Kd.R_slice HO183.out
 subst eo20
 refine norm_ (a' := ?_) ?_ ?_
 rotate_left
 ·
  simp only [putAll, Act.put, List.setIfInBounds_toArray, List.set_cons_zero, List.set_cons_succ]
  rfl
 refine one_ (i := 11) (N := none) #[true, true, true, true, true, true, true, true, true, true, true, true] rfl rfl (one_of HT_.out (by kernel_rfl)) (by decide) (fun K hK => ?_)
 have hs21 : w17.cell? ⟨gb2, 0, none⟩ = some (.slice none 0 0) := (blk_cell BK2.out 0).trans rfl
 have hfs21 := blk_frozen BK2.out 0
 have hns21_0 := NB1_2.out
 have hms21_0 := NB2_1.out
 have hs22 : w17.cell? ⟨gb2, 1, none⟩ = some (.slice none 0 0) := (blk_cell BK2.out 1).trans rfl
 have hfs22 := blk_frozen BK2.out 1
 have hns22_0 := NB1_2.out
 have hms22_0 := NB2_1.out
 have hs23 : w17.cell? ⟨gb2, 2, none⟩ = some (.slice none 0 0) := (blk_cell BK2.out 2).trans rfl
 have hfs23 := blk_frozen BK2.out 2
 have hns23_0 := NB1_2.out
 have hms23_0 := NB2_1.out
 refine skip_ (w1 := ?_) (by rfl) rfl ?_ ?_
 rotate_left
 ·
  go_simp
  rfl
 refine hK.out _ _ trivial (fun hHeld => ?_)
 clear hK K
 refine done_ (done_of HT_.out (by kernel_rfl)) ?_
 try go_wp2
 go_loopg [5] k (fun kq v5 w' => ∃ (x5_1 : Int) (x191000_1 : List Int) (x191001_1 : List Int) (x191002_1 : List Int) (u191000 : Value) (u191001 : Value) (u191002 : Value), v5 = .int .i64 x5_1 ∧ Aside0 (assign_solve.l0 kq l0 (l0.length : Int) x5_1 x191000_1 x191001_1 x191002_1 = some (r1, r2, r3)) ∧ Aside0 (kq ≤ k) ∧ Aside0 (Kd.R (Kd.int .i64) 3 w' w.heap.size (fun k_ => some k_ ≠ (u191001 : Value).ownBlock ∧ some k_ ≠ (u191002 : Value).ownBlock) u191000 x191000_1) ∧ Aside0 (Kd.R (Kd.int .i64) 3 w' w.heap.size (fun k_ => some k_ ≠ (u191000 : Value).ownBlock ∧ some k_ ≠ (u191002 : Value).ownBlock) u191001 x191001_1) ∧ Aside0 (Kd.R (Kd.int .i64) 3 w' w.heap.size (fun k_ => some k_ ≠ (u191000 : Value).ownBlock ∧ some k_ ≠ (u191001 : Value).ownBlock) u191002 x191002_1) ∧ Aside0 (w'.heap[gb1]? = some (.cells #[(.slice none 0 0), (.slice none 0 0), (.slice none 0 0)] 90 (0, 0))) ∧ Aside0 (w'.heap[gb2]? = some (.cells #[u191000, u191001, u191002] 90 (0, 0))) ∧ Aside0 (Below w.heap.size w w'))
 case atStart => exact ⟨(1), (y181), (y184), (y187), (.slice Ao20 y181.length co20), (.slice Ao19 y184.length co19), (.slice Ao18 y187.length co18), rfl, H', ⟨Nat.le_refl _⟩, ⟨Kd.R_mono (Kd.R_far (p := ⟨gb2, 2, none⟩) (Kd.R_far (p := ⟨gb2, 1, none⟩) (Kd.R_far (p := ⟨gb2, 0, none⟩) (Kd.R_types HO183.out BK2.out (by decide)) (fun _ hk => hk.2) (.slice Ao20 y181.length co20)) (fun _ hk => hk.2) (.slice Ao19 y184.length co19)) (fun _ hk => hk.2) (.slice Ao18 y187.length co18)) (fun _ hk => ⟨hk.1.1, hk.1.2⟩)⟩, ⟨Kd.R_mono (Kd.R_far (p := ⟨gb2, 2, none⟩) (Kd.R_far (p := ⟨gb2, 1, none⟩) (Kd.R_far (p := ⟨gb2, 0, none⟩) (Kd.R_types HO186.out BK2.out (by decide)) (fun _ hk => hk.2) (.slice Ao20 y181.length co20)) (fun _ hk => hk.2) (.slice Ao19 y184.length co19)) (fun _ hk => hk.2) (.slice Ao18 y187.length co18)) (fun _ hk => ⟨hk.1.1, hk.1.2⟩)⟩, ⟨Kd.R_mono (Kd.R_far (p := ⟨gb2, 2, none⟩) (Kd.R_far (p := ⟨gb2, 1, none⟩) (Kd.R_far (p := ⟨gb2, 0, none⟩) (Kd.R_types HO189.out BK2.out (by decide)) (fun _ hk => hk.2) (.slice Ao20 y181.length co20)) (fun _ hk => hk.2) (.slice Ao19 y184.length co19)) (fun _ hk => hk.2) (.slice Ao18 y187.length co18)) (fun _ hk => ⟨hk.1.1, hk.1.2⟩)⟩, ⟨by refine blk_far ?_ NB1_2.out _; refine blk_far ?_ NB1_2.out _; refine blk_far ?_ NB1_2.out _; exact BK1.out⟩, ⟨by refine blk_put (cs := #[.slice Ao20 y181.length co20, .slice Ao19 y184.length co19, .slice none 0 0]) ?_ 2 _ rfl; refine blk_put (cs := #[.slice Ao20 y181.length co20, .slice none 0 0, .slice none 0 0]) ?_ 1 _ rfl; refine blk_put (cs := #[.slice none 0 0, .slice none 0 0, .slice none 0 0]) ?_ 0 _ rfl; exact BK2.out⟩, ⟨hO HB⟩⟩
 case round =>
  clear H'
  skip
  obtain ⟨x5_1, x191000_1, x191001_1, x191002_1, u191000, u191001, u191002, rfl, HA, HK1, HO_191000, HO_191001, HO_191002, BK1, BK2, HB⟩ := hrel
  cases gk with
  | zero => exact absurd HA.out (by simp [assign_solve.l0])
  | succ k1 =>
   have H := HA.out
   clear HA
   simp only [assign_solve.l0] at H
   by_cases c24 : x5_1 ≤ (l0.length : Int)
   rotate_left
   ·
    rw [if_neg c24] at H
    have c24b0 := decide_eq_false c24
    clear c24
    simp only [Option.some.injEq, Prod.mk.injEq] at H
    obtain ⟨rfl, rfl, rfl⟩ := H
    have hnb32 := NB2_1.out
    have hnc32 := NB1_2.out
    have hcz33 := blk_cell BK2.out; have hfz33 := blk_frozen BK2.out
    obtain ⟨Ao34, co34, eo34⟩ := Kd.R_slice HO_191000.out
    subst eo34
    have hcz35 := blk_cell BK1.out; have hfz35 := blk_frozen BK1.out
    obtain ⟨Ao36, co36, eo36⟩ := Kd.R_slice HO_191001.out
    subst eo36
    obtain ⟨Ao37, co37, eo37⟩ := Kd.R_slice HO_191002.out
    subst eo37
    go_wp2
    refine bodyPost_ret (results_cell_row rfl _ _ gb1 90 #[.slice Ao34 x191000_1.length co34, .slice Ao36 x191001_1.length co36, .slice Ao37 x191002_1.length co37] (0, 0) _ rfl (by refine blk_put (cs := #[.slice Ao34 x191000_1.length co34, .slice Ao36 x191001_1.length co36, .slice none 0 0]) ?_ 2 _ rfl; refine blk_put (cs := #[.slice Ao34 x191000_1.length co34, .slice none 0 0, .slice none 0 0]) ?_ 1 _ rfl; refine blk_put (cs := #[.slice none 0 0, .slice none 0 0, .slice none 0 0]) ?_ 0 _ rfl; exact BK1.out) Tryd.underlying90 rfl (by kernel_rfl)) rfl ?_
    exact ⟨_, _, _, by first | rfl | (simp [errW_none, errW_some] <;> rfl) | (simp only [← hji2]; first | rfl | (simp [errW_none, errW_some] <;> rfl)) | (simp [*, errW_none, errW_some] <;> rfl), by exact Kd.R_mono (Kd.R_far (p := ⟨gb1, 2, none⟩) (Kd.R_far (p := ⟨gb1, 1, none⟩) (Kd.R_far (p := ⟨gb1, 0, none⟩) (Kd.R_types HO_191000.out BK1.out (by decide)) (fun _ hk => hk.2) (.slice Ao34 x191000_1.length co34)) (fun _ hk => hk.2) (.slice Ao36 x191001_1.length co36)) (fun _ hk => hk.2) (.slice Ao37 x191002_1.length co37)) (fun _ hk => ⟨hk.1.1, hk.1.2⟩), by exact Kd.R_mono (Kd.R_far (p := ⟨gb1, 2, none⟩) (Kd.R_far (p := ⟨gb1, 1, none⟩) (Kd.R_far (p := ⟨gb1, 0, none⟩) (Kd.R_types HO_191001.out BK1.out (by decide)) (fun _ hk => hk.2) (.slice Ao34 x191000_1.length co34)) (fun _ hk => hk.2) (.slice Ao36 x191001_1.length co36)) (fun _ hk => hk.2) (.slice Ao37 x191002_1.length co37)) (fun _ hk => ⟨hk.1.1, hk.1.2⟩), by exact Kd.R_mono (Kd.R_far (p := ⟨gb1, 2, none⟩) (Kd.R_far (p := ⟨gb1, 1, none⟩) (Kd.R_far (p := ⟨gb1, 0, none⟩) (Kd.R_types HO_191002.out BK1.out (by decide)) (fun _ hk => hk.2) (.slice Ao34 x191000_1.length co34)) (fun _ hk => hk.2) (.slice Ao36 x191001_1.length co36)) (fun _ hk => hk.2) (.slice Ao37 x191002_1.length co37)) (fun _ hk => ⟨hk.1.1, hk.1.2⟩), hO HB⟩
   rw [if_pos c24] at H
   have c24b0 := decide_eq_true c24
   clear c24
   replace H := Option.bind_eq_some_iff.mp H
   obtain ⟨⟨t191, t192, t193⟩, A250, H⟩ := H
   try dsimp only at H
   have A25 := Aside0.mk A250
   clear A250
   have H' := Aside0.mk H
   clear H
   have hnb26 := NB2_1.out
   have hnc26 := NB1_2.out
   have hcz27 := blk_cell BK2.out; have hfz27 := blk_frozen BK2.out
   obtain ⟨Ao28, co28, eo28⟩ := Kd.R_slice HO_191000.out
   subst eo28
   obtain ⟨Ao29, co29, eo29⟩ := Kd.R_slice HO_191001.out
   subst eo29
   obtain ⟨Ao30, co30, eo30⟩ := Kd.R_slice HO_191002.out
   subst eo30
   go_wp2_with (first | ((with_reducible refine gate_callee (f := 83) rfl ?_); refine goesL_ (some 25) rfl rfl Tryd.func83 (by kernel_rfl) rfl #[.pointer (some ⟨gb2, 0, none⟩), .slice A0 l0.length c0, .int .i64 x5_1] rfl (mA3 rfl rfl rfl) ?_; (with_reducible refine (assign_solved_add.calls k1 (fun k_ => some k_ = (.slice Ao28 x191000_1.length co28 : Value).ownBlock) (.slice Ao28 x191000_1.length co28) x191000_1 _ _ l0 x5_1 (fun k_ => some k_ = (.slice Ao29 x191001_1.length co29 : Value).ownBlock) (.slice Ao29 x191001_1.length co29) x191001_1 (fun k_ => some k_ = (.slice Ao30 x191002_1.length co30 : Value).ownBlock) (.slice Ao30 x191002_1.length co30) x191002_1 t191 t192 t193 w _ ?side1 ?side2 ?side3 ?side4 ?side5 ?side6 ?side7 ?side8 ?side9 ?side10 ?side11 ?side12 gb2 ?sg0 ?sg1 ?sg2 ?sgn A25.out).mono ?_); (case sg0 => exact (blk_cell BK2.out 0).trans rfl); (case sg1 => exact (blk_cell BK2.out 1).trans rfl); (case sg2 => exact (blk_cell BK2.out 2).trans rfl); (case sgn => exact (fun hs_ => Or.elim hs_ (fun e_ => (fun e_ => (Kd.R_ne HO_191000.out BK2.out (by decide)) e_) e_) (fun e_ => Or.elim e_ (fun e_ => (fun e_ => (Kd.R_ne HO_191001.out BK2.out (by decide)) e_) e_) (fun e_ => (fun e_ => (Kd.R_ne HO_191002.out BK2.out (by decide)) e_) e_)))); (case side1 => repeat (first | (with_reducible first | exact HB.out | apply below_alloc | apply pw_below_drewN | apply below_drew1 | refine below_set ?_ GE1.out | refine below_set ?_ GE2.out) | exact HB.out)); (case side2 => exact Kd.R_tight rfl HO_191000.out); (case side3 => exact fun k_ e_ => (HO_191000.out.1 k_ e_.symm).1); (case side4 => exact fun k_ e_ => (HO_191000.out.1 k_ e_.symm).2); (case side5 => exact Kd.C_kept_came (Kd.heap_slice 3 (Kd.heap_int .i64)) HR0.out HB.out (fun k_ hs_ => Or.elim hs_ (fun e_ => (fun e_ => Kd.R_base HO_191000.out k_ e_.symm) e_) (fun e_ => Or.elim e_ (fun e_ => (fun e_ => Kd.R_base HO_191001.out k_ e_.symm) e_) (fun e_ => (fun e_ => Kd.R_base HO_191002.out k_ e_.symm) e_)))); (case side6 => exact HC0.out); (case side7 => exact Kd.R_tight rfl HO_191001.out); (case side8 => exact fun k_ e_ => (HO_191001.out.1 k_ e_.symm).1); (case side9 => exact fun k_ e_ => (HO_191001.out.1 k_ e_.symm).2); (case side10 => exact Kd.R_tight rfl HO_191002.out); (case side11 => exact fun k_ e_ => (HO_191002.out.1 k_ e_.symm).1); (case side12 => exact fun k_ e_ => (HO_191002.out.1 k_ e_.symm).2); rintro e w31 ⟨rfl, hy0, hy1, hy2, hb, hkp⟩; refine ⟨_, rfl, ?_⟩; replace BK1 := Aside0.mk (blk_kept BK1.out hkp (fun hs_ => Or.elim hs_ (fun e_ => (fun e_ => (Kd.R_ne HO_191000.out BK1.out (by decide)) e_) e_) (fun e_ => Or.elim e_ (fun e_ => (fun e_ => (Kd.R_ne HO_191001.out BK1.out (by decide)) e_) e_) (fun e_ => (fun e_ => (Kd.R_ne HO_191002.out BK1.out (by decide)) e_) e_)))); replace BK2 := Aside0.mk (blk_kept BK2.out hkp (fun hs_ => Or.elim hs_ (fun e_ => (fun e_ => (Kd.R_ne HO_191000.out BK2.out (by decide)) e_) e_) (fun e_ => Or.elim e_ (fun e_ => (fun e_ => (Kd.R_ne HO_191001.out BK2.out (by decide)) e_) e_) (fun e_ => (fun e_ => (Kd.R_ne HO_191002.out BK2.out (by decide)) e_) e_)))); replace HO_191000 := Aside0.mk (Kd.R_reok rfl hy0 (fun k_ e_ => HO_191000.out.1 k_ e_)); replace HO_191001 := Aside0.mk (Kd.R_reok rfl hy1 (fun k_ e_ => HO_191001.out.1 k_ e_)); replace HO_191002 := Aside0.mk (Kd.R_reok rfl hy2 (fun k_ e_ => HO_191002.out.1 k_ e_)); replace HB := Aside0.mk hb; (try clear hb); (try clear hkp); (try clear hy0); (try clear hy1); (try clear hy2)))
   go_roundg k1
   case measure => have := HK1.out; omega
   case rel => exact ⟨(wrap64 (x5_1 + 1)), (t191), (t192), (t193), (.slice Ao28 x191000_1.length co28), (.slice Ao29 x191001_1.length co29), (.slice Ao30 x191002_1.length co30), rfl, H', ⟨by have := HK1.out; omega⟩, HO_191000, HO_191001, HO_191002, ⟨BK1.out⟩, ⟨BK2.out⟩, ⟨HB.out⟩⟩
end Go.Proofs.YtaggccbndmmbhaaDoor.PAll
