-- Written by wip/tools/handprint.py: walks of the functions that the law reaches; Lean checks them.
import Derived.Test.YtjppjppapdflmaaPAllx0
import Derived.Test.YtjppjppapdflmaaRMi
import Derived.Test.YtjppjppapdflmaaRPg
import Derived.Test.YtjppjppapdflmaaPAllf15
import Derived.Test.YtjppjppapdflmaaRPm
namespace Go.Proofs.Ytjppjppapdflmaa.PAll
open Go.RowKit Go.Proofs.YtjppjppapdflmaaW.PrintWords Go.Proofs.YtjppjppapdflmaaW.PrintLast Go.Proofs.YtjppjppapdflmaaW.PrintMore
attribute [local go_sem] max2_int min2_int max_two min_two max_three min_three max_four min_four   -- for this text's walks alone
set_option linter.unusedVariables false
set_option linter.unusedSimpArgs false

/-! ### dancestudiolaw50_RehearseAgain: function 9 -/
mutual
def dancestudiolaw50_RehearseAgain.l0 : Nat → Int → List (S53) → List (S55) → List (S59) → Int → List (S53) → List (S55) → List (S59) → Int → Option (Bool)
 | 0, _, _, _, _, _, _, _, _, _ => none
 | k + 1, x4, x760000, x760001, x760002, x760003, x775000, x775001, x775002, x775003 => if x4 < (x760000.length : Int) then (if 0 ≤ x4 then ((some (([] : List Int) : List Int)).bind fun y777 => (if y777.length + ((rd_T53 x760000 x4).f2).length < 17592186044416 then (if x775000.length < 2932031007402 then (dancestudiolaw50_RehearseAgain.l0 k (wrap64 (x4 + 1)) x760000 x760001 x760002 x760003 (x775000 ++ [(⟨(rd_T53 x760000 x4).f0, (rd_T53 x760000 x4).f1, (y777 ++ ((rd_T53 x760000 x4).f2))⟩ : S53)]) x775001 x775002 x775003) else (none)) else (none))) else (none)) else ((dancestudiolaw50_of.f).bind fun t786 => ((rehearse_Plan.f k x775000 x775001 x775002 x775003).bind fun bt787 => ((dancestudiolaw50_of.f).bind fun t791 => ((rehearse_Plan.f k x775000 x775001 x775002 x775003).bind fun bt792 => (if bt787.2 = bt792.2 then ((dancestudioref50_Same.f k bt787.1 bt792.1).bind fun t796 => (dancestudiolaw50_RehearseAgain.j1 k bt787.1 bt787.2 bt792.1 (!t796) x760000 x760001 x760002 x760003 x775000 x775001 x775002 x775003)) else (dancestudiolaw50_RehearseAgain.j1 k bt787.1 bt787.2 bt792.1 true x760000 x760001 x760002 x760003 x775000 x775001 x775002 x775003))))))
def dancestudiolaw50_RehearseAgain.j1 : Nat → List (S48) → Int → List (S48) → Bool → List (S53) → List (S55) → List (S59) → Int → List (S53) → List (S55) → List (S59) → Int → Option (Bool)
 | 0, _, _, _, _, _, _, _, _, _, _, _, _ => none
 | k + 1, x6, x7, x8, x73, x760000, x760001, x760002, x760003, x775000, x775001, x775002, x775003 => if x73 = true then (none) else (dancestudiolaw50_RehearseAgain.l1 k x6 x7 x8 0 x760000 x760001 x760002 x760003 x775000 x775001 x775002 x775003)
def dancestudiolaw50_RehearseAgain.l1 : Nat → List (S48) → Int → List (S48) → Int → List (S53) → List (S55) → List (S59) → Int → List (S53) → List (S55) → List (S59) → Int → Option (Bool)
 | 0, _, _, _, _, _, _, _, _, _, _, _, _ => none
 | k + 1, x6, x7, x8, x10, x760000, x760001, x760002, x760003, x775000, x775001, x775002, x775003 => if x10 < (x6.length : Int) then (if 0 ≤ x10 then (dancestudiolaw50_RehearseAgain.l1 k (x6.set (x10 : Int).toNat (⟨(-1), (-1), (-1)⟩ : S48)) x7 x8 (wrap64 (x10 + 1)) x760000 x760001 x760002 x760003 x775000 x775001 x775002 x775003) else (none)) else ((dancestudiolaw50_of.f).bind fun t798 => ((rehearse_Plan.f k x775000 x775001 x775002 x775003).bind fun bt799 => (dancestudiolaw50_RehearseAgain.l2 k x7 x8 bt799.1 bt799.2 0 x760000 x760001 x760002 x760003 x775000 x775001 x775002 x775003)))
def dancestudiolaw50_RehearseAgain.l2 : Nat → Int → List (S48) → List (S48) → Int → Int → List (S53) → List (S55) → List (S59) → Int → List (S53) → List (S55) → List (S59) → Int → Option (Bool)
 | 0, _, _, _, _, _, _, _, _, _, _, _, _, _ => none
 | k + 1, x7, x8, x11, x12, x13, x760000, x760001, x760002, x760003, x775000, x775001, x775002, x775003 => if x13 < (x760000.length : Int) then (dancestudiolaw50_RehearseAgain.l3 k x7 x8 x11 x12 x13 0 x760000 x760001 x760002 x760003 x775000 x775001 x775002 x775003) else (if x12 = x7 then ((dancestudioref50_Same.f k x8 x11).bind fun t803 => (if t803 = true then ((dancestudiolaw50_awake.f k).bind fun t804 => (some t804)) else (none))) else (none))
def dancestudiolaw50_RehearseAgain.l3 : Nat → Int → List (S48) → List (S48) → Int → Int → Int → List (S53) → List (S55) → List (S59) → Int → List (S53) → List (S55) → List (S59) → Int → Option (Bool)
 | 0, _, _, _, _, _, _, _, _, _, _, _, _, _, _ => none
 | k + 1, x7, x8, x11, x12, x13, x14, x760000, x760001, x760002, x760003, x775000, x775001, x775002, x775003 => if 0 ≤ x13 then (if x13 < (x760000.length : Int) then (if x14 < (((rd_T53 x760000 x13).f2).length : Int) then (if x13 < (x775000.length : Int) then (if 0 ≤ x14 then (if x14 < (((rd_T53 x775000 x13).f2).length : Int) then (if (rd ((rd_T53 x775000 x13).f2) x14) = (rd ((rd_T53 x760000 x13).f2) x14) then (dancestudiolaw50_RehearseAgain.l3 k x7 x8 x11 x12 x13 (wrap64 (x14 + 1)) x760000 x760001 x760002 x760003 x775000 x775001 x775002 x775003) else (none)) else (none)) else (none)) else (none)) else (dancestudiolaw50_RehearseAgain.l2 k x7 x8 x11 x12 (wrap64 (x13 + 1)) x760000 x760001 x760002 x760003 x775000 x775001 x775002 x775003)) else (none)) else (none)
end
def dancestudiolaw50_RehearseAgain.f (k : Nat) (l0_0 : List (S53)) (l0_1 : List (S55)) (l0_2 : List (S59)) (a0_3 : Int) : Option (Bool) := (dancestudiolaw50_small.f l0_0 l0_1 l0_2 a0_3).bind fun t760 => (if t760 = true then ((some (([] : List (S55)) : List (S55))).bind fun y762 => (if y762.length + l0_1.length < 17592186044416 then ((some (([] : List (S59)) : List (S59))).bind fun y768 => (if y768.length + l0_2.length < 5864062014805 then (dancestudiolaw50_RehearseAgain.l0 k 0 l0_0 l0_1 l0_2 a0_3 ([] : List (S53)) (y762 ++ l0_1) (y768 ++ l0_2) a0_3) else (none))) else (none))) else ((dancestudiolaw50_awake.f k).bind fun t761 => (some t761)))
def dancestudiolaw50_RehearseAgain.T3 : Bool × List (List Nat × List Nat) := (true, [([], []), ([], []), ([1], [1]), ([0, 2], [0, 2]), ([], []), ([], []), ([5], [5]), ([4, 6, 3], [4, 6]), ([], []), ([8], [8]), ([3, 7, 9], [3, 7, 9]), ([], []), ([11, 10, 7, 0, 1, 2, 3, 4, 5, 6, 7, 8, 9, 10, 11], [10, 11])])
def dancestudiolaw50_RehearseAgain.B3 : List Nat := [0, 0, 2, 7, 0, 0, 32, 127, 0, 256, 1023, 0, 4095]
theorem dancestudiolaw50_RehearseAgain.tab3 : rtab .any (opsOf Try.f9 3) = dancestudiolaw50_RehearseAgain.T3 := by kernel_rfl
theorem dancestudiolaw50_RehearseAgain.bits3 : waitsOk dancestudiolaw50_RehearseAgain.T3.2 dancestudiolaw50_RehearseAgain.B3 = true := by kernel_rfl
def dancestudiolaw50_RehearseAgain.T25 : Bool × List (List Nat × List Nat) := (true, [([], []), ([0], [0]), ([], []), ([1, 2], [1, 2]), ([3], [3]), ([4], [4]), ([], []), ([5, 6], [5, 6]), ([7], [7]), ([], []), ([9], [9]), ([], []), ([10, 11], [10, 11]), ([12], [12]), ([13], [13]), ([], []), ([14, 15], [14, 15]), ([16], [16]), ([8, 17], [8, 17])])
def dancestudiolaw50_RehearseAgain.B25 : List Nat := [0, 1, 0, 7, 15, 31, 0, 127, 255, 0, 512, 0, 3584, 7680, 15872, 0, 65024, 130560, 262143]
theorem dancestudiolaw50_RehearseAgain.tab25 : rtab .any (opsOf Try.f9 25) = dancestudiolaw50_RehearseAgain.T25 := by kernel_rfl
theorem dancestudiolaw50_RehearseAgain.bits25 : waitsOk dancestudiolaw50_RehearseAgain.T25.2 dancestudiolaw50_RehearseAgain.B25 = true := by kernel_rfl
set_option maxHeartbeats 8000000 in
set_option maxRecDepth 100000 in
theorem dancestudiolaw50_RehearseAgain.calls (k : Nat) (A0_0 : Option Addr) (c0_0 : Nat) (l0_0 : List (S53)) (A0_1 : Option Addr) (c0_1 : Nat) (l0_1 : List (S55)) (A0_2 : Option Addr) (c0_2 : Nat) (l0_2 : List (S59)) (a0_3 : Int) (r : Bool) (w : World) (hr0_0 : Kd.C k53 w A0_0 l0_0.length l0_0) (hc0_0 : l0_0.length ≤ c0_0) (hr0_1 : Kd.C k55 w A0_1 l0_1.length l0_1) (hc0_1 : l0_1.length ≤ c0_1) (hr0_2 : Kd.C k59 w A0_2 l0_2.length l0_2) (hc0_2 : l0_2.length ≤ c0_2) (hmx : Mx w) (h : dancestudiolaw50_RehearseAgain.f k l0_0 l0_1 l0_2 a0_3 = some r) :
  Calls Try.prog 9 #[.agg #[.slice A0_0 l0_0.length c0_0, .slice A0_1 l0_1.length c0_1, .slice A0_2 l0_2.length c0_2, .int .i64 a0_3]] w fun e w' => e = .returned (.bool r) ∧ Below w.heap.size w w' := by
 have HMX_ := Aside0.mk hmx
 clear hmx
 have hu30 := Try.underlying26
 have hu53 := Try.underlying53
 have hu48 := Try.underlying48
 have HR0_0 := Aside0.mk hr0_0
 have HC0_0 := Aside0.mk hc0_0
 clear hr0_0 hc0_0
 have HR0_1 := Aside0.mk hr0_1
 have HC0_1 := Aside0.mk hc0_1
 clear hr0_1 hc0_1
 have HR0_2 := Aside0.mk hr0_2
 have HC0_2 := Aside0.mk hc0_2
 clear hr0_2 hc0_2
 have HB := Aside0.mk (Below.refl w.heap.size w)
 have H : ((dancestudiolaw50_small.f l0_0 l0_1 l0_2 a0_3).bind fun t760 => (if t760 = true then ((some (([] : List (S55)) : List (S55))).bind fun y762 => (if y762.length + l0_1.length < 17592186044416 then ((some (([] : List (S59)) : List (S59))).bind fun y768 => (if y768.length + l0_2.length < 5864062014805 then (dancestudiolaw50_RehearseAgain.l0 k 0 l0_0 l0_1 l0_2 a0_3 ([] : List (S53)) (y762 ++ l0_1) (y768 ++ l0_2) a0_3) else (none))) else (none))) else ((dancestudiolaw50_awake.f k).bind fun t761 => (some t761)))) = some r := h
 clear h
 replace H := Option.bind_eq_some_iff.mp H
 obtain ⟨t760, A20, H⟩ := H
 try dsimp only at H
 have A2 := Aside0.mk A20
 clear A20
 by_cases c3 : t760 = true
 rotate_left
 ·
  replace c3 := Bool.eq_false_iff.mpr c3
  subst c3
  rw [if_neg (show ¬ (false = true) by decide)] at H
  replace H := Option.bind_eq_some_iff.mp H
  obtain ⟨t761, A1040, H⟩ := H
  try dsimp only at H
  have A104 := Aside0.mk A1040
  clear A1040
  obtain rfl := Option.some.inj H
  go_enter Try.func9, Try.ntmps9
  go_wp2_with (first | ((with_reducible refine gate_dst (N := 1) rfl ?_); refine box_event ?hg (N := 1) ?hd (cs := #[.slice A0_0 l0_0.length c0_0, .slice A0_1 l0_1.length c0_1, .slice A0_2 l0_2.length c0_2, .int .i64 a0_3]) (t := 26) ?hr ?_; (case hd => rfl); (case hg => rfl); (case hr => first | (go_simp; done) | (go_simp; rfl)); intro gb2 hg w105 hbox hb; have BK2 := Aside0.mk hbox; have GW2 := mGw HB hg; have GE2 := GW2; replace HB := mSt HB hb; clear hb hbox hg; have hcz106 := blk_cell BK2.out; have hfz106 := blk_frozen BK2.out) | ((with_reducible refine gate_callee (f := 20) rfl ?_); refine goesL_ (some 16) rfl rfl Try.func20 (by kernel_rfl) rfl #[.agg #[.slice A0_0 l0_0.length c0_0, .slice A0_1 l0_1.length c0_1, .slice A0_2 l0_2.length c0_2, .int .i64 a0_3]] rfl (by (try simp only [List.map_toArray, List.map_cons, List.map_nil]); first | done | rfl | (simp only [List.length_drop, List.length_take]; rfl)) ?_; (with_reducible refine (dancestudiolaw50_small.calls _ _ l0_0 _ _ l0_1 _ _ l0_2 a0_3 false _ ?side1 ?side2 ?side3 ?side4 ?side5 ?side6 A2.out).mono ?_); (case side1 => exact Kd.C_below HR0_0.out HB.out); (case side2 => exact HC0_0.out); (case side3 => exact Kd.C_below HR0_1.out HB.out); (case side4 => exact HC0_1.out); (case side5 => exact Kd.C_below HR0_2.out HB.out); (case side6 => exact HC0_2.out); rintro e w107 ⟨rfl, hb⟩; refine ⟨_, rfl, ?_⟩; replace BK2 := mBb BK2 hb; replace HB := mSt HB hb; (try clear hb)) | ((with_reducible refine gate_callee (f := 15) rfl ?_); refine goesL_ (some 18) rfl rfl Try.func15 (by kernel_rfl) rfl #[] rfl (by (try simp only [List.map_toArray, List.map_cons, List.map_nil]); first | done | rfl | (simp only [List.length_drop, List.length_take]; rfl)) ?_; (with_reducible refine (dancestudiolaw50_awake.calls k  t761 _ ?sidem_ A104.out).mono ?_); (case sidem_ => first | ((repeat (first | exact HMX_.out | apply Mx.drewN | apply Mx.drew)); done) | (refine Mx.below HMX_.out ?_; (repeat (first | (with_reducible first | exact HB.out | apply below_alloc | apply pw_below_drewN | apply below_drew1 | refine below_set ?_ (Aside0.out (by assumption))) | exact HB.out)); done)); rintro e w108 ⟨rfl, hb⟩; refine ⟨_, rfl, ?_⟩; replace BK2 := mBb BK2 hb; replace HB := mSt HB hb; (try clear hb)))
  go_ret
  exact ⟨by first | rfl | (simp [errW_none, errW_some] <;> rfl) | (simp [*, errW_none, errW_some] <;> rfl), HB.out⟩
 subst c3
 rw [if_pos rfl] at H
 obtain ⟨y762, hy762⟩ : ∃ y_ : List (S55), y_ = (([] : List (S55))) := ⟨_, rfl⟩
 rw [← hy762] at H
 have Ny762 := Aside0.mk hy762
 clear hy762
 obtain ⟨c4, H⟩ : (y762.length + l0_1.length < 17592186044416) ∧ _ := mIf H
 have LMc4 := Aside0.mk c4
 clear c4
 obtain ⟨y765, hy765⟩ : ∃ y_ : List (S55), y_ = (y762 ++ l0_1) := ⟨_, rfl⟩
 rw [← hy765] at H
 have Ny765 := Aside0.mk hy765
 clear hy765
 obtain ⟨y768, hy768⟩ : ∃ y_ : List (S59), y_ = (([] : List (S59))) := ⟨_, rfl⟩
 rw [← hy768] at H
 have Ny768 := Aside0.mk hy768
 clear hy768
 obtain ⟨c5, H⟩ : (y768.length + l0_2.length < 5864062014805) ∧ _ := mIf H
 have LMc5 := Aside0.mk c5
 clear c5
 obtain ⟨y771, hy771⟩ : ∃ y_ : List (S59), y_ = (y768 ++ l0_2) := ⟨_, rfl⟩
 rw [← hy771] at H
 have Ny771 := Aside0.mk hy771
 clear hy771
 have H' := Aside0.mk H
 clear H
 go_enter Try.func9, Try.ntmps9
 try go_wp2_with (first | ((with_reducible refine gate_dst (N := 1) rfl ?_); refine box_event ?hg (N := 1) ?hd (cs := #[.slice A0_0 l0_0.length c0_0, .slice A0_1 l0_1.length c0_1, .slice A0_2 l0_2.length c0_2, .int .i64 a0_3]) (t := 26) ?hr ?_; (case hd => rfl); (case hg => rfl); (case hr => first | (go_simp; done) | (go_simp; rfl)); intro gb2 hg w6 hbox hb; have BK2 := Aside0.mk hbox; have GW2 := mGw HB hg; have GE2 := GW2; replace HB := mSt HB hb; clear hb hbox hg; have hcz7 := blk_cell BK2.out; have hfz7 := blk_frozen BK2.out) | ((with_reducible refine gate_callee (f := 20) rfl ?_); refine goesL_ (some 16) rfl rfl Try.func20 (by kernel_rfl) rfl #[.agg #[.slice A0_0 l0_0.length c0_0, .slice A0_1 l0_1.length c0_1, .slice A0_2 l0_2.length c0_2, .int .i64 a0_3]] rfl (by (try simp only [List.map_toArray, List.map_cons, List.map_nil]); first | done | rfl | (simp only [List.length_drop, List.length_take]; rfl)) ?_; (with_reducible refine (dancestudiolaw50_small.calls _ _ l0_0 _ _ l0_1 _ _ l0_2 a0_3 true _ ?side1 ?side2 ?side3 ?side4 ?side5 ?side6 A2.out).mono ?_); (case side1 => exact Kd.C_below HR0_0.out HB.out); (case side2 => exact HC0_0.out); (case side3 => exact Kd.C_below HR0_1.out HB.out); (case side4 => exact HC0_1.out); (case side5 => exact Kd.C_below HR0_2.out HB.out); (case side6 => exact HC0_2.out); rintro e w8 ⟨rfl, hb⟩; refine ⟨_, rfl, ?_⟩; replace BK2 := mBb BK2 hb; replace HB := mSt HB hb; (try clear hb)))
 replace BK2 := Aside0.mk (blk_drew BK2.out); replace HB := Aside0.mk (below_drew1 HB.out)
 refine start_ (n := 13) (S := fun w' => w'.cell? ⟨gb2, 0, none⟩ = some (.slice A0_0 l0_0.length c0_0) ∧ w'.cell? ⟨gb2, 1, none⟩ = some (.slice A0_1 l0_1.length c0_1) ∧ w'.cell? ⟨gb2, 2, none⟩ = some (.slice A0_2 l0_2.length c0_2) ∧ w'.cell? ⟨gb2, 3, none⟩ = some (.int .i64 a0_3)) (ds := []) #[false, false, false, false, false, false, false, false, false, false, false, false, false] (by kernel_rfl) rfl rfl ⟨(blk_cell BK2.out 0).trans rfl, (blk_cell BK2.out 1).trans rfl, (blk_cell BK2.out 2).trans rfl, (blk_cell BK2.out 3).trans rfl⟩ (fun hHeld => ?_); refine with_tabW dancestudiolaw50_RehearseAgain.tab3 dancestudiolaw50_RehearseAgain.bits3 (fun HT_ HW_ => ?_)
 generalize w8.drew = w9 at BK2 HB hHeld ⊢
 refine pure_ (i := 1) (N := some 20) (v := ?_) (a' := ?_) #[false, true, false, false, false, false, false, false, false, false, false, false, false] rfl rfl (any_of HT_.out (by kernel_rfl)) (fun _ _ _ h => h) (Or.inl ⟨by rfl, ?_⟩) ?_ ?_
 rotate_left
 ·
  intro w'
  go_simp
  with_reducible rfl
 rotate_left
 ·
  simp only [Act.put, List.setIfInBounds_toArray, List.set_cons_zero, List.set_cons_succ, i64_w, i32_w]
  rfl
 refine pure_ (i := 5) (N := some 24) (v := ?_) (a' := ?_) #[false, true, false, false, false, true, false, false, false, false, false, false, false] rfl rfl (any_of HT_.out (by kernel_rfl)) (fun _ _ _ h => h) (Or.inl ⟨by rfl, ?_⟩) ?_ ?_
 rotate_left
 ·
  intro w'
  go_simp
  with_reducible rfl
 rotate_left
 ·
  simp only [Act.put, List.setIfInBounds_toArray, List.set_cons_zero, List.set_cons_succ, i64_w, i32_w]
  rfl
 refine pure_ (i := 8) (N := some 27) (v := ?_) (a' := ?_) #[false, true, false, false, false, true, false, false, true, false, false, false, false] rfl rfl (any_of HT_.out (by kernel_rfl)) (fun _ _ _ h => h) (Or.inl ⟨by rfl, ?_⟩) ?_ ?_
 rotate_left
 ·
  intro w'
  go_simp
  with_reducible rfl
 rotate_left
 ·
  simp only [Act.put, List.setIfInBounds_toArray, List.set_cons_zero, List.set_cons_succ, i64_w, i32_w]
  rfl
 refine take_ (i := 2) (N := some 21) (v := ?_) (a' := ?_) #[false, true, true, false, false, true, false, false, true, false, false, false, false] rfl rfl (take_ofW HT_.out HW_.out (by kernel_rfl)) (fun _ _ _ h => h) (Or.inl ⟨by rfl, ?_⟩) hHeld ?_ ?_
 rotate_left
 ·
  rintro w' ⟨s0, s1, s2, s3⟩
  go_simp
  with_reducible rfl
 rotate_left
 ·
  simp only [Act.put, List.setIfInBounds_toArray, List.set_cons_zero, List.set_cons_succ, i64_w, i32_w]
  rfl
 refine take_ (i := 6) (N := some 25) (v := ?_) (a' := ?_) #[false, true, true, false, false, true, true, false, true, false, false, false, false] rfl rfl (take_ofW HT_.out HW_.out (by kernel_rfl)) (fun _ _ _ h => h) (Or.inl ⟨by rfl, ?_⟩) hHeld ?_ ?_
 rotate_left
 ·
  rintro w' ⟨s0, s1, s2, s3⟩
  go_simp
  with_reducible rfl
 rotate_left
 ·
  simp only [Act.put, List.setIfInBounds_toArray, List.set_cons_zero, List.set_cons_succ, i64_w, i32_w]
  rfl
 refine take_ (i := 9) (N := some 28) (v := ?_) (a' := ?_) #[false, true, true, false, false, true, true, false, true, true, false, false, false] rfl rfl (take_ofW HT_.out HW_.out (by kernel_rfl)) (fun _ _ _ h => h) (Or.inl ⟨by rfl, ?_⟩) hHeld ?_ ?_
 rotate_left
 ·
  rintro w' ⟨s0, s1, s2, s3⟩
  go_simp
  with_reducible rfl
 rotate_left
 ·
  simp only [Act.put, List.setIfInBounds_toArray, List.set_cons_zero, List.set_cons_succ, i64_w, i32_w]
  rfl
 refine join_ (σ := Value × Value × Value × Value × Nat) 1 #[true, true, true, true, true, true, true, true, true, true, true, true, false] (fun s_ => [(19, s_.1), (22, s_.2.1), (23, s_.2.2.1), (26, s_.2.2.2.1), (3, .pointer (some ⟨s_.2.2.2.2, 0, none⟩)), (29, .agg #[.slice none 0 0, s_.2.1, s_.2.2.2.1, .int .i64 a0_3])]) (fun s_ w' => (w'.cell? ⟨gb2, 0, none⟩ = some (.slice A0_0 l0_0.length c0_0) ∧ w'.cell? ⟨gb2, 1, none⟩ = some (.slice A0_1 l0_1.length c0_1) ∧ w'.cell? ⟨gb2, 2, none⟩ = some (.slice A0_2 l0_2.length c0_2) ∧ w'.cell? ⟨gb2, 3, none⟩ = some (.int .i64 a0_3)) ∧ (Kd.R k55 55 w' w.heap.size (fun _ => True) s_.2.1 y765) ∧ (Kd.R k59 59 w' w.heap.size (fun _ => True) s_.2.2.2.1 y771) ∧ (w'.heap[gb2]? = some (.cells #[.slice A0_0 l0_0.length c0_0, .slice A0_1 l0_1.length c0_1, .slice A0_2 l0_2.length c0_2, .int .i64 a0_3] 26 (0, 0))) ∧ (w'.heap[s_.2.2.2.2]? = some (.cells #[.slice none 0 0, .slice none 0 0, .slice none 0 0, .int .i64 0] 26 (0, 0))) ∧ (w.heap.size ≤ s_.2.2.2.2) ∧ (w.heap.size ≤ s_.2.2.2.2) ∧ (gb2 ≠ s_.2.2.2.2) ∧ (s_.2.2.2.2 ≠ gb2) ∧ (Below w.heap.size w w')) ?_ ?_
 rotate_left
 ·
  intro hJ0_3_4_7_11
  refine join_ (σ := Value × Value × Value × Value) 2 #[true, true, true, true, true, true, true, true, true, true, true, false, false] (fun s_ => [(19, s_.1), (22, s_.2.1), (23, s_.2.2.1), (26, s_.2.2.2), (29, .agg #[.slice none 0 0, s_.2.1, s_.2.2.2, .int .i64 a0_3])]) (fun s_ w' => (w'.cell? ⟨gb2, 0, none⟩ = some (.slice A0_0 l0_0.length c0_0) ∧ w'.cell? ⟨gb2, 1, none⟩ = some (.slice A0_1 l0_1.length c0_1) ∧ w'.cell? ⟨gb2, 2, none⟩ = some (.slice A0_2 l0_2.length c0_2) ∧ w'.cell? ⟨gb2, 3, none⟩ = some (.int .i64 a0_3)) ∧ (Kd.R k55 55 w' w.heap.size (fun _ => True) s_.2.1 y765) ∧ (Kd.R k59 59 w' w.heap.size (fun _ => True) s_.2.2.2 y771) ∧ (w'.heap[gb2]? = some (.cells #[.slice A0_0 l0_0.length c0_0, .slice A0_1 l0_1.length c0_1, .slice A0_2 l0_2.length c0_2, .int .i64 a0_3] 26 (0, 0))) ∧ (Below w.heap.size w w')) ?_ ?_
  ·
   skip
   rintro ⟨v763, v766, v769, v772⟩ w18 ⟨hS_, h0_, h1_, h2_, h3_⟩
   try dsimp only at h0_ h1_ h2_ h3_
   have n0_ := Aside0.mk h0_
   have n1_ := Aside0.mk h1_
   have n2_ := Aside0.mk h2_
   have n3_ := Aside0.mk h3_
   clear BK2; clear HB
   clear h0_ h1_ h2_ h3_
   have HO767 := n0_
   have HO773 := n1_
   have BK2 := n2_
   have HB := n3_
   clear n0_ n1_ n2_ n3_
   have hHeld : w18.cell? ⟨gb2, 0, none⟩ = some (.slice A0_0 l0_0.length c0_0) ∧ w18.cell? ⟨gb2, 1, none⟩ = some (.slice A0_1 l0_1.length c0_1) ∧ w18.cell? ⟨gb2, 2, none⟩ = some (.slice A0_2 l0_2.length c0_2) ∧ w18.cell? ⟨gb2, 3, none⟩ = some (.int .i64 a0_3) := hS_
   obtain ⟨Ao19, co19, eo19⟩ := Kd.R_slice HO773.out
   (first | subst eo19 | (injection eo19 with f1_ f2_ f3_; have f4_ := f1_.symm; have f5_ := f3_.symm; clear f1_ f2_ f3_; subst f4_; subst f5_))
   obtain ⟨Ao20, co20, eo20⟩ := Kd.R_slice HO767.out
   (first | subst eo20 | (injection eo20 with f1_ f2_ f3_; have f4_ := f1_.symm; have f5_ := f3_.symm; clear f1_ f2_ f3_; subst f4_; subst f5_))
   refine norm_ (a' := ?_) ?_ ?_
   rotate_left
   ·
    simp only [putAll, Act.put, List.setIfInBounds_toArray, List.set_cons_zero, List.set_cons_succ]
    rfl
   refine one_ (i := 11) (N := some 3) #[true, true, true, true, true, true, true, true, true, true, true, true, false] rfl rfl (one_of HT_.out (by kernel_rfl)) (by decide) (fun K hK => ?_)
   refine box_step ?hg (N := 3) ?hd (cs := #[.slice none 0 0, .slice none 0 0, .slice none 0 0, .int .i64 0]) (t := 26) ?hr ?_; (case hd => rfl); (case hg => rfl); (case hr => first | (go_simp; done) | (go_simp; rfl))
   intro gb3 hg w21 hbox hb
   replace HO767 := Aside0.mk (Kd.R_below HO767.out hb); replace HO773 := Aside0.mk (Kd.R_below HO773.out hb); have BK3 := Aside0.mk hbox; have GW3 := mGw HB hg; have GE3 := GW3; replace HB := mSt HB hb; have NB2_3 := mNe BK2 hg; have NB3_2 := mSy NB2_3; replace BK2 := mBb BK2 hb
   clear hb hbox hg
   refine hK.out _ _ ⟨blk_cell BK2.out 0, blk_cell BK2.out 1, blk_cell BK2.out 2, blk_cell BK2.out 3⟩ (fun hHeld => ?_)
   clear hK K
   refine norm_ (a' := ?_) ?_ ?_
   rotate_left
   ·
    show Act.put _ (some 3) _ = _
    simp only [Act.put, List.setIfInBounds_toArray, List.set_cons_zero, List.set_cons_succ, i64_w, i32_w]
    rfl
   exact norm_ (by simp only [putAll, Act.put, List.setIfInBounds_toArray, List.set_cons_zero, List.set_cons_succ] <;> rfl) (hJ0_3_4_7_11 (v763, .slice Ao20 y765.length co20, v769, .slice Ao19 y771.length co19, gb3) _ ⟨hHeld, HO767.out, HO773.out, BK2.out, BK3.out, GW3.out, GE3.out, NB2_3.out, NB3_2.out, HB.out⟩)
  intro hJ0_3_4_7
  refine join_ (σ := Value × Value × Value × Nat) 3 #[true, true, true, true, true, true, true, false, true, true, false, true, false] (fun s_ => [(19, s_.1), (22, s_.2.1), (23, s_.2.2.1), (3, .pointer (some ⟨s_.2.2.2, 0, none⟩))]) (fun s_ w' => (w'.cell? ⟨gb2, 0, none⟩ = some (.slice A0_0 l0_0.length c0_0) ∧ w'.cell? ⟨gb2, 1, none⟩ = some (.slice A0_1 l0_1.length c0_1) ∧ w'.cell? ⟨gb2, 2, none⟩ = some (.slice A0_2 l0_2.length c0_2) ∧ w'.cell? ⟨gb2, 3, none⟩ = some (.int .i64 a0_3)) ∧ (Kd.R k55 55 w' w.heap.size (fun _ => True) s_.2.1 y765) ∧ (Kd.R k59 59 w' w.heap.size (fun _ => True) s_.2.2.1 y768) ∧ (w'.heap[gb2]? = some (.cells #[.slice A0_0 l0_0.length c0_0, .slice A0_1 l0_1.length c0_1, .slice A0_2 l0_2.length c0_2, .int .i64 a0_3] 26 (0, 0))) ∧ (w'.heap[s_.2.2.2]? = some (.cells #[.slice none 0 0, .slice none 0 0, .slice none 0 0, .int .i64 0] 26 (0, 0))) ∧ (w.heap.size ≤ s_.2.2.2) ∧ (w.heap.size ≤ s_.2.2.2) ∧ (gb2 ≠ s_.2.2.2) ∧ (s_.2.2.2 ≠ gb2) ∧ (Below w.heap.size w w')) ?_ ?_
  ·
   skip
   rintro ⟨v763, v766, v769, gb3⟩ w16 ⟨hS_, h0_, h1_, h2_, h3_, h4_, h5_, h6_, h7_, h8_⟩
   try dsimp only at h0_ h1_ h2_ h3_ h4_ h5_ h6_ h7_ h8_
   have n0_ := Aside0.mk h0_
   have n1_ := Aside0.mk h1_
   have n2_ := Aside0.mk h2_
   have n3_ := Aside0.mk h3_
   have n4_ := Aside0.mk h4_
   have n5_ := Aside0.mk h5_
   have n6_ := Aside0.mk h6_
   have n7_ := Aside0.mk h7_
   have n8_ := Aside0.mk h8_
   clear BK2; clear HB
   clear h0_ h1_ h2_ h3_ h4_ h5_ h6_ h7_ h8_
   have HO767 := n0_
   have HO770 := n1_
   have BK2 := n2_
   have BK3 := n3_
   have GW3 := n4_
   have GE3 := n5_
   have NB2_3 := n6_
   have NB3_2 := n7_
   have HB := n8_
   clear n0_ n1_ n2_ n3_ n4_ n5_ n6_ n7_ n8_
   have hHeld : w16.cell? ⟨gb2, 0, none⟩ = some (.slice A0_0 l0_0.length c0_0) ∧ w16.cell? ⟨gb2, 1, none⟩ = some (.slice A0_1 l0_1.length c0_1) ∧ w16.cell? ⟨gb2, 2, none⟩ = some (.slice A0_2 l0_2.length c0_2) ∧ w16.cell? ⟨gb2, 3, none⟩ = some (.int .i64 a0_3) := hS_
   refine norm_ (a' := ?_) ?_ ?_
   rotate_left
   ·
    simp only [putAll, Act.put, List.setIfInBounds_toArray, List.set_cons_zero, List.set_cons_succ]
    rfl
   refine one_ (i := 7) (N := some 26) #[true, true, true, true, true, true, true, true, true, true, false, true, false] rfl rfl (one_of HT_.out (by kernel_rfl)) (by decide) (fun K hK => ?_)
   refine Kd.R_append_rows_step k59 (w0 := w) w.heap.size (by rfl) (.tmp 23) (.tmp 25) 24 59 (.agg #[(.int .i64 0), (.int .i64 0), (.int .i64 0)]) 24 rfl Try.underlying24 info59 rfl (by decide) (by omega) v769 y768 l0_2 _ _ _ (fun _ => True) (fun _ => False) rfl rfl ?aO ?aR (fun _ _ h => h) (fun _ h => h.elim) ?aF ?aB ?aS ?aL ?_
   (case aR => exact Kd.C_below HR0_2.out HB.out)
   (case aB => exact HB.out)
   (case aF => exact (fun _ _ => trivial))
   (case aO => exact HO770.out)
   (case aS => exact (below_size HB.out))
   (case aL => have := LMc5.out; omega)
   intro v772 w17 ho hb hg hat
   rw [← Ny771.out] at ho
   replace BK2 := Aside0.mk (blk_grown (g := gb2) (o := .cells #[.slice A0_0 l0_0.length c0_0, .slice A0_1 l0_1.length c0_1, .slice A0_2 l0_2.length c0_2, .int .i64 a0_3] 26 (0, 0)) BK2.out hg (Kd.R_ne HO770.out BK2.out (by decide))); replace HO767 := Aside0.mk (Kd.R_over' HO767.out (Kd.R_typed HO770.out) (by decide) hg); replace BK3 := Aside0.mk (blk_grown (g := gb3) (o := .cells #[.slice none 0 0, .slice none 0 0, .slice none 0 0, .int .i64 0] 26 (0, 0)) BK3.out hg (Kd.R_ne HO770.out BK3.out (by decide))); replace HB := Aside0.mk hb; have HO773 := Aside0.mk ho; clear HO770
   clear ho hb hg hat
   obtain ⟨Ao18, co18, eo18⟩ := Kd.R_slice HO773.out
   (first | subst eo18 | (injection eo18 with f1_ f2_ f3_; have f4_ := f1_.symm; have f5_ := f3_.symm; clear f1_ f2_ f3_; subst f4_; subst f5_))
   obtain ⟨Ao19, co19, eo19⟩ := Kd.R_slice HO767.out
   (first | subst eo19 | (injection eo19 with f1_ f2_ f3_; have f4_ := f1_.symm; have f5_ := f3_.symm; clear f1_ f2_ f3_; subst f4_; subst f5_))
   refine hK.out _ _ ⟨blk_cell BK2.out 0, blk_cell BK2.out 1, blk_cell BK2.out 2, blk_cell BK2.out 3⟩ (fun hHeld => ?_)
   clear hK K
   refine norm_ (a' := ?_) ?_ ?_
   rotate_left
   ·
    show Act.put _ (some 26) _ = _
    simp only [Act.put, List.setIfInBounds_toArray, List.set_cons_zero, List.set_cons_succ, i64_w, i32_w]
    rfl
   refine pure_ (i := 10) (N := some 29) (v := ?_) (a' := ?_) #[true, true, true, true, true, true, true, true, true, true, true, true, false] rfl rfl (any_of HT_.out (by kernel_rfl)) (fun _ _ _ h => h) (Or.inl ⟨by rfl, ?_⟩) ?_ ?_
   rotate_left
   ·
    intro w'
    go_simp
    with_reducible rfl
   rotate_left
   ·
    simp only [Act.put, List.setIfInBounds_toArray, List.set_cons_zero, List.set_cons_succ, i64_w, i32_w]
    rfl
   exact norm_ (by simp only [putAll, Act.put, List.setIfInBounds_toArray, List.set_cons_zero, List.set_cons_succ] <;> rfl) (hJ0_3_4_7_11 (v763, .slice Ao19 y765.length co19, v769, .slice Ao18 y771.length co18, gb3) _ ⟨hHeld, HO767.out, HO773.out, BK2.out, BK3.out, GW3.out, GE3.out, NB2_3.out, NB3_2.out, HB.out⟩)
  intro hJ0_3_4_11
  refine join_ (σ := Value × Value × Value) 4 #[true, true, true, true, true, true, true, false, true, true, false, false, false] (fun s_ => [(19, s_.1), (22, s_.2.1), (23, s_.2.2)]) (fun s_ w' => (w'.cell? ⟨gb2, 0, none⟩ = some (.slice A0_0 l0_0.length c0_0) ∧ w'.cell? ⟨gb2, 1, none⟩ = some (.slice A0_1 l0_1.length c0_1) ∧ w'.cell? ⟨gb2, 2, none⟩ = some (.slice A0_2 l0_2.length c0_2) ∧ w'.cell? ⟨gb2, 3, none⟩ = some (.int .i64 a0_3)) ∧ (Kd.R k55 55 w' w.heap.size (fun _ => True) s_.2.1 y765) ∧ (Kd.R k59 59 w' w.heap.size (fun _ => True) s_.2.2 y768) ∧ (w'.heap[gb2]? = some (.cells #[.slice A0_0 l0_0.length c0_0, .slice A0_1 l0_1.length c0_1, .slice A0_2 l0_2.length c0_2, .int .i64 a0_3] 26 (0, 0))) ∧ (Below w.heap.size w w')) ?_ ?_
  ·
   skip
   rintro ⟨v763, v766, v769⟩ w15 ⟨hS_, h0_, h1_, h2_, h3_⟩
   try dsimp only at h0_ h1_ h2_ h3_
   have n0_ := Aside0.mk h0_
   have n1_ := Aside0.mk h1_
   have n2_ := Aside0.mk h2_
   have n3_ := Aside0.mk h3_
   clear BK2; clear HB
   clear h0_ h1_ h2_ h3_
   have HO767 := n0_
   have HO770 := n1_
   have BK2 := n2_
   have HB := n3_
   clear n0_ n1_ n2_ n3_
   have hHeld : w15.cell? ⟨gb2, 0, none⟩ = some (.slice A0_0 l0_0.length c0_0) ∧ w15.cell? ⟨gb2, 1, none⟩ = some (.slice A0_1 l0_1.length c0_1) ∧ w15.cell? ⟨gb2, 2, none⟩ = some (.slice A0_2 l0_2.length c0_2) ∧ w15.cell? ⟨gb2, 3, none⟩ = some (.int .i64 a0_3) := hS_
   refine norm_ (a' := ?_) ?_ ?_
   rotate_left
   ·
    simp only [putAll, Act.put, List.setIfInBounds_toArray, List.set_cons_zero, List.set_cons_succ]
    rfl
   refine two_ (i := 7) (j := 11) (Ni := some 26) (Nj := some 3) #[true, true, true, true, true, true, true, true, true, true, false, false, false] #[true, true, true, true, true, true, true, false, true, true, false, true, false] rfl rfl rfl rfl (two_of HT_.out (by kernel_rfl)) (by decide) (by decide) (fun K hK => ?_) (fun K hK => ?_)
   ·
    skip
    refine Kd.R_append_rows_step k59 (w0 := w) w.heap.size (by rfl) (.tmp 23) (.tmp 25) 24 59 (.agg #[(.int .i64 0), (.int .i64 0), (.int .i64 0)]) 24 rfl Try.underlying24 info59 rfl (by decide) (by omega) v769 y768 l0_2 _ _ _ (fun _ => True) (fun _ => False) rfl rfl ?aO ?aR (fun _ _ h => h) (fun _ h => h.elim) ?aF ?aB ?aS ?aL ?_
    (case aR => exact Kd.C_below HR0_2.out HB.out)
    (case aB => exact HB.out)
    (case aF => exact (fun _ _ => trivial))
    (case aO => exact HO770.out)
    (case aS => exact (below_size HB.out))
    (case aL => have := LMc5.out; omega)
    intro v772 w16 ho hb hg hat
    rw [← Ny771.out] at ho
    replace BK2 := Aside0.mk (blk_grown (g := gb2) (o := .cells #[.slice A0_0 l0_0.length c0_0, .slice A0_1 l0_1.length c0_1, .slice A0_2 l0_2.length c0_2, .int .i64 a0_3] 26 (0, 0)) BK2.out hg (Kd.R_ne HO770.out BK2.out (by decide))); replace HO767 := Aside0.mk (Kd.R_over' HO767.out (Kd.R_typed HO770.out) (by decide) hg); replace HB := Aside0.mk hb; have HO773 := Aside0.mk ho; clear HO770
    clear ho hb hg hat
    obtain ⟨Ao17, co17, eo17⟩ := Kd.R_slice HO773.out
    (first | subst eo17 | (injection eo17 with f1_ f2_ f3_; have f4_ := f1_.symm; have f5_ := f3_.symm; clear f1_ f2_ f3_; subst f4_; subst f5_))
    obtain ⟨Ao18, co18, eo18⟩ := Kd.R_slice HO767.out
    (first | subst eo18 | (injection eo18 with f1_ f2_ f3_; have f4_ := f1_.symm; have f5_ := f3_.symm; clear f1_ f2_ f3_; subst f4_; subst f5_))
    refine hK.out _ _ ⟨blk_cell BK2.out 0, blk_cell BK2.out 1, blk_cell BK2.out 2, blk_cell BK2.out 3⟩ (fun hHeld => ?_)
    clear hK K
    refine norm_ (a' := ?_) ?_ ?_
    rotate_left
    ·
     show Act.put _ (some 26) _ = _
     simp only [Act.put, List.setIfInBounds_toArray, List.set_cons_zero, List.set_cons_succ, i64_w, i32_w]
     rfl
    refine pure_ (i := 10) (N := some 29) (v := ?_) (a' := ?_) #[true, true, true, true, true, true, true, true, true, true, true, false, false] rfl rfl (any_of HT_.out (by kernel_rfl)) (fun _ _ _ h => h) (Or.inl ⟨by rfl, ?_⟩) ?_ ?_
    rotate_left
    ·
     intro w'
     go_simp
     with_reducible rfl
    rotate_left
    ·
     simp only [Act.put, List.setIfInBounds_toArray, List.set_cons_zero, List.set_cons_succ, i64_w, i32_w]
     rfl
    exact norm_ (by simp only [putAll, Act.put, List.setIfInBounds_toArray, List.set_cons_zero, List.set_cons_succ] <;> rfl) (hJ0_3_4_7 (v763, .slice Ao18 y765.length co18, v769, .slice Ao17 y771.length co17) _ ⟨hHeld, HO767.out, HO773.out, BK2.out, HB.out⟩)
   ·
    skip
    refine box_step ?hg (N := 3) ?hd (cs := #[.slice none 0 0, .slice none 0 0, .slice none 0 0, .int .i64 0]) (t := 26) ?hr ?_; (case hd => rfl); (case hg => rfl); (case hr => first | (go_simp; done) | (go_simp; rfl))
    intro gb3 hg w16 hbox hb
    replace HO767 := Aside0.mk (Kd.R_below HO767.out hb); replace HO770 := Aside0.mk (Kd.R_below HO770.out hb); have BK3 := Aside0.mk hbox; have GW3 := mGw HB hg; have GE3 := GW3; replace HB := mSt HB hb; have NB2_3 := mNe BK2 hg; have NB3_2 := mSy NB2_3; replace BK2 := mBb BK2 hb
    clear hb hbox hg
    refine hK.out _ _ ⟨blk_cell BK2.out 0, blk_cell BK2.out 1, blk_cell BK2.out 2, blk_cell BK2.out 3⟩ (fun hHeld => ?_)
    clear hK K
    refine norm_ (a' := ?_) ?_ ?_
    rotate_left
    ·
     show Act.put _ (some 3) _ = _
     simp only [Act.put, List.setIfInBounds_toArray, List.set_cons_zero, List.set_cons_succ, i64_w, i32_w]
     rfl
    exact norm_ (by simp only [putAll, Act.put, List.setIfInBounds_toArray, List.set_cons_zero, List.set_cons_succ] <;> rfl) (hJ0_3_4_11 (v763, v766, v769, gb3) _ ⟨hHeld, HO767.out, HO770.out, BK2.out, BK3.out, GW3.out, GE3.out, NB2_3.out, NB3_2.out, HB.out⟩)
  intro hJ0_3_4
  refine join_ (σ := Value × Value × Nat) 4 #[true, true, true, true, false, true, true, false, true, true, false, true, false] (fun s_ => [(19, s_.1), (22, s_.2.1), (3, .pointer (some ⟨s_.2.2, 0, none⟩))]) (fun s_ w' => (w'.cell? ⟨gb2, 0, none⟩ = some (.slice A0_0 l0_0.length c0_0) ∧ w'.cell? ⟨gb2, 1, none⟩ = some (.slice A0_1 l0_1.length c0_1) ∧ w'.cell? ⟨gb2, 2, none⟩ = some (.slice A0_2 l0_2.length c0_2) ∧ w'.cell? ⟨gb2, 3, none⟩ = some (.int .i64 a0_3)) ∧ (Kd.R k55 55 w' w.heap.size (fun _ => True) s_.2.1 y765) ∧ (w'.heap[gb2]? = some (.cells #[.slice A0_0 l0_0.length c0_0, .slice A0_1 l0_1.length c0_1, .slice A0_2 l0_2.length c0_2, .int .i64 a0_3] 26 (0, 0))) ∧ (w'.heap[s_.2.2]? = some (.cells #[.slice none 0 0, .slice none 0 0, .slice none 0 0, .int .i64 0] 26 (0, 0))) ∧ (w.heap.size ≤ s_.2.2) ∧ (w.heap.size ≤ s_.2.2) ∧ (gb2 ≠ s_.2.2) ∧ (s_.2.2 ≠ gb2) ∧ (Below w.heap.size w w')) ?_ ?_
  ·
   skip
   rintro ⟨v763, v766, gb3⟩ w14 ⟨hS_, h0_, h1_, h2_, h3_, h4_, h5_, h6_, h7_⟩
   try dsimp only at h0_ h1_ h2_ h3_ h4_ h5_ h6_ h7_
   have n0_ := Aside0.mk h0_
   have n1_ := Aside0.mk h1_
   have n2_ := Aside0.mk h2_
   have n3_ := Aside0.mk h3_
   have n4_ := Aside0.mk h4_
   have n5_ := Aside0.mk h5_
   have n6_ := Aside0.mk h6_
   have n7_ := Aside0.mk h7_
   clear BK2; clear HB
   clear h0_ h1_ h2_ h3_ h4_ h5_ h6_ h7_
   have HO767 := n0_
   have BK2 := n1_
   have BK3 := n2_
   have GW3 := n3_
   have GE3 := n4_
   have NB2_3 := n5_
   have NB3_2 := n6_
   have HB := n7_
   clear n0_ n1_ n2_ n3_ n4_ n5_ n6_ n7_
   have hHeld : w14.cell? ⟨gb2, 0, none⟩ = some (.slice A0_0 l0_0.length c0_0) ∧ w14.cell? ⟨gb2, 1, none⟩ = some (.slice A0_1 l0_1.length c0_1) ∧ w14.cell? ⟨gb2, 2, none⟩ = some (.slice A0_2 l0_2.length c0_2) ∧ w14.cell? ⟨gb2, 3, none⟩ = some (.int .i64 a0_3) := hS_
   refine norm_ (a' := ?_) ?_ ?_
   rotate_left
   ·
    simp only [putAll, Act.put, List.setIfInBounds_toArray, List.set_cons_zero, List.set_cons_succ]
    rfl
   refine one_ (i := 4) (N := some 23) #[true, true, true, true, true, true, true, false, true, true, false, true, false] rfl rfl (one_of HT_.out (by kernel_rfl)) (by decide) (fun K hK => ?_)
   refine Kd.R_lit_step k59 _ 59 ?hg (N := 23) ?hd (xs := ([] : List (S59))) (inner := []) (ok := fun _ => True) (okp := fun _ => True) ?hr ?hp (fun _ hk => hk) trivial (Below.refl _ _) (Nat.le_refl _) (by simp) ?_; (case hd => rfl); (case hg => rfl); (case hr => first | (go_simp; done) | (go_simp; rfl)); (case hp => exact (Reps.none _ _))
   intro v769 w15 ho16 hb hg_ hnew_
   clear hg_ hnew_
   (first | rw [← Ny768.out] at ho16 | (simp only [Int.reduceToNat] at ho16; rw [← Ny768.out] at ho16))
   replace HO767 := Aside0.mk (Kd.R_below HO767.out hb); have HO770 := Aside0.mk (Kd.R_lower ho16 (below_size HB.out)); replace BK2 := mBb BK2 hb; replace BK3 := mBb BK3 hb; replace HB := mSt HB hb
   clear hb ho16
   refine hK.out _ _ ⟨blk_cell BK2.out 0, blk_cell BK2.out 1, blk_cell BK2.out 2, blk_cell BK2.out 3⟩ (fun hHeld => ?_)
   clear hK K
   refine norm_ (a' := ?_) ?_ ?_
   rotate_left
   ·
    show Act.put _ (some 23) _ = _
    simp only [Act.put, List.setIfInBounds_toArray, List.set_cons_zero, List.set_cons_succ, i64_w, i32_w]
    rfl
   exact norm_ (by simp only [putAll, Act.put, List.setIfInBounds_toArray, List.set_cons_zero, List.set_cons_succ] <;> rfl) (hJ0_3_4_11 (v763, v766, v769, gb3) _ ⟨hHeld, HO767.out, HO770.out, BK2.out, BK3.out, GW3.out, GE3.out, NB2_3.out, NB3_2.out, HB.out⟩)
  intro hJ0_3_11
  refine join_ (σ := Value × Value × Nat) 4 #[true, true, true, false, true, true, true, false, true, true, false, true, false] (fun s_ => [(19, s_.1), (23, s_.2.1), (3, .pointer (some ⟨s_.2.2, 0, none⟩))]) (fun s_ w' => (w'.cell? ⟨gb2, 0, none⟩ = some (.slice A0_0 l0_0.length c0_0) ∧ w'.cell? ⟨gb2, 1, none⟩ = some (.slice A0_1 l0_1.length c0_1) ∧ w'.cell? ⟨gb2, 2, none⟩ = some (.slice A0_2 l0_2.length c0_2) ∧ w'.cell? ⟨gb2, 3, none⟩ = some (.int .i64 a0_3)) ∧ (Kd.R k55 55 w' w.heap.size (fun _ => True) s_.1 y762) ∧ (Kd.R k59 59 w' w.heap.size (fun _ => True) s_.2.1 y768) ∧ (w'.heap[gb2]? = some (.cells #[.slice A0_0 l0_0.length c0_0, .slice A0_1 l0_1.length c0_1, .slice A0_2 l0_2.length c0_2, .int .i64 a0_3] 26 (0, 0))) ∧ (w'.heap[s_.2.2]? = some (.cells #[.slice none 0 0, .slice none 0 0, .slice none 0 0, .int .i64 0] 26 (0, 0))) ∧ (w.heap.size ≤ s_.2.2) ∧ (w.heap.size ≤ s_.2.2) ∧ (gb2 ≠ s_.2.2) ∧ (s_.2.2 ≠ gb2) ∧ (Below w.heap.size w w')) ?_ ?_
  ·
   skip
   rintro ⟨v763, v769, gb3⟩ w15 ⟨hS_, h0_, h1_, h2_, h3_, h4_, h5_, h6_, h7_, h8_⟩
   try dsimp only at h0_ h1_ h2_ h3_ h4_ h5_ h6_ h7_ h8_
   have n0_ := Aside0.mk h0_
   have n1_ := Aside0.mk h1_
   have n2_ := Aside0.mk h2_
   have n3_ := Aside0.mk h3_
   have n4_ := Aside0.mk h4_
   have n5_ := Aside0.mk h5_
   have n6_ := Aside0.mk h6_
   have n7_ := Aside0.mk h7_
   have n8_ := Aside0.mk h8_
   clear BK2; clear HB
   clear h0_ h1_ h2_ h3_ h4_ h5_ h6_ h7_ h8_
   have HO764 := n0_
   have HO770 := n1_
   have BK2 := n2_
   have BK3 := n3_
   have GW3 := n4_
   have GE3 := n5_
   have NB2_3 := n6_
   have NB3_2 := n7_
   have HB := n8_
   clear n0_ n1_ n2_ n3_ n4_ n5_ n6_ n7_ n8_
   have hHeld : w15.cell? ⟨gb2, 0, none⟩ = some (.slice A0_0 l0_0.length c0_0) ∧ w15.cell? ⟨gb2, 1, none⟩ = some (.slice A0_1 l0_1.length c0_1) ∧ w15.cell? ⟨gb2, 2, none⟩ = some (.slice A0_2 l0_2.length c0_2) ∧ w15.cell? ⟨gb2, 3, none⟩ = some (.int .i64 a0_3) := hS_
   refine norm_ (a' := ?_) ?_ ?_
   rotate_left
   ·
    simp only [putAll, Act.put, List.setIfInBounds_toArray, List.set_cons_zero, List.set_cons_succ]
    rfl
   refine one_ (i := 3) (N := some 22) #[true, true, true, true, true, true, true, false, true, true, false, true, false] rfl rfl (one_of HT_.out (by kernel_rfl)) (by decide) (fun K hK => ?_)
   refine Kd.R_append_rows_step k55 (w0 := w) w.heap.size (by rfl) (.tmp 19) (.tmp 21) 23 55 (.agg #[(.int .i64 0)]) 8 rfl Try.underlying23 info55 rfl (by decide) (by omega) v763 y762 l0_1 _ _ _ (fun _ => True) (fun _ => False) rfl rfl ?aO ?aR (fun _ _ h => h) (fun _ h => h.elim) ?aF ?aB ?aS ?aL ?_
   (case aR => exact Kd.C_below HR0_1.out HB.out)
   (case aB => exact HB.out)
   (case aF => exact (fun _ _ => trivial))
   (case aO => exact HO764.out)
   (case aS => exact (below_size HB.out))
   (case aL => have := LMc4.out; omega)
   intro v766 w16 ho hb hg hat
   rw [← Ny765.out] at ho
   replace BK2 := Aside0.mk (blk_grown (g := gb2) (o := .cells #[.slice A0_0 l0_0.length c0_0, .slice A0_1 l0_1.length c0_1, .slice A0_2 l0_2.length c0_2, .int .i64 a0_3] 26 (0, 0)) BK2.out hg (Kd.R_ne HO764.out BK2.out (by decide))); replace HO770 := Aside0.mk (Kd.R_over' HO770.out (Kd.R_typed HO764.out) (by decide) hg); replace BK3 := Aside0.mk (blk_grown (g := gb3) (o := .cells #[.slice none 0 0, .slice none 0 0, .slice none 0 0, .int .i64 0] 26 (0, 0)) BK3.out hg (Kd.R_ne HO764.out BK3.out (by decide))); replace HB := Aside0.mk hb; have HO767 := Aside0.mk ho; clear HO764
   clear ho hb hg hat
   refine hK.out _ _ ⟨blk_cell BK2.out 0, blk_cell BK2.out 1, blk_cell BK2.out 2, blk_cell BK2.out 3⟩ (fun hHeld => ?_)
   clear hK K
   refine norm_ (a' := ?_) ?_ ?_
   rotate_left
   ·
    show Act.put _ (some 22) _ = _
    simp only [Act.put, List.setIfInBounds_toArray, List.set_cons_zero, List.set_cons_succ, i64_w, i32_w]
    rfl
   exact norm_ (by simp only [putAll, Act.put, List.setIfInBounds_toArray, List.set_cons_zero, List.set_cons_succ] <;> rfl) (hJ0_3_4_11 (v763, v766, v769, gb3) _ ⟨hHeld, HO767.out, HO770.out, BK2.out, BK3.out, GW3.out, GE3.out, NB2_3.out, NB3_2.out, HB.out⟩)
  intro hJ0_4_11
  refine join_ (σ := Value × Value) 5 #[true, true, true, true, false, true, true, false, true, true, false, false, false] (fun s_ => [(19, s_.1), (22, s_.2)]) (fun s_ w' => (w'.cell? ⟨gb2, 0, none⟩ = some (.slice A0_0 l0_0.length c0_0) ∧ w'.cell? ⟨gb2, 1, none⟩ = some (.slice A0_1 l0_1.length c0_1) ∧ w'.cell? ⟨gb2, 2, none⟩ = some (.slice A0_2 l0_2.length c0_2) ∧ w'.cell? ⟨gb2, 3, none⟩ = some (.int .i64 a0_3)) ∧ (Kd.R k55 55 w' w.heap.size (fun _ => True) s_.2 y765) ∧ (w'.heap[gb2]? = some (.cells #[.slice A0_0 l0_0.length c0_0, .slice A0_1 l0_1.length c0_1, .slice A0_2 l0_2.length c0_2, .int .i64 a0_3] 26 (0, 0))) ∧ (Below w.heap.size w w')) ?_ ?_
  ·
   skip
   rintro ⟨v763, v766⟩ w13 ⟨hS_, h0_, h1_, h2_⟩
   try dsimp only at h0_ h1_ h2_
   have n0_ := Aside0.mk h0_
   have n1_ := Aside0.mk h1_
   have n2_ := Aside0.mk h2_
   clear BK2; clear HB
   clear h0_ h1_ h2_
   have HO767 := n0_
   have BK2 := n1_
   have HB := n2_
   clear n0_ n1_ n2_
   have hHeld : w13.cell? ⟨gb2, 0, none⟩ = some (.slice A0_0 l0_0.length c0_0) ∧ w13.cell? ⟨gb2, 1, none⟩ = some (.slice A0_1 l0_1.length c0_1) ∧ w13.cell? ⟨gb2, 2, none⟩ = some (.slice A0_2 l0_2.length c0_2) ∧ w13.cell? ⟨gb2, 3, none⟩ = some (.int .i64 a0_3) := hS_
   refine norm_ (a' := ?_) ?_ ?_
   rotate_left
   ·
    simp only [putAll, Act.put, List.setIfInBounds_toArray, List.set_cons_zero, List.set_cons_succ]
    rfl
   refine two_ (i := 4) (j := 11) (Ni := some 23) (Nj := some 3) #[true, true, true, true, true, true, true, false, true, true, false, false, false] #[true, true, true, true, false, true, true, false, true, true, false, true, false] rfl rfl rfl rfl (two_of HT_.out (by kernel_rfl)) (by decide) (by decide) (fun K hK => ?_) (fun K hK => ?_)
   ·
    skip
    refine Kd.R_lit_step k59 _ 59 ?hg (N := 23) ?hd (xs := ([] : List (S59))) (inner := []) (ok := fun _ => True) (okp := fun _ => True) ?hr ?hp (fun _ hk => hk) trivial (Below.refl _ _) (Nat.le_refl _) (by simp) ?_; (case hd => rfl); (case hg => rfl); (case hr => first | (go_simp; done) | (go_simp; rfl)); (case hp => exact (Reps.none _ _))
    intro v769 w14 ho15 hb hg_ hnew_
    clear hg_ hnew_
    (first | rw [← Ny768.out] at ho15 | (simp only [Int.reduceToNat] at ho15; rw [← Ny768.out] at ho15))
    replace HO767 := Aside0.mk (Kd.R_below HO767.out hb); have HO770 := Aside0.mk (Kd.R_lower ho15 (below_size HB.out)); replace BK2 := mBb BK2 hb; replace HB := mSt HB hb
    clear hb ho15
    refine hK.out _ _ ⟨blk_cell BK2.out 0, blk_cell BK2.out 1, blk_cell BK2.out 2, blk_cell BK2.out 3⟩ (fun hHeld => ?_)
    clear hK K
    refine norm_ (a' := ?_) ?_ ?_
    rotate_left
    ·
     show Act.put _ (some 23) _ = _
     simp only [Act.put, List.setIfInBounds_toArray, List.set_cons_zero, List.set_cons_succ, i64_w, i32_w]
     rfl
    exact norm_ (by simp only [putAll, Act.put, List.setIfInBounds_toArray, List.set_cons_zero, List.set_cons_succ] <;> rfl) (hJ0_3_4 (v763, v766, v769) _ ⟨hHeld, HO767.out, HO770.out, BK2.out, HB.out⟩)
   ·
    skip
    refine box_step ?hg (N := 3) ?hd (cs := #[.slice none 0 0, .slice none 0 0, .slice none 0 0, .int .i64 0]) (t := 26) ?hr ?_; (case hd => rfl); (case hg => rfl); (case hr => first | (go_simp; done) | (go_simp; rfl))
    intro gb3 hg w14 hbox hb
    replace HO767 := Aside0.mk (Kd.R_below HO767.out hb); have BK3 := Aside0.mk hbox; have GW3 := mGw HB hg; have GE3 := GW3; replace HB := mSt HB hb; have NB2_3 := mNe BK2 hg; have NB3_2 := mSy NB2_3; replace BK2 := mBb BK2 hb
    clear hb hbox hg
    refine hK.out _ _ ⟨blk_cell BK2.out 0, blk_cell BK2.out 1, blk_cell BK2.out 2, blk_cell BK2.out 3⟩ (fun hHeld => ?_)
    clear hK K
    refine norm_ (a' := ?_) ?_ ?_
    rotate_left
    ·
     show Act.put _ (some 3) _ = _
     simp only [Act.put, List.setIfInBounds_toArray, List.set_cons_zero, List.set_cons_succ, i64_w, i32_w]
     rfl
    exact norm_ (by simp only [putAll, Act.put, List.setIfInBounds_toArray, List.set_cons_zero, List.set_cons_succ] <;> rfl) (hJ0_3_11 (v763, v766, gb3) _ ⟨hHeld, HO767.out, BK2.out, BK3.out, GW3.out, GE3.out, NB2_3.out, NB3_2.out, HB.out⟩)
  intro hJ0_3
  refine join_ (σ := Value × Value) 5 #[true, true, true, false, true, true, true, false, true, true, false, false, false] (fun s_ => [(19, s_.1), (23, s_.2)]) (fun s_ w' => (w'.cell? ⟨gb2, 0, none⟩ = some (.slice A0_0 l0_0.length c0_0) ∧ w'.cell? ⟨gb2, 1, none⟩ = some (.slice A0_1 l0_1.length c0_1) ∧ w'.cell? ⟨gb2, 2, none⟩ = some (.slice A0_2 l0_2.length c0_2) ∧ w'.cell? ⟨gb2, 3, none⟩ = some (.int .i64 a0_3)) ∧ (Kd.R k55 55 w' w.heap.size (fun _ => True) s_.1 y762) ∧ (Kd.R k59 59 w' w.heap.size (fun _ => True) s_.2 y768) ∧ (w'.heap[gb2]? = some (.cells #[.slice A0_0 l0_0.length c0_0, .slice A0_1 l0_1.length c0_1, .slice A0_2 l0_2.length c0_2, .int .i64 a0_3] 26 (0, 0))) ∧ (Below w.heap.size w w')) ?_ ?_
  ·
   skip
   rintro ⟨v763, v769⟩ w14 ⟨hS_, h0_, h1_, h2_, h3_⟩
   try dsimp only at h0_ h1_ h2_ h3_
   have n0_ := Aside0.mk h0_
   have n1_ := Aside0.mk h1_
   have n2_ := Aside0.mk h2_
   have n3_ := Aside0.mk h3_
   clear BK2; clear HB
   clear h0_ h1_ h2_ h3_
   have HO764 := n0_
   have HO770 := n1_
   have BK2 := n2_
   have HB := n3_
   clear n0_ n1_ n2_ n3_
   have hHeld : w14.cell? ⟨gb2, 0, none⟩ = some (.slice A0_0 l0_0.length c0_0) ∧ w14.cell? ⟨gb2, 1, none⟩ = some (.slice A0_1 l0_1.length c0_1) ∧ w14.cell? ⟨gb2, 2, none⟩ = some (.slice A0_2 l0_2.length c0_2) ∧ w14.cell? ⟨gb2, 3, none⟩ = some (.int .i64 a0_3) := hS_
   refine norm_ (a' := ?_) ?_ ?_
   rotate_left
   ·
    simp only [putAll, Act.put, List.setIfInBounds_toArray, List.set_cons_zero, List.set_cons_succ]
    rfl
   refine two_ (i := 3) (j := 11) (Ni := some 22) (Nj := some 3) #[true, true, true, true, true, true, true, false, true, true, false, false, false] #[true, true, true, false, true, true, true, false, true, true, false, true, false] rfl rfl rfl rfl (two_of HT_.out (by kernel_rfl)) (by decide) (by decide) (fun K hK => ?_) (fun K hK => ?_)
   ·
    skip
    refine Kd.R_append_rows_step k55 (w0 := w) w.heap.size (by rfl) (.tmp 19) (.tmp 21) 23 55 (.agg #[(.int .i64 0)]) 8 rfl Try.underlying23 info55 rfl (by decide) (by omega) v763 y762 l0_1 _ _ _ (fun _ => True) (fun _ => False) rfl rfl ?aO ?aR (fun _ _ h => h) (fun _ h => h.elim) ?aF ?aB ?aS ?aL ?_
    (case aR => exact Kd.C_below HR0_1.out HB.out)
    (case aB => exact HB.out)
    (case aF => exact (fun _ _ => trivial))
    (case aO => exact HO764.out)
    (case aS => exact (below_size HB.out))
    (case aL => have := LMc4.out; omega)
    intro v766 w15 ho hb hg hat
    rw [← Ny765.out] at ho
    replace BK2 := Aside0.mk (blk_grown (g := gb2) (o := .cells #[.slice A0_0 l0_0.length c0_0, .slice A0_1 l0_1.length c0_1, .slice A0_2 l0_2.length c0_2, .int .i64 a0_3] 26 (0, 0)) BK2.out hg (Kd.R_ne HO764.out BK2.out (by decide))); replace HO770 := Aside0.mk (Kd.R_over' HO770.out (Kd.R_typed HO764.out) (by decide) hg); replace HB := Aside0.mk hb; have HO767 := Aside0.mk ho; clear HO764
    clear ho hb hg hat
    refine hK.out _ _ ⟨blk_cell BK2.out 0, blk_cell BK2.out 1, blk_cell BK2.out 2, blk_cell BK2.out 3⟩ (fun hHeld => ?_)
    clear hK K
    refine norm_ (a' := ?_) ?_ ?_
    rotate_left
    ·
     show Act.put _ (some 22) _ = _
     simp only [Act.put, List.setIfInBounds_toArray, List.set_cons_zero, List.set_cons_succ, i64_w, i32_w]
     rfl
    exact norm_ (by simp only [putAll, Act.put, List.setIfInBounds_toArray, List.set_cons_zero, List.set_cons_succ] <;> rfl) (hJ0_3_4 (v763, v766, v769) _ ⟨hHeld, HO767.out, HO770.out, BK2.out, HB.out⟩)
   ·
    skip
    refine box_step ?hg (N := 3) ?hd (cs := #[.slice none 0 0, .slice none 0 0, .slice none 0 0, .int .i64 0]) (t := 26) ?hr ?_; (case hd => rfl); (case hg => rfl); (case hr => first | (go_simp; done) | (go_simp; rfl))
    intro gb3 hg w15 hbox hb
    replace HO764 := Aside0.mk (Kd.R_below HO764.out hb); replace HO770 := Aside0.mk (Kd.R_below HO770.out hb); have BK3 := Aside0.mk hbox; have GW3 := mGw HB hg; have GE3 := GW3; replace HB := mSt HB hb; have NB2_3 := mNe BK2 hg; have NB3_2 := mSy NB2_3; replace BK2 := mBb BK2 hb
    clear hb hbox hg
    refine hK.out _ _ ⟨blk_cell BK2.out 0, blk_cell BK2.out 1, blk_cell BK2.out 2, blk_cell BK2.out 3⟩ (fun hHeld => ?_)
    clear hK K
    refine norm_ (a' := ?_) ?_ ?_
    rotate_left
    ·
     show Act.put _ (some 3) _ = _
     simp only [Act.put, List.setIfInBounds_toArray, List.set_cons_zero, List.set_cons_succ, i64_w, i32_w]
     rfl
    exact norm_ (by simp only [putAll, Act.put, List.setIfInBounds_toArray, List.set_cons_zero, List.set_cons_succ] <;> rfl) (hJ0_4_11 (v763, v769, gb3) _ ⟨hHeld, HO764.out, HO770.out, BK2.out, BK3.out, GW3.out, GE3.out, NB2_3.out, NB3_2.out, HB.out⟩)
  intro hJ0_4
  refine join_ (σ := Value × Nat) 5 #[true, true, true, false, false, true, true, false, true, true, false, true, false] (fun s_ => [(19, s_.1), (3, .pointer (some ⟨s_.2, 0, none⟩))]) (fun s_ w' => (w'.cell? ⟨gb2, 0, none⟩ = some (.slice A0_0 l0_0.length c0_0) ∧ w'.cell? ⟨gb2, 1, none⟩ = some (.slice A0_1 l0_1.length c0_1) ∧ w'.cell? ⟨gb2, 2, none⟩ = some (.slice A0_2 l0_2.length c0_2) ∧ w'.cell? ⟨gb2, 3, none⟩ = some (.int .i64 a0_3)) ∧ (Kd.R k55 55 w' w.heap.size (fun _ => True) s_.1 y762) ∧ (w'.heap[gb2]? = some (.cells #[.slice A0_0 l0_0.length c0_0, .slice A0_1 l0_1.length c0_1, .slice A0_2 l0_2.length c0_2, .int .i64 a0_3] 26 (0, 0))) ∧ (w'.heap[s_.2]? = some (.cells #[.slice none 0 0, .slice none 0 0, .slice none 0 0, .int .i64 0] 26 (0, 0))) ∧ (w.heap.size ≤ s_.2) ∧ (w.heap.size ≤ s_.2) ∧ (gb2 ≠ s_.2) ∧ (s_.2 ≠ gb2) ∧ (Below w.heap.size w w')) ?_ ?_
  ·
   skip
   rintro ⟨v763, gb3⟩ w13 ⟨hS_, h0_, h1_, h2_, h3_, h4_, h5_, h6_, h7_⟩
   try dsimp only at h0_ h1_ h2_ h3_ h4_ h5_ h6_ h7_
   have n0_ := Aside0.mk h0_
   have n1_ := Aside0.mk h1_
   have n2_ := Aside0.mk h2_
   have n3_ := Aside0.mk h3_
   have n4_ := Aside0.mk h4_
   have n5_ := Aside0.mk h5_
   have n6_ := Aside0.mk h6_
   have n7_ := Aside0.mk h7_
   clear BK2; clear HB
   clear h0_ h1_ h2_ h3_ h4_ h5_ h6_ h7_
   have HO764 := n0_
   have BK2 := n1_
   have BK3 := n2_
   have GW3 := n3_
   have GE3 := n4_
   have NB2_3 := n5_
   have NB3_2 := n6_
   have HB := n7_
   clear n0_ n1_ n2_ n3_ n4_ n5_ n6_ n7_
   have hHeld : w13.cell? ⟨gb2, 0, none⟩ = some (.slice A0_0 l0_0.length c0_0) ∧ w13.cell? ⟨gb2, 1, none⟩ = some (.slice A0_1 l0_1.length c0_1) ∧ w13.cell? ⟨gb2, 2, none⟩ = some (.slice A0_2 l0_2.length c0_2) ∧ w13.cell? ⟨gb2, 3, none⟩ = some (.int .i64 a0_3) := hS_
   refine norm_ (a' := ?_) ?_ ?_
   rotate_left
   ·
    simp only [putAll, Act.put, List.setIfInBounds_toArray, List.set_cons_zero, List.set_cons_succ]
    rfl
   refine two_ (i := 3) (j := 4) (Ni := some 22) (Nj := some 23) #[true, true, true, true, false, true, true, false, true, true, false, true, false] #[true, true, true, false, true, true, true, false, true, true, false, true, false] rfl rfl rfl rfl (two_of HT_.out (by kernel_rfl)) (by decide) (by decide) (fun K hK => ?_) (fun K hK => ?_)
   ·
    skip
    refine Kd.R_append_rows_step k55 (w0 := w) w.heap.size (by rfl) (.tmp 19) (.tmp 21) 23 55 (.agg #[(.int .i64 0)]) 8 rfl Try.underlying23 info55 rfl (by decide) (by omega) v763 y762 l0_1 _ _ _ (fun _ => True) (fun _ => False) rfl rfl ?aO ?aR (fun _ _ h => h) (fun _ h => h.elim) ?aF ?aB ?aS ?aL ?_
    (case aR => exact Kd.C_below HR0_1.out HB.out)
    (case aB => exact HB.out)
    (case aF => exact (fun _ _ => trivial))
    (case aO => exact HO764.out)
    (case aS => exact (below_size HB.out))
    (case aL => have := LMc4.out; omega)
    intro v766 w14 ho hb hg hat
    rw [← Ny765.out] at ho
    replace BK2 := Aside0.mk (blk_grown (g := gb2) (o := .cells #[.slice A0_0 l0_0.length c0_0, .slice A0_1 l0_1.length c0_1, .slice A0_2 l0_2.length c0_2, .int .i64 a0_3] 26 (0, 0)) BK2.out hg (Kd.R_ne HO764.out BK2.out (by decide))); replace BK3 := Aside0.mk (blk_grown (g := gb3) (o := .cells #[.slice none 0 0, .slice none 0 0, .slice none 0 0, .int .i64 0] 26 (0, 0)) BK3.out hg (Kd.R_ne HO764.out BK3.out (by decide))); replace HB := Aside0.mk hb; have HO767 := Aside0.mk ho; clear HO764
    clear ho hb hg hat
    refine hK.out _ _ ⟨blk_cell BK2.out 0, blk_cell BK2.out 1, blk_cell BK2.out 2, blk_cell BK2.out 3⟩ (fun hHeld => ?_)
    clear hK K
    refine norm_ (a' := ?_) ?_ ?_
    rotate_left
    ·
     show Act.put _ (some 22) _ = _
     simp only [Act.put, List.setIfInBounds_toArray, List.set_cons_zero, List.set_cons_succ, i64_w, i32_w]
     rfl
    exact norm_ (by simp only [putAll, Act.put, List.setIfInBounds_toArray, List.set_cons_zero, List.set_cons_succ] <;> rfl) (hJ0_3_11 (v763, v766, gb3) _ ⟨hHeld, HO767.out, BK2.out, BK3.out, GW3.out, GE3.out, NB2_3.out, NB3_2.out, HB.out⟩)
   ·
    skip
    refine Kd.R_lit_step k59 _ 59 ?hg (N := 23) ?hd (xs := ([] : List (S59))) (inner := []) (ok := fun _ => True) (okp := fun _ => True) ?hr ?hp (fun _ hk => hk) trivial (Below.refl _ _) (Nat.le_refl _) (by simp) ?_; (case hd => rfl); (case hg => rfl); (case hr => first | (go_simp; done) | (go_simp; rfl)); (case hp => exact (Reps.none _ _))
    intro v769 w14 ho15 hb hg_ hnew_
    clear hg_ hnew_
    (first | rw [← Ny768.out] at ho15 | (simp only [Int.reduceToNat] at ho15; rw [← Ny768.out] at ho15))
    replace HO764 := Aside0.mk (Kd.R_below HO764.out hb); have HO770 := Aside0.mk (Kd.R_lower ho15 (below_size HB.out)); replace BK2 := mBb BK2 hb; replace BK3 := mBb BK3 hb; replace HB := mSt HB hb
    clear hb ho15
    refine hK.out _ _ ⟨blk_cell BK2.out 0, blk_cell BK2.out 1, blk_cell BK2.out 2, blk_cell BK2.out 3⟩ (fun hHeld => ?_)
    clear hK K
    refine norm_ (a' := ?_) ?_ ?_
    rotate_left
    ·
     show Act.put _ (some 23) _ = _
     simp only [Act.put, List.setIfInBounds_toArray, List.set_cons_zero, List.set_cons_succ, i64_w, i32_w]
     rfl
    exact norm_ (by simp only [putAll, Act.put, List.setIfInBounds_toArray, List.set_cons_zero, List.set_cons_succ] <;> rfl) (hJ0_4_11 (v763, v769, gb3) _ ⟨hHeld, HO764.out, HO770.out, BK2.out, BK3.out, GW3.out, GE3.out, NB2_3.out, NB3_2.out, HB.out⟩)
  intro hJ0_11
  refine join_ (σ := Value × Nat) 5 #[false, true, true, false, true, true, true, false, true, true, false, true, false] (fun s_ => [(23, s_.1), (3, .pointer (some ⟨s_.2, 0, none⟩))]) (fun s_ w' => (w'.cell? ⟨gb2, 0, none⟩ = some (.slice A0_0 l0_0.length c0_0) ∧ w'.cell? ⟨gb2, 1, none⟩ = some (.slice A0_1 l0_1.length c0_1) ∧ w'.cell? ⟨gb2, 2, none⟩ = some (.slice A0_2 l0_2.length c0_2) ∧ w'.cell? ⟨gb2, 3, none⟩ = some (.int .i64 a0_3)) ∧ (Kd.R k59 59 w' w.heap.size (fun _ => True) s_.1 y768) ∧ (w'.heap[gb2]? = some (.cells #[.slice A0_0 l0_0.length c0_0, .slice A0_1 l0_1.length c0_1, .slice A0_2 l0_2.length c0_2, .int .i64 a0_3] 26 (0, 0))) ∧ (w'.heap[s_.2]? = some (.cells #[.slice none 0 0, .slice none 0 0, .slice none 0 0, .int .i64 0] 26 (0, 0))) ∧ (w.heap.size ≤ s_.2) ∧ (w.heap.size ≤ s_.2) ∧ (gb2 ≠ s_.2) ∧ (s_.2 ≠ gb2) ∧ (Below w.heap.size w w')) ?_ ?_
  ·
   skip
   rintro ⟨v769, gb3⟩ w13 ⟨hS_, h0_, h1_, h2_, h3_, h4_, h5_, h6_, h7_⟩
   try dsimp only at h0_ h1_ h2_ h3_ h4_ h5_ h6_ h7_
   have n0_ := Aside0.mk h0_
   have n1_ := Aside0.mk h1_
   have n2_ := Aside0.mk h2_
   have n3_ := Aside0.mk h3_
   have n4_ := Aside0.mk h4_
   have n5_ := Aside0.mk h5_
   have n6_ := Aside0.mk h6_
   have n7_ := Aside0.mk h7_
   clear BK2; clear HB
   clear h0_ h1_ h2_ h3_ h4_ h5_ h6_ h7_
   have HO770 := n0_
   have BK2 := n1_
   have BK3 := n2_
   have GW3 := n3_
   have GE3 := n4_
   have NB2_3 := n5_
   have NB3_2 := n6_
   have HB := n7_
   clear n0_ n1_ n2_ n3_ n4_ n5_ n6_ n7_
   have hHeld : w13.cell? ⟨gb2, 0, none⟩ = some (.slice A0_0 l0_0.length c0_0) ∧ w13.cell? ⟨gb2, 1, none⟩ = some (.slice A0_1 l0_1.length c0_1) ∧ w13.cell? ⟨gb2, 2, none⟩ = some (.slice A0_2 l0_2.length c0_2) ∧ w13.cell? ⟨gb2, 3, none⟩ = some (.int .i64 a0_3) := hS_
   refine norm_ (a' := ?_) ?_ ?_
   rotate_left
   ·
    simp only [putAll, Act.put, List.setIfInBounds_toArray, List.set_cons_zero, List.set_cons_succ]
    rfl
   refine one_ (i := 0) (N := some 19) #[true, true, true, false, true, true, true, false, true, true, false, true, false] rfl rfl (one_of HT_.out (by kernel_rfl)) (by decide) (fun K hK => ?_)
   refine Kd.R_lit_step k55 _ 55 ?hg (N := 19) ?hd (xs := ([] : List (S55))) (inner := []) (ok := fun _ => True) (okp := fun _ => True) ?hr ?hp (fun _ hk => hk) trivial (Below.refl _ _) (Nat.le_refl _) (by simp) ?_; (case hd => rfl); (case hg => rfl); (case hr => first | (go_simp; done) | (go_simp; rfl)); (case hp => exact (Reps.none _ _))
   intro v763 w14 ho15 hb hg_ hnew_
   clear hg_ hnew_
   (first | rw [← Ny762.out] at ho15 | (simp only [Int.reduceToNat] at ho15; rw [← Ny762.out] at ho15))
   replace HO770 := Aside0.mk (Kd.R_below HO770.out hb); have HO764 := Aside0.mk (Kd.R_lower ho15 (below_size HB.out)); replace BK2 := mBb BK2 hb; replace BK3 := mBb BK3 hb; replace HB := mSt HB hb
   clear hb ho15
   refine hK.out _ _ ⟨blk_cell BK2.out 0, blk_cell BK2.out 1, blk_cell BK2.out 2, blk_cell BK2.out 3⟩ (fun hHeld => ?_)
   clear hK K
   refine norm_ (a' := ?_) ?_ ?_
   rotate_left
   ·
    show Act.put _ (some 19) _ = _
    simp only [Act.put, List.setIfInBounds_toArray, List.set_cons_zero, List.set_cons_succ, i64_w, i32_w]
    rfl
   exact norm_ (by simp only [putAll, Act.put, List.setIfInBounds_toArray, List.set_cons_zero, List.set_cons_succ] <;> rfl) (hJ0_4_11 (v763, v769, gb3) _ ⟨hHeld, HO764.out, HO770.out, BK2.out, BK3.out, GW3.out, GE3.out, NB2_3.out, NB3_2.out, HB.out⟩)
  intro hJ4_11
  refine join_ (σ := Value) 6 #[true, true, true, false, false, true, true, false, true, true, false, false, false] (fun s_ => [(19, s_)]) (fun s_ w' => (w'.cell? ⟨gb2, 0, none⟩ = some (.slice A0_0 l0_0.length c0_0) ∧ w'.cell? ⟨gb2, 1, none⟩ = some (.slice A0_1 l0_1.length c0_1) ∧ w'.cell? ⟨gb2, 2, none⟩ = some (.slice A0_2 l0_2.length c0_2) ∧ w'.cell? ⟨gb2, 3, none⟩ = some (.int .i64 a0_3)) ∧ (Kd.R k55 55 w' w.heap.size (fun _ => True) s_ y762) ∧ (w'.heap[gb2]? = some (.cells #[.slice A0_0 l0_0.length c0_0, .slice A0_1 l0_1.length c0_1, .slice A0_2 l0_2.length c0_2, .int .i64 a0_3] 26 (0, 0))) ∧ (Below w.heap.size w w')) ?_ ?_
  ·
   skip
   rintro v763 w12 ⟨hS_, h0_, h1_, h2_⟩
   have n0_ := Aside0.mk h0_
   have n1_ := Aside0.mk h1_
   have n2_ := Aside0.mk h2_
   clear BK2; clear HB
   clear h0_ h1_ h2_
   have HO764 := n0_
   have BK2 := n1_
   have HB := n2_
   clear n0_ n1_ n2_
   have hHeld : w12.cell? ⟨gb2, 0, none⟩ = some (.slice A0_0 l0_0.length c0_0) ∧ w12.cell? ⟨gb2, 1, none⟩ = some (.slice A0_1 l0_1.length c0_1) ∧ w12.cell? ⟨gb2, 2, none⟩ = some (.slice A0_2 l0_2.length c0_2) ∧ w12.cell? ⟨gb2, 3, none⟩ = some (.int .i64 a0_3) := hS_
   refine norm_ (a' := ?_) ?_ ?_
   rotate_left
   ·
    simp only [putAll, Act.put, List.setIfInBounds_toArray, List.set_cons_zero, List.set_cons_succ]
    rfl
   refine three_ (i := 3) (j := 4) (k := 11) (Ni := some 22) (Nj := some 23) (Nk := some 3) #[true, true, true, true, false, true, true, false, true, true, false, false, false] #[true, true, true, false, true, true, true, false, true, true, false, false, false] #[true, true, true, false, false, true, true, false, true, true, false, true, false] rfl rfl rfl rfl rfl rfl (three_of HT_.out (by kernel_rfl)) (by decide) (by decide) (by decide) (fun K hK => ?_) (fun K hK => ?_) (fun K hK => ?_)
   ·
    skip
    refine Kd.R_append_rows_step k55 (w0 := w) w.heap.size (by rfl) (.tmp 19) (.tmp 21) 23 55 (.agg #[(.int .i64 0)]) 8 rfl Try.underlying23 info55 rfl (by decide) (by omega) v763 y762 l0_1 _ _ _ (fun _ => True) (fun _ => False) rfl rfl ?aO ?aR (fun _ _ h => h) (fun _ h => h.elim) ?aF ?aB ?aS ?aL ?_
    (case aR => exact Kd.C_below HR0_1.out HB.out)
    (case aB => exact HB.out)
    (case aF => exact (fun _ _ => trivial))
    (case aO => exact HO764.out)
    (case aS => exact (below_size HB.out))
    (case aL => have := LMc4.out; omega)
    intro v766 w13 ho hb hg hat
    rw [← Ny765.out] at ho
    replace BK2 := Aside0.mk (blk_grown (g := gb2) (o := .cells #[.slice A0_0 l0_0.length c0_0, .slice A0_1 l0_1.length c0_1, .slice A0_2 l0_2.length c0_2, .int .i64 a0_3] 26 (0, 0)) BK2.out hg (Kd.R_ne HO764.out BK2.out (by decide))); replace HB := Aside0.mk hb; have HO767 := Aside0.mk ho; clear HO764
    clear ho hb hg hat
    refine hK.out _ _ ⟨blk_cell BK2.out 0, blk_cell BK2.out 1, blk_cell BK2.out 2, blk_cell BK2.out 3⟩ (fun hHeld => ?_)
    clear hK K
    refine norm_ (a' := ?_) ?_ ?_
    rotate_left
    ·
     show Act.put _ (some 22) _ = _
     simp only [Act.put, List.setIfInBounds_toArray, List.set_cons_zero, List.set_cons_succ, i64_w, i32_w]
     rfl
    exact norm_ (by simp only [putAll, Act.put, List.setIfInBounds_toArray, List.set_cons_zero, List.set_cons_succ] <;> rfl) (hJ0_3 (v763, v766) _ ⟨hHeld, HO767.out, BK2.out, HB.out⟩)
   ·
    skip
    refine Kd.R_lit_step k59 _ 59 ?hg (N := 23) ?hd (xs := ([] : List (S59))) (inner := []) (ok := fun _ => True) (okp := fun _ => True) ?hr ?hp (fun _ hk => hk) trivial (Below.refl _ _) (Nat.le_refl _) (by simp) ?_; (case hd => rfl); (case hg => rfl); (case hr => first | (go_simp; done) | (go_simp; rfl)); (case hp => exact (Reps.none _ _))
    intro v769 w13 ho14 hb hg_ hnew_
    clear hg_ hnew_
    (first | rw [← Ny768.out] at ho14 | (simp only [Int.reduceToNat] at ho14; rw [← Ny768.out] at ho14))
    replace HO764 := Aside0.mk (Kd.R_below HO764.out hb); have HO770 := Aside0.mk (Kd.R_lower ho14 (below_size HB.out)); replace BK2 := mBb BK2 hb; replace HB := mSt HB hb
    clear hb ho14
    refine hK.out _ _ ⟨blk_cell BK2.out 0, blk_cell BK2.out 1, blk_cell BK2.out 2, blk_cell BK2.out 3⟩ (fun hHeld => ?_)
    clear hK K
    refine norm_ (a' := ?_) ?_ ?_
    rotate_left
    ·
     show Act.put _ (some 23) _ = _
     simp only [Act.put, List.setIfInBounds_toArray, List.set_cons_zero, List.set_cons_succ, i64_w, i32_w]
     rfl
    exact norm_ (by simp only [putAll, Act.put, List.setIfInBounds_toArray, List.set_cons_zero, List.set_cons_succ] <;> rfl) (hJ0_4 (v763, v769) _ ⟨hHeld, HO764.out, HO770.out, BK2.out, HB.out⟩)
   ·
    skip
    refine box_step ?hg (N := 3) ?hd (cs := #[.slice none 0 0, .slice none 0 0, .slice none 0 0, .int .i64 0]) (t := 26) ?hr ?_; (case hd => rfl); (case hg => rfl); (case hr => first | (go_simp; done) | (go_simp; rfl))
    intro gb3 hg w13 hbox hb
    replace HO764 := Aside0.mk (Kd.R_below HO764.out hb); have BK3 := Aside0.mk hbox; have GW3 := mGw HB hg; have GE3 := GW3; replace HB := mSt HB hb; have NB2_3 := mNe BK2 hg; have NB3_2 := mSy NB2_3; replace BK2 := mBb BK2 hb
    clear hb hbox hg
    refine hK.out _ _ ⟨blk_cell BK2.out 0, blk_cell BK2.out 1, blk_cell BK2.out 2, blk_cell BK2.out 3⟩ (fun hHeld => ?_)
    clear hK K
    refine norm_ (a' := ?_) ?_ ?_
    rotate_left
    ·
     show Act.put _ (some 3) _ = _
     simp only [Act.put, List.setIfInBounds_toArray, List.set_cons_zero, List.set_cons_succ, i64_w, i32_w]
     rfl
    exact norm_ (by simp only [putAll, Act.put, List.setIfInBounds_toArray, List.set_cons_zero, List.set_cons_succ] <;> rfl) (hJ0_11 (v763, gb3) _ ⟨hHeld, HO764.out, BK2.out, BK3.out, GW3.out, GE3.out, NB2_3.out, NB3_2.out, HB.out⟩)
  intro hJ0
  refine join_ (σ := Value) 6 #[false, true, true, false, true, true, true, false, true, true, false, false, false] (fun s_ => [(23, s_)]) (fun s_ w' => (w'.cell? ⟨gb2, 0, none⟩ = some (.slice A0_0 l0_0.length c0_0) ∧ w'.cell? ⟨gb2, 1, none⟩ = some (.slice A0_1 l0_1.length c0_1) ∧ w'.cell? ⟨gb2, 2, none⟩ = some (.slice A0_2 l0_2.length c0_2) ∧ w'.cell? ⟨gb2, 3, none⟩ = some (.int .i64 a0_3)) ∧ (Kd.R k59 59 w' w.heap.size (fun _ => True) s_ y768) ∧ (w'.heap[gb2]? = some (.cells #[.slice A0_0 l0_0.length c0_0, .slice A0_1 l0_1.length c0_1, .slice A0_2 l0_2.length c0_2, .int .i64 a0_3] 26 (0, 0))) ∧ (Below w.heap.size w w')) ?_ ?_
  ·
   skip
   rintro v769 w12 ⟨hS_, h0_, h1_, h2_⟩
   have n0_ := Aside0.mk h0_
   have n1_ := Aside0.mk h1_
   have n2_ := Aside0.mk h2_
   clear BK2; clear HB
   clear h0_ h1_ h2_
   have HO770 := n0_
   have BK2 := n1_
   have HB := n2_
   clear n0_ n1_ n2_
   have hHeld : w12.cell? ⟨gb2, 0, none⟩ = some (.slice A0_0 l0_0.length c0_0) ∧ w12.cell? ⟨gb2, 1, none⟩ = some (.slice A0_1 l0_1.length c0_1) ∧ w12.cell? ⟨gb2, 2, none⟩ = some (.slice A0_2 l0_2.length c0_2) ∧ w12.cell? ⟨gb2, 3, none⟩ = some (.int .i64 a0_3) := hS_
   refine norm_ (a' := ?_) ?_ ?_
   rotate_left
   ·
    simp only [putAll, Act.put, List.setIfInBounds_toArray, List.set_cons_zero, List.set_cons_succ]
    rfl
   refine two_ (i := 0) (j := 11) (Ni := some 19) (Nj := some 3) #[true, true, true, false, true, true, true, false, true, true, false, false, false] #[false, true, true, false, true, true, true, false, true, true, false, true, false] rfl rfl rfl rfl (two_of HT_.out (by kernel_rfl)) (by decide) (by decide) (fun K hK => ?_) (fun K hK => ?_)
   ·
    skip
    refine Kd.R_lit_step k55 _ 55 ?hg (N := 19) ?hd (xs := ([] : List (S55))) (inner := []) (ok := fun _ => True) (okp := fun _ => True) ?hr ?hp (fun _ hk => hk) trivial (Below.refl _ _) (Nat.le_refl _) (by simp) ?_; (case hd => rfl); (case hg => rfl); (case hr => first | (go_simp; done) | (go_simp; rfl)); (case hp => exact (Reps.none _ _))
    intro v763 w13 ho14 hb hg_ hnew_
    clear hg_ hnew_
    (first | rw [← Ny762.out] at ho14 | (simp only [Int.reduceToNat] at ho14; rw [← Ny762.out] at ho14))
    replace HO770 := Aside0.mk (Kd.R_below HO770.out hb); have HO764 := Aside0.mk (Kd.R_lower ho14 (below_size HB.out)); replace BK2 := mBb BK2 hb; replace HB := mSt HB hb
    clear hb ho14
    refine hK.out _ _ ⟨blk_cell BK2.out 0, blk_cell BK2.out 1, blk_cell BK2.out 2, blk_cell BK2.out 3⟩ (fun hHeld => ?_)
    clear hK K
    refine norm_ (a' := ?_) ?_ ?_
    rotate_left
    ·
     show Act.put _ (some 19) _ = _
     simp only [Act.put, List.setIfInBounds_toArray, List.set_cons_zero, List.set_cons_succ, i64_w, i32_w]
     rfl
    exact norm_ (by simp only [putAll, Act.put, List.setIfInBounds_toArray, List.set_cons_zero, List.set_cons_succ] <;> rfl) (hJ0_4 (v763, v769) _ ⟨hHeld, HO764.out, HO770.out, BK2.out, HB.out⟩)
   ·
    skip
    refine box_step ?hg (N := 3) ?hd (cs := #[.slice none 0 0, .slice none 0 0, .slice none 0 0, .int .i64 0]) (t := 26) ?hr ?_; (case hd => rfl); (case hg => rfl); (case hr => first | (go_simp; done) | (go_simp; rfl))
    intro gb3 hg w13 hbox hb
    replace HO770 := Aside0.mk (Kd.R_below HO770.out hb); have BK3 := Aside0.mk hbox; have GW3 := mGw HB hg; have GE3 := GW3; replace HB := mSt HB hb; have NB2_3 := mNe BK2 hg; have NB3_2 := mSy NB2_3; replace BK2 := mBb BK2 hb
    clear hb hbox hg
    refine hK.out _ _ ⟨blk_cell BK2.out 0, blk_cell BK2.out 1, blk_cell BK2.out 2, blk_cell BK2.out 3⟩ (fun hHeld => ?_)
    clear hK K
    refine norm_ (a' := ?_) ?_ ?_
    rotate_left
    ·
     show Act.put _ (some 3) _ = _
     simp only [Act.put, List.setIfInBounds_toArray, List.set_cons_zero, List.set_cons_succ, i64_w, i32_w]
     rfl
    exact norm_ (by simp only [putAll, Act.put, List.setIfInBounds_toArray, List.set_cons_zero, List.set_cons_succ] <;> rfl) (hJ4_11 (v769, gb3) _ ⟨hHeld, HO770.out, BK2.out, BK3.out, GW3.out, GE3.out, NB2_3.out, NB3_2.out, HB.out⟩)
  intro hJ4
  refine join_ (σ := Nat) 6 #[false, true, true, false, false, true, true, false, true, true, false, true, false] (fun s_ => [(3, .pointer (some ⟨s_, 0, none⟩))]) (fun s_ w' => (w'.cell? ⟨gb2, 0, none⟩ = some (.slice A0_0 l0_0.length c0_0) ∧ w'.cell? ⟨gb2, 1, none⟩ = some (.slice A0_1 l0_1.length c0_1) ∧ w'.cell? ⟨gb2, 2, none⟩ = some (.slice A0_2 l0_2.length c0_2) ∧ w'.cell? ⟨gb2, 3, none⟩ = some (.int .i64 a0_3)) ∧ (w'.heap[gb2]? = some (.cells #[.slice A0_0 l0_0.length c0_0, .slice A0_1 l0_1.length c0_1, .slice A0_2 l0_2.length c0_2, .int .i64 a0_3] 26 (0, 0))) ∧ (w'.heap[s_]? = some (.cells #[.slice none 0 0, .slice none 0 0, .slice none 0 0, .int .i64 0] 26 (0, 0))) ∧ (w.heap.size ≤ s_) ∧ (w.heap.size ≤ s_) ∧ (gb2 ≠ s_) ∧ (s_ ≠ gb2) ∧ (Below w.heap.size w w')) ?_ ?_
  rotate_left
  ·
   intro hJ11
   refine three_ (i := 0) (j := 4) (k := 11) (Ni := some 19) (Nj := some 23) (Nk := some 3) #[true, true, true, false, false, true, true, false, true, true, false, false, false] #[false, true, true, false, true, true, true, false, true, true, false, false, false] #[false, true, true, false, false, true, true, false, true, true, false, true, false] rfl rfl rfl rfl rfl rfl (three_of HT_.out (by kernel_rfl)) (by decide) (by decide) (by decide) (fun K hK => ?_) (fun K hK => ?_) (fun K hK => ?_)
   ·
    skip
    refine Kd.R_lit_step k55 _ 55 ?hg (N := 19) ?hd (xs := ([] : List (S55))) (inner := []) (ok := fun _ => True) (okp := fun _ => True) ?hr ?hp (fun _ hk => hk) trivial (Below.refl _ _) (Nat.le_refl _) (by simp) ?_; (case hd => rfl); (case hg => rfl); (case hr => first | (go_simp; done) | (go_simp; rfl)); (case hp => exact (Reps.none _ _))
    intro v763 w10 ho11 hb hg_ hnew_
    clear hg_ hnew_
    (first | rw [← Ny762.out] at ho11 | (simp only [Int.reduceToNat] at ho11; rw [← Ny762.out] at ho11))
    have HO764 := Aside0.mk (Kd.R_lower ho11 (below_size HB.out)); replace BK2 := mBb BK2 hb; replace HB := mSt HB hb
    clear hb ho11
    refine hK.out _ _ ⟨blk_cell BK2.out 0, blk_cell BK2.out 1, blk_cell BK2.out 2, blk_cell BK2.out 3⟩ (fun hHeld => ?_)
    clear hK K
    refine norm_ (a' := ?_) ?_ ?_
    rotate_left
    ·
     show Act.put _ (some 19) _ = _
     simp only [Act.put, List.setIfInBounds_toArray, List.set_cons_zero, List.set_cons_succ, i64_w, i32_w]
     rfl
    exact norm_ (by simp only [putAll, Act.put, List.setIfInBounds_toArray, List.set_cons_zero, List.set_cons_succ] <;> rfl) (hJ0 (v763) _ ⟨hHeld, HO764.out, BK2.out, HB.out⟩)
   ·
    skip
    refine Kd.R_lit_step k59 _ 59 ?hg (N := 23) ?hd (xs := ([] : List (S59))) (inner := []) (ok := fun _ => True) (okp := fun _ => True) ?hr ?hp (fun _ hk => hk) trivial (Below.refl _ _) (Nat.le_refl _) (by simp) ?_; (case hd => rfl); (case hg => rfl); (case hr => first | (go_simp; done) | (go_simp; rfl)); (case hp => exact (Reps.none _ _))
    intro v769 w10 ho11 hb hg_ hnew_
    clear hg_ hnew_
    (first | rw [← Ny768.out] at ho11 | (simp only [Int.reduceToNat] at ho11; rw [← Ny768.out] at ho11))
    have HO770 := Aside0.mk (Kd.R_lower ho11 (below_size HB.out)); replace BK2 := mBb BK2 hb; replace HB := mSt HB hb
    clear hb ho11
    refine hK.out _ _ ⟨blk_cell BK2.out 0, blk_cell BK2.out 1, blk_cell BK2.out 2, blk_cell BK2.out 3⟩ (fun hHeld => ?_)
    clear hK K
    refine norm_ (a' := ?_) ?_ ?_
    rotate_left
    ·
     show Act.put _ (some 23) _ = _
     simp only [Act.put, List.setIfInBounds_toArray, List.set_cons_zero, List.set_cons_succ, i64_w, i32_w]
     rfl
    exact norm_ (by simp only [putAll, Act.put, List.setIfInBounds_toArray, List.set_cons_zero, List.set_cons_succ] <;> rfl) (hJ4 (v769) _ ⟨hHeld, HO770.out, BK2.out, HB.out⟩)
   ·
    skip
    refine box_step ?hg (N := 3) ?hd (cs := #[.slice none 0 0, .slice none 0 0, .slice none 0 0, .int .i64 0]) (t := 26) ?hr ?_; (case hd => rfl); (case hg => rfl); (case hr => first | (go_simp; done) | (go_simp; rfl))
    intro gb3 hg w10 hbox hb
    have BK3 := Aside0.mk hbox; have GW3 := mGw HB hg; have GE3 := GW3; replace HB := mSt HB hb; have NB2_3 := mNe BK2 hg; have NB3_2 := mSy NB2_3; replace BK2 := mBb BK2 hb
    clear hb hbox hg
    refine hK.out _ _ ⟨blk_cell BK2.out 0, blk_cell BK2.out 1, blk_cell BK2.out 2, blk_cell BK2.out 3⟩ (fun hHeld => ?_)
    clear hK K
    refine norm_ (a' := ?_) ?_ ?_
    rotate_left
    ·
     show Act.put _ (some 3) _ = _
     simp only [Act.put, List.setIfInBounds_toArray, List.set_cons_zero, List.set_cons_succ, i64_w, i32_w]
     rfl
    exact norm_ (by simp only [putAll, Act.put, List.setIfInBounds_toArray, List.set_cons_zero, List.set_cons_succ] <;> rfl) (hJ11 (gb3) _ ⟨hHeld, BK2.out, BK3.out, GW3.out, GE3.out, NB2_3.out, NB3_2.out, HB.out⟩)
  skip
  rintro gb3 w11 ⟨hS_, h0_, h1_, h2_, h3_, h4_, h5_, h6_⟩
  have n0_ := Aside0.mk h0_
  have n1_ := Aside0.mk h1_
  have n2_ := Aside0.mk h2_
  have n3_ := Aside0.mk h3_
  have n4_ := Aside0.mk h4_
  have n5_ := Aside0.mk h5_
  have n6_ := Aside0.mk h6_
  clear BK2; clear HB
  clear h0_ h1_ h2_ h3_ h4_ h5_ h6_
  have BK2 := n0_
  have BK3 := n1_
  have GW3 := n2_
  have GE3 := n3_
  have NB2_3 := n4_
  have NB3_2 := n5_
  have HB := n6_
  clear n0_ n1_ n2_ n3_ n4_ n5_ n6_
  have hHeld : w11.cell? ⟨gb2, 0, none⟩ = some (.slice A0_0 l0_0.length c0_0) ∧ w11.cell? ⟨gb2, 1, none⟩ = some (.slice A0_1 l0_1.length c0_1) ∧ w11.cell? ⟨gb2, 2, none⟩ = some (.slice A0_2 l0_2.length c0_2) ∧ w11.cell? ⟨gb2, 3, none⟩ = some (.int .i64 a0_3) := hS_
  refine norm_ (a' := ?_) ?_ ?_
  rotate_left
  ·
   simp only [putAll, Act.put, List.setIfInBounds_toArray, List.set_cons_zero, List.set_cons_succ]
   rfl
  refine two_ (i := 0) (j := 4) (Ni := some 19) (Nj := some 23) #[true, true, true, false, false, true, true, false, true, true, false, true, false] #[false, true, true, false, true, true, true, false, true, true, false, true, false] rfl rfl rfl rfl (two_of HT_.out (by kernel_rfl)) (by decide) (by decide) (fun K hK => ?_) (fun K hK => ?_)
  ·
   skip
   refine Kd.R_lit_step k55 _ 55 ?hg (N := 19) ?hd (xs := ([] : List (S55))) (inner := []) (ok := fun _ => True) (okp := fun _ => True) ?hr ?hp (fun _ hk => hk) trivial (Below.refl _ _) (Nat.le_refl _) (by simp) ?_; (case hd => rfl); (case hg => rfl); (case hr => first | (go_simp; done) | (go_simp; rfl)); (case hp => exact (Reps.none _ _))
   intro v763 w12 ho13 hb hg_ hnew_
   clear hg_ hnew_
   (first | rw [← Ny762.out] at ho13 | (simp only [Int.reduceToNat] at ho13; rw [← Ny762.out] at ho13))
   have HO764 := Aside0.mk (Kd.R_lower ho13 (below_size HB.out)); replace BK2 := mBb BK2 hb; replace BK3 := mBb BK3 hb; replace HB := mSt HB hb
   clear hb ho13
   refine hK.out _ _ ⟨blk_cell BK2.out 0, blk_cell BK2.out 1, blk_cell BK2.out 2, blk_cell BK2.out 3⟩ (fun hHeld => ?_)
   clear hK K
   refine norm_ (a' := ?_) ?_ ?_
   rotate_left
   ·
    show Act.put _ (some 19) _ = _
    simp only [Act.put, List.setIfInBounds_toArray, List.set_cons_zero, List.set_cons_succ, i64_w, i32_w]
    rfl
   exact norm_ (by simp only [putAll, Act.put, List.setIfInBounds_toArray, List.set_cons_zero, List.set_cons_succ] <;> rfl) (hJ0_11 (v763, gb3) _ ⟨hHeld, HO764.out, BK2.out, BK3.out, GW3.out, GE3.out, NB2_3.out, NB3_2.out, HB.out⟩)
  ·
   skip
   refine Kd.R_lit_step k59 _ 59 ?hg (N := 23) ?hd (xs := ([] : List (S59))) (inner := []) (ok := fun _ => True) (okp := fun _ => True) ?hr ?hp (fun _ hk => hk) trivial (Below.refl _ _) (Nat.le_refl _) (by simp) ?_; (case hd => rfl); (case hg => rfl); (case hr => first | (go_simp; done) | (go_simp; rfl)); (case hp => exact (Reps.none _ _))
   intro v769 w12 ho13 hb hg_ hnew_
   clear hg_ hnew_
   (first | rw [← Ny768.out] at ho13 | (simp only [Int.reduceToNat] at ho13; rw [← Ny768.out] at ho13))
   have HO770 := Aside0.mk (Kd.R_lower ho13 (below_size HB.out)); replace BK2 := mBb BK2 hb; replace BK3 := mBb BK3 hb; replace HB := mSt HB hb
   clear hb ho13
   refine hK.out _ _ ⟨blk_cell BK2.out 0, blk_cell BK2.out 1, blk_cell BK2.out 2, blk_cell BK2.out 3⟩ (fun hHeld => ?_)
   clear hK K
   refine norm_ (a' := ?_) ?_ ?_
   rotate_left
   ·
    show Act.put _ (some 23) _ = _
    simp only [Act.put, List.setIfInBounds_toArray, List.set_cons_zero, List.set_cons_succ, i64_w, i32_w]
    rfl
   exact norm_ (by simp only [putAll, Act.put, List.setIfInBounds_toArray, List.set_cons_zero, List.set_cons_succ] <;> rfl) (hJ4_11 (v769, gb3) _ ⟨hHeld, HO770.out, BK2.out, BK3.out, GW3.out, GE3.out, NB2_3.out, NB3_2.out, HB.out⟩)
 rintro ⟨v763, v766, v769, v772, gb3⟩ w19 ⟨hS_, h0_, h1_, h2_, h3_, h4_, h5_, h6_, h7_, h8_⟩
 try dsimp only at h0_ h1_ h2_ h3_ h4_ h5_ h6_ h7_ h8_
 have n0_ := Aside0.mk h0_
 have n1_ := Aside0.mk h1_
 have n2_ := Aside0.mk h2_
 have n3_ := Aside0.mk h3_
 have n4_ := Aside0.mk h4_
 have n5_ := Aside0.mk h5_
 have n6_ := Aside0.mk h6_
 have n7_ := Aside0.mk h7_
 have n8_ := Aside0.mk h8_
 clear BK2; clear HB
 clear h0_ h1_ h2_ h3_ h4_ h5_ h6_ h7_ h8_
 have HO767 := n0_
 have HO773 := n1_
 have BK2 := n2_
 have BK3 := n3_
 have GW3 := n4_
 have GE3 := n5_
 have NB2_3 := n6_
 have NB3_2 := n7_
 have HB := n8_
 clear n0_ n1_ n2_ n3_ n4_ n5_ n6_ n7_ n8_
 have hHeld : w19.cell? ⟨gb2, 0, none⟩ = some (.slice A0_0 l0_0.length c0_0) ∧ w19.cell? ⟨gb2, 1, none⟩ = some (.slice A0_1 l0_1.length c0_1) ∧ w19.cell? ⟨gb2, 2, none⟩ = some (.slice A0_2 l0_2.length c0_2) ∧ w19.cell? ⟨gb2, 3, none⟩ = some (.int .i64 a0_3) := hS_
 obtain ⟨Ao20, co20, eo20⟩ := Kd.R_slice HO773.out
 (first | subst eo20 | (injection eo20 with f1_ f2_ f3_; have f4_ := f1_.symm; have f5_ := f3_.symm; clear f1_ f2_ f3_; subst f4_; subst f5_))
 obtain ⟨Ao21, co21, eo21⟩ := Kd.R_slice HO767.out
 (first | subst eo21 | (injection eo21 with f1_ f2_ f3_; have f4_ := f1_.symm; have f5_ := f3_.symm; clear f1_ f2_ f3_; subst f4_; subst f5_))
 refine norm_ (a' := ?_) ?_ ?_
 rotate_left
 ·
  simp only [putAll, Act.put, List.setIfInBounds_toArray, List.set_cons_zero, List.set_cons_succ]
  rfl
 refine one_ (i := 12) (N := none) #[true, true, true, true, true, true, true, true, true, true, true, true, true] rfl rfl (one_of HT_.out (by kernel_rfl)) (by decide) (fun K hK => ?_)
 have hs22 : w19.cell? ⟨gb3, 0, none⟩ = some (.slice none 0 0) := (blk_cell BK3.out 0).trans rfl
 have hfs22 := blk_frozen BK3.out 0
 have hns22_0 := NB2_3.out
 have hms22_0 := NB3_2.out
 have hs23 : w19.cell? ⟨gb3, 1, none⟩ = some (.slice none 0 0) := (blk_cell BK3.out 1).trans rfl
 have hfs23 := blk_frozen BK3.out 1
 have hns23_0 := NB2_3.out
 have hms23_0 := NB3_2.out
 have hs24 : w19.cell? ⟨gb3, 2, none⟩ = some (.slice none 0 0) := (blk_cell BK3.out 2).trans rfl
 have hfs24 := blk_frozen BK3.out 2
 have hns24_0 := NB2_3.out
 have hms24_0 := NB3_2.out
 have hs25 : w19.cell? ⟨gb3, 3, none⟩ = some (.int .i64 0) := (blk_cell BK3.out 3).trans rfl
 have hfs25 := blk_frozen BK3.out 3
 have hns25_0 := NB2_3.out
 have hms25_0 := NB3_2.out
 refine skip_ (w1 := ?_) (by rfl) rfl ?_ ?_
 rotate_left
 ·
  go_simp
  rfl
 refine hK.out _ _ ⟨((cell_far (p := ⟨gb3, _, none⟩) NB2_3.out _).trans (((cell_far (p := ⟨gb3, _, none⟩) NB2_3.out _).trans (((cell_far (p := ⟨gb3, _, none⟩) NB2_3.out _).trans (((cell_far (p := ⟨gb3, _, none⟩) NB2_3.out _).trans (hHeld.1)))))))), ((cell_far (p := ⟨gb3, _, none⟩) NB2_3.out _).trans (((cell_far (p := ⟨gb3, _, none⟩) NB2_3.out _).trans (((cell_far (p := ⟨gb3, _, none⟩) NB2_3.out _).trans (((cell_far (p := ⟨gb3, _, none⟩) NB2_3.out _).trans (hHeld.2.1)))))))), ((cell_far (p := ⟨gb3, _, none⟩) NB2_3.out _).trans (((cell_far (p := ⟨gb3, _, none⟩) NB2_3.out _).trans (((cell_far (p := ⟨gb3, _, none⟩) NB2_3.out _).trans (((cell_far (p := ⟨gb3, _, none⟩) NB2_3.out _).trans (hHeld.2.2.1)))))))), ((cell_far (p := ⟨gb3, _, none⟩) NB2_3.out _).trans (((cell_far (p := ⟨gb3, _, none⟩) NB2_3.out _).trans (((cell_far (p := ⟨gb3, _, none⟩) NB2_3.out _).trans (((cell_far (p := ⟨gb3, _, none⟩) NB2_3.out _).trans (hHeld.2.2.2))))))))⟩ (fun hHeld => ?_)
 clear hK K
 refine done_ (done_of HT_.out (by kernel_rfl)) ?_
 try go_wp2
 go_loopg [4] k (fun kq v4 w' => ∃ (x4_1 : Int) (x775000_1 : List (S53)) (u775000 : Value), v4 = .int .i64 x4_1 ∧ Aside0 (dancestudiolaw50_RehearseAgain.l0 kq x4_1 l0_0 l0_1 l0_2 a0_3 x775000_1 y765 y771 a0_3 = some r) ∧ Aside0 (kq ≤ k) ∧ Aside0 (Kd.S k53 53 w' w.heap.size (fun _ => True) u775000 x775000_1) ∧ Aside0 (Kd.R k55 55 w' w.heap.size (fun _ => True) (.slice Ao21 y765.length co21) y765) ∧ Aside0 (Kd.R k59 59 w' w.heap.size (fun _ => True) (.slice Ao20 y771.length co20) y771) ∧ Aside0 (w'.heap[gb2]? = some (.cells #[(.slice A0_0 l0_0.length c0_0), (.slice A0_1 l0_1.length c0_1), (.slice A0_2 l0_2.length c0_2), .int .i64 a0_3] 26 (0, 0))) ∧ Aside0 (w'.heap[gb3]? = some (.cells #[u775000, (.slice Ao21 y765.length co21), (.slice Ao20 y771.length co20), .int .i64 a0_3] 26 (0, 0))) ∧ Aside0 (Below w.heap.size w w'))
 case atStart => exact ⟨(0), (([] : List (S53))), (.slice none 0 0), (by first | rfl | (simp; done) | (simp [*]; done)), H', ⟨Nat.le_refl _⟩, ⟨by first | exact Kd.S_nil _ _ _ _ _ | exact Kd.N_nil _ _ _ _ _ | exact Kd.V_nil _ _ _ _ _ | exact Kd.Q_nil _ _ _ _ _ | exact Kd.R_nil _ _ _ _ _⟩, ⟨by (with_reducible repeat (first | apply Kd.R_alloc | apply Kd.R_drewN | apply Kd.R_drew)); exact Kd.R_mono (Kd.R_far (p := ⟨gb3, 3, none⟩) (Kd.R_far (p := ⟨gb3, 2, none⟩) (Kd.R_far (p := ⟨gb3, 1, none⟩) (Kd.R_far (p := ⟨gb3, 0, none⟩) (Kd.R_types HO767.out BK3.out (by decide)) (fun _ hk => hk.2) (.slice none 0 0)) (fun _ hk => hk.2) (.slice Ao21 y765.length co21)) (fun _ hk => hk.2) (.slice Ao20 y771.length co20)) (fun _ hk => hk.2) (.int .i64 a0_3)) (fun _ hk => trivial)⟩, ⟨by (with_reducible repeat (first | apply Kd.R_alloc | apply Kd.R_drewN | apply Kd.R_drew)); exact Kd.R_mono (Kd.R_far (p := ⟨gb3, 3, none⟩) (Kd.R_far (p := ⟨gb3, 2, none⟩) (Kd.R_far (p := ⟨gb3, 1, none⟩) (Kd.R_far (p := ⟨gb3, 0, none⟩) (Kd.R_types HO773.out BK3.out (by decide)) (fun _ hk => hk.2) (.slice none 0 0)) (fun _ hk => hk.2) (.slice Ao21 y765.length co21)) (fun _ hk => hk.2) (.slice Ao20 y771.length co20)) (fun _ hk => hk.2) (.int .i64 a0_3)) (fun _ hk => trivial)⟩, ⟨by (with_reducible repeat (first | refine blk_drewN ?_ _ | refine blk_drew ?_ | refine blk_alloc ?_ _)); refine blk_far ?_ NB2_3.out _; (with_reducible repeat (first | refine blk_drewN ?_ _ | refine blk_drew ?_ | refine blk_alloc ?_ _)); refine blk_far ?_ NB2_3.out _; (with_reducible repeat (first | refine blk_drewN ?_ _ | refine blk_drew ?_ | refine blk_alloc ?_ _)); refine blk_far ?_ NB2_3.out _; (with_reducible repeat (first | refine blk_drewN ?_ _ | refine blk_drew ?_ | refine blk_alloc ?_ _)); refine blk_far ?_ NB2_3.out _; (with_reducible repeat (first | refine blk_drewN ?_ _ | refine blk_drew ?_ | refine blk_alloc ?_ _)); exact BK2.out⟩, ⟨by (with_reducible repeat (first | refine blk_drewN ?_ _ | refine blk_drew ?_ | refine blk_alloc ?_ _)); refine blk_put (cs := #[.slice none 0 0, .slice Ao21 y765.length co21, .slice Ao20 y771.length co20, .int .i64 0]) ?_ 3 _ rfl; (with_reducible repeat (first | refine blk_drewN ?_ _ | refine blk_drew ?_ | refine blk_alloc ?_ _)); refine blk_put (cs := #[.slice none 0 0, .slice Ao21 y765.length co21, .slice none 0 0, .int .i64 0]) ?_ 2 _ rfl; (with_reducible repeat (first | refine blk_drewN ?_ _ | refine blk_drew ?_ | refine blk_alloc ?_ _)); refine blk_put (cs := #[.slice none 0 0, .slice none 0 0, .slice none 0 0, .int .i64 0]) ?_ 1 _ rfl; (with_reducible repeat (first | refine blk_drewN ?_ _ | refine blk_drew ?_ | refine blk_alloc ?_ _)); refine blk_put (cs := #[.slice none 0 0, .slice none 0 0, .slice none 0 0, .int .i64 0]) ?_ 0 _ rfl; (with_reducible repeat (first | refine blk_drewN ?_ _ | refine blk_drew ?_ | refine blk_alloc ?_ _)); exact BK3.out⟩, ⟨by repeat (first | (with_reducible first | exact HB.out | apply below_alloc | apply pw_below_drewN | apply below_drew1 | refine below_set ?_ GE2.out | refine below_set ?_ GE3.out) | exact HB.out)⟩⟩
 case round =>
  clear H'
  try clear p2; try clear c4; try clear c5
  obtain ⟨x4_1, x775000_1, u775000, rfl, HA, HK1, HO_775000, HO_775001, HO_775002, BK2, BK3, HB⟩ := hrel
  cases gk with
  | zero => exact absurd HA.out (by simp [dancestudiolaw50_RehearseAgain.l0])
  | succ k1 =>
   have H := HA.out
   clear HA
   simp only [dancestudiolaw50_RehearseAgain.l0] at H
   by_cases c26 : x4_1 < (l0_0.length : Int)
   ·
    rw [if_pos c26] at H
    have c26b0 : decide (x4_1 < (l0_0.length : Int)) = true := decide_eq_true c26
    clear c26
    obtain ⟨c27, H⟩ : (0 ≤ x4_1) ∧ _ := mIf H
    have c27b0 : decide (0 ≤ x4_1) = true := decide_eq_true c27
    clear c27
    obtain ⟨y777, hy777⟩ : ∃ y_ : List Int, y_ = (([] : List Int)) := ⟨_, rfl⟩
    rw [← hy777] at H
    have Ny777 := Aside0.mk hy777
    clear hy777
    obtain ⟨c28, H⟩ : (y777.length + ((rd_T53 l0_0 x4_1).f2).length < 17592186044416) ∧ _ := mIf H
    have LMc28 := Aside0.mk c28
    clear c28
    obtain ⟨y780, hy780⟩ : ∃ y_ : List Int, y_ = (y777 ++ ((rd_T53 l0_0 x4_1).f2)) := ⟨_, rfl⟩
    rw [← hy780] at H
    have Ny780 := Aside0.mk hy780
    clear hy780
    obtain ⟨c29, H⟩ : (x775000_1.length < 2932031007402) ∧ _ := mIf H
    have LMc29 := Aside0.mk c29
    clear c29
    obtain ⟨y783, hy783⟩ : ∃ y_ : List (S53), y_ = (x775000_1 ++ [(⟨(rd_T53 l0_0 x4_1).f0, (rd_T53 l0_0 x4_1).f1, y780⟩ : S53)]) := ⟨_, rfl⟩
    rw [← hy783] at H
    have Ny783 := Aside0.mk hy783
    clear hy783
    have H' := Aside0.mk H
    clear H
    have hnb30 := NB2_3.out
    have hnc30 := NB3_2.out
    have hcz31 := blk_cell BK2.out; have hfz31 := blk_frozen BK2.out
    have p775 : 0 ≤ (x4_1 : Int) := of_decide_eq_true (by first | (with_reducible assumption) | assumption)
    have q775 : x4_1 < (l0_0.length : Int) := of_decide_eq_true (by first | (with_reducible assumption) | assumption)
    obtain ⟨ad775, A775_2, c775_2, e775, hx775_0, hx775_1, hx775_2, hl775_2, hi775_2⟩ := at_T53 HR0_0.out x4_1 p775 q775
    cases e775
    replace hx775_0 := (HB.out.cell (World.block_lt_of_cell? w _ hx775_0)).trans hx775_0
    replace hx775_1 := (HB.out.cell (World.block_lt_of_cell? w _ hx775_1)).trans hx775_1
    replace hx775_2 := (HB.out.cell (World.block_lt_of_cell? w _ hx775_2)).trans hx775_2
    have HR775_2 := Aside0.mk hi775_2
    have HC775_2 := Aside0.mk hl775_2
    clear hi775_2 hl775_2
    replace p775 := eq_true p775
    replace q775 := eq_true q775
    go_wp2_with (first | ((with_reducible refine gate_dst (N := 5) rfl ?_); refine box_event ?hg (N := 5) ?hd (cs := #[.string (⟨#[]⟩ : ByteArray), .int .i64 0, .slice none 0 0]) (t := 53) ?hr ?_; (case hd => rfl); (case hg => rfl); (case hr => first | (go_simp; done) | (go_simp; rfl)); intro gb4 hg w32 hbox hb; replace HO_775000 := Aside0.mk (Kd.S_below (Kd.S_elderB (by (with_reducible repeat (first | apply Kd.S_alloc | apply Kd.S_drewN | apply Kd.S_drew)); exact HO_775000.out) gb4 (Nat.le_of_eq hg.symm)) hb); replace HO_775001 := Aside0.mk (Kd.R_below (by (with_reducible repeat (first | apply Kd.R_alloc | apply Kd.R_drewN | apply Kd.R_drew)); exact HO_775001.out) hb); replace HO_775002 := Aside0.mk (Kd.R_below (by (with_reducible repeat (first | apply Kd.R_alloc | apply Kd.R_drewN | apply Kd.R_drew)); exact HO_775002.out) hb); have BK4 := Aside0.mk hbox; have GW4 := Aside0.mk ((by rw [hg]; exact (below_size (by repeat (first | (with_reducible first | exact HB.out | apply below_alloc | apply pw_below_drewN | apply below_drew1 | refine below_set ?_ GE2.out | refine below_set ?_ GE3.out) | exact HB.out))) : w.heap.size ≤ gb4)); have GE4 := GW4; replace HB := Aside0.mk (below_step (by repeat (first | (with_reducible first | exact HB.out | apply below_alloc | apply pw_below_drewN | apply below_drew1 | refine below_set ?_ GE2.out | refine below_set ?_ GE3.out) | exact HB.out)) hb); have NB2_4 := mNe BK2 hg; have NB4_2 := mSy NB2_4; replace BK2 := mBb BK2 hb; have NB3_4 := mNe BK3 hg; have NB4_3 := mSy NB3_4; replace BK3 := mBb BK3 hb; clear hb hbox hg; have hnb33 := NB4_2.out; have hnc33 := NB2_4.out; have hnb34 := NB4_3.out; have hnc34 := NB3_4.out; have hcz35 := blk_cell BK4.out; have hfz35 := blk_frozen BK4.out) | ((with_reducible refine gate_dst (N := 42) rfl ?_); refine Kd.R_lit (Kd.int .i64) _ 3 ?hg (N := 42) ?hd (xs := ([] : List Int)) (inner := []) (ok := fun _ => True) (okp := fun _ => True) ?hr ?hp (fun _ hk => hk) trivial (Below.refl _ _) (Nat.le_refl _) (by simp) ?_; (case hd => rfl); (case hg => rfl); (case hr => first | (go_simp; done) | (go_simp; rfl)); (case hp => exact (Reps.none _ _)); intro v778 w36 ho37 hb hg_ hnew_; clear hg_ hnew_; (first | rw [← Ny777.out] at ho37 | (simp only [Int.reduceToNat] at ho37; rw [← Ny777.out] at ho37)); replace HO_775000 := Aside0.mk (Kd.S_elder' (by (with_reducible repeat (first | apply Kd.S_alloc | apply Kd.S_drewN | apply Kd.S_drew)); exact (Kd.S_mono (Kd.S_far (p := ⟨gb4, 2, none⟩) (Kd.S_far (p := ⟨gb4, 1, none⟩) (Kd.S_far (p := ⟨gb4, 0, none⟩) (Kd.S_mono HO_775000.out (fun k_ hk => (⟨hk, hk.2⟩ : _ ∧ k_ ≠ gb4))) (fun _ hk => hk.2) (.string ((rd_T53 l0_0 x4_1).f0))) (fun _ hk => hk.2) (.int .i64 ((rd_T53 l0_0 x4_1).f1))) (fun _ hk => hk.2) (.slice A775_2 ((rd_T53 l0_0 x4_1).f2).length c775_2)) (fun _ h_ => h_.1))) (Kd.R_base ho37) hb); replace HO_775001 := Aside0.mk (Kd.R_below (by (with_reducible repeat (first | apply Kd.R_alloc | apply Kd.R_drewN | apply Kd.R_drew)); exact (Kd.R_mono (Kd.R_far (p := ⟨gb4, 2, none⟩) (Kd.R_far (p := ⟨gb4, 1, none⟩) (Kd.R_far (p := ⟨gb4, 0, none⟩) (Kd.R_types HO_775001.out BK4.out (by decide)) (fun _ hk => hk.2) (.string ((rd_T53 l0_0 x4_1).f0))) (fun _ hk => hk.2) (.int .i64 ((rd_T53 l0_0 x4_1).f1))) (fun _ hk => hk.2) (.slice A775_2 ((rd_T53 l0_0 x4_1).f2).length c775_2)) (fun _ h_ => h_.1))) hb); replace HO_775002 := Aside0.mk (Kd.R_below (by (with_reducible repeat (first | apply Kd.R_alloc | apply Kd.R_drewN | apply Kd.R_drew)); exact (Kd.R_mono (Kd.R_far (p := ⟨gb4, 2, none⟩) (Kd.R_far (p := ⟨gb4, 1, none⟩) (Kd.R_far (p := ⟨gb4, 0, none⟩) (Kd.R_types HO_775002.out BK4.out (by decide)) (fun _ hk => hk.2) (.string ((rd_T53 l0_0 x4_1).f0))) (fun _ hk => hk.2) (.int .i64 ((rd_T53 l0_0 x4_1).f1))) (fun _ hk => hk.2) (.slice A775_2 ((rd_T53 l0_0 x4_1).f2).length c775_2)) (fun _ h_ => h_.1))) hb); have HO779 := Aside0.mk (Kd.R_lower ho37 (below_size (by repeat (first | (with_reducible first | exact HB.out | apply below_alloc | apply pw_below_drewN | apply below_drew1 | refine below_set ?_ GE2.out | refine below_set ?_ GE3.out | refine below_set ?_ GE4.out) | exact HB.out)))); replace BK2 := Aside0.mk (blk_below (g := gb2) (o := .cells #[.slice (some ad775) l0_0.length c0_0, .slice A0_1 l0_1.length c0_1, .slice A0_2 l0_2.length c0_2, .int .i64 a0_3] 26 (0, 0)) (by (with_reducible repeat (first | refine blk_drewN ?_ _ | refine blk_drew ?_ | refine blk_alloc ?_ _)); refine blk_far ?_ NB2_4.out _; (with_reducible repeat (first | refine blk_drewN ?_ _ | refine blk_drew ?_ | refine blk_alloc ?_ _)); refine blk_far ?_ NB2_4.out _; (with_reducible repeat (first | refine blk_drewN ?_ _ | refine blk_drew ?_ | refine blk_alloc ?_ _)); refine blk_far ?_ NB2_4.out _; (with_reducible repeat (first | refine blk_drewN ?_ _ | refine blk_drew ?_ | refine blk_alloc ?_ _)); exact BK2.out) hb); replace BK3 := Aside0.mk (blk_below (g := gb3) (o := .cells #[u775000, .slice Ao21 y765.length co21, .slice Ao20 y771.length co20, .int .i64 a0_3] 26 (0, 0)) (by (with_reducible repeat (first | refine blk_drewN ?_ _ | refine blk_drew ?_ | refine blk_alloc ?_ _)); refine blk_far ?_ NB3_4.out _; (with_reducible repeat (first | refine blk_drewN ?_ _ | refine blk_drew ?_ | refine blk_alloc ?_ _)); refine blk_far ?_ NB3_4.out _; (with_reducible repeat (first | refine blk_drewN ?_ _ | refine blk_drew ?_ | refine blk_alloc ?_ _)); refine blk_far ?_ NB3_4.out _; (with_reducible repeat (first | refine blk_drewN ?_ _ | refine blk_drew ?_ | refine blk_alloc ?_ _)); exact BK3.out) hb); replace BK4 := Aside0.mk (blk_below (g := gb4) (o := .cells #[.string ((rd_T53 l0_0 x4_1).f0), .int .i64 ((rd_T53 l0_0 x4_1).f1), .slice A775_2 ((rd_T53 l0_0 x4_1).f2).length c775_2] 53 (0, 0)) (by (with_reducible repeat (first | refine blk_drewN ?_ _ | refine blk_drew ?_ | refine blk_alloc ?_ _)); refine blk_put (cs := #[.string ((rd_T53 l0_0 x4_1).f0), .int .i64 ((rd_T53 l0_0 x4_1).f1), .slice none 0 0]) ?_ 2 _ rfl; (with_reducible repeat (first | refine blk_drewN ?_ _ | refine blk_drew ?_ | refine blk_alloc ?_ _)); refine blk_put (cs := #[.string ((rd_T53 l0_0 x4_1).f0), .int .i64 0, .slice none 0 0]) ?_ 1 _ rfl; (with_reducible repeat (first | refine blk_drewN ?_ _ | refine blk_drew ?_ | refine blk_alloc ?_ _)); refine blk_put (cs := #[.string (⟨#[]⟩ : ByteArray), .int .i64 0, .slice none 0 0]) ?_ 0 _ rfl; (with_reducible repeat (first | refine blk_drewN ?_ _ | refine blk_drew ?_ | refine blk_alloc ?_ _)); exact BK4.out) hb); replace HB := Aside0.mk (below_step (by repeat (first | (with_reducible first | exact HB.out | apply below_alloc | apply pw_below_drewN | apply below_drew1 | refine below_set ?_ GE2.out | refine below_set ?_ GE3.out | refine below_set ?_ GE4.out) | exact HB.out)) hb); clear hb ho37; have hcz38 := blk_cell BK4.out; have hfz38 := blk_frozen BK4.out) | ((with_reducible refine gate_builtin (b := .append) (xs := #[.tmp 42, .tmp 44]) rfl ?_); at_builtin; refine Kd.R_append_rows (Kd.int .i64) (w0 := w) w.heap.size rfl (.tmp 42) (.tmp 44) 51 3 (.int .i64 0) 8 rfl Try.underlying51 info3 rfl (by decide) (by omega) v778 y777 ((rd_T53 l0_0 x4_1).f2) _ _ _ (fun _ => True) (fun _ => False) rfl rfl ?aO ?aR (fun _ _ h => h) (fun _ h => h.elim) ?aF ?aB ?aS ?aL ?_; (case aR => repeat (first | exact (Kd.C_below HR775_2.out HB.out) | (with_reducible refine Kd.C_alloc ?_ _) | (with_reducible refine Kd.C_drewN ?_ _) | (with_reducible refine Kd.C_drew ?_))); (case aB => exact (by repeat (first | (with_reducible first | exact HB.out | apply below_alloc | apply pw_below_drewN | apply below_drew1 | refine below_set ?_ GE2.out | refine below_set ?_ GE3.out | refine below_set ?_ GE4.out) | exact HB.out))); (case aF => exact (fun _ _ => trivial)); (case aO => exact (by (with_reducible repeat (first | apply Kd.R_alloc | apply Kd.R_drewN | apply Kd.R_drew)); exact HO779.out)); (case aS => exact (below_size (by repeat (first | (with_reducible first | exact HB.out | apply below_alloc | apply pw_below_drewN | apply below_drew1 | refine below_set ?_ GE2.out | refine below_set ?_ GE3.out | refine below_set ?_ GE4.out) | exact HB.out)))); (case aL => have := LMc28.out; omega); intro v781 w39 ho hb hg hat; rw [← Ny780.out] at ho; replace HO_775000 := Aside0.mk (Kd.S_after (ok := (fun k_ => k_ ≠ gb4)) (by (with_reducible repeat (first | apply Kd.S_alloc | apply Kd.S_drewN | apply Kd.S_drew)); exact Kd.S_mono HO_775000.out (fun _ hk => ⟨hk.1.2, hk.2⟩)) hg hat); replace HO_775001 := Aside0.mk (Kd.R_over' (by (with_reducible repeat (first | apply Kd.R_alloc | apply Kd.R_drewN | apply Kd.R_drew)); exact HO_775001.out) (Kd.R_typed (by (with_reducible repeat (first | apply Kd.R_alloc | apply Kd.R_drewN | apply Kd.R_drew)); exact HO779.out)) (by decide) hg); replace HO_775002 := Aside0.mk (Kd.R_over' (by (with_reducible repeat (first | apply Kd.R_alloc | apply Kd.R_drewN | apply Kd.R_drew)); exact HO_775002.out) (Kd.R_typed (by (with_reducible repeat (first | apply Kd.R_alloc | apply Kd.R_drewN | apply Kd.R_drew)); exact HO779.out)) (by decide) hg); replace BK2 := Aside0.mk (blk_grown (g := gb2) (o := .cells #[.slice (some ad775) l0_0.length c0_0, .slice A0_1 l0_1.length c0_1, .slice A0_2 l0_2.length c0_2, .int .i64 a0_3] 26 (0, 0)) BK2.out hg (Kd.R_ne HO779.out BK2.out (by decide))); replace BK3 := Aside0.mk (blk_grown (g := gb3) (o := .cells #[u775000, .slice Ao21 y765.length co21, .slice Ao20 y771.length co20, .int .i64 a0_3] 26 (0, 0)) BK3.out hg (Kd.R_ne HO779.out BK3.out (by decide))); replace BK4 := Aside0.mk (blk_grown (g := gb4) (o := .cells #[.string ((rd_T53 l0_0 x4_1).f0), .int .i64 ((rd_T53 l0_0 x4_1).f1), .slice A775_2 ((rd_T53 l0_0 x4_1).f2).length c775_2] 53 (0, 0)) BK4.out hg (Kd.R_ne HO779.out BK4.out (by decide))); replace HB := Aside0.mk hb; have HO782 := Aside0.mk ho; clear HO779; clear ho hb hg hat; obtain ⟨Ao40, co40, eo40⟩ := Kd.R_slice HO782.out; subst eo40; have hcz41 := blk_cell BK4.out; have hfz41 := blk_frozen BK4.out) | ((with_reducible refine gate_store (t := 51) (p := 46) rfl ?_); refine store_event (t := 51) (p := 46) (v := ?vo_w42) (w1 := (w39.setCell ⟨gb4, 2, none⟩ (.slice Ao40 y780.length co40))) ?hg ?ho ?hn ?hr ?_; (case ho => rfl); (case hg => rfl); (case hn => rfl); (case hr => first | (go_simp; done) | (go_simp; rfl)); intro w42 hw; have n0_ : Aside0 (Kd.S k53 53 w42 w.heap.size (fun k_ => some k_ ≠ (.slice Ao40 y780.length co40 : Value).ownBlock ∧ k_ ≠ gb4) u775000 x775000_1) := ⟨(by rw [hw]; exact (by (with_reducible repeat (first | apply Kd.S_alloc | apply Kd.S_drewN | apply Kd.S_drew)); exact Kd.S_mono (Kd.S_far (p := ⟨gb4, 2, none⟩) (Kd.S_mono HO_775000.out (fun k_ hk => (⟨hk, hk.1⟩ : _ ∧ k_ ≠ gb4))) (fun _ hk => hk.2) (.slice Ao40 y780.length co40)) (fun _ hk => ⟨hk.1.2, hk.1.1⟩)))⟩; have n1_ : Aside0 (Kd.R k55 55 w42 w.heap.size (fun _ => True) (.slice Ao21 y765.length co21) y765) := ⟨(by rw [hw]; exact (by (with_reducible repeat (first | apply Kd.R_alloc | apply Kd.R_drewN | apply Kd.R_drew)); exact Kd.R_mono (Kd.R_far (p := ⟨gb4, 2, none⟩) (Kd.R_types HO_775001.out BK4.out (by decide)) (fun _ hk => hk.2) (.slice Ao40 y780.length co40)) (fun _ hk => trivial)))⟩; have n2_ : Aside0 (Kd.R k59 59 w42 w.heap.size (fun _ => True) (.slice Ao20 y771.length co20) y771) := ⟨(by rw [hw]; exact (by (with_reducible repeat (first | apply Kd.R_alloc | apply Kd.R_drewN | apply Kd.R_drew)); exact Kd.R_mono (Kd.R_far (p := ⟨gb4, 2, none⟩) (Kd.R_types HO_775002.out BK4.out (by decide)) (fun _ hk => hk.2) (.slice Ao40 y780.length co40)) (fun _ hk => trivial)))⟩; have n3_ : Aside0 (Kd.R (Kd.int .i64) 3 w42 w.heap.size (fun _ => True) (.slice Ao40 y780.length co40) y780) := ⟨(by rw [hw]; exact (by (with_reducible repeat (first | apply Kd.R_alloc | apply Kd.R_drewN | apply Kd.R_drew)); exact Kd.R_mono (Kd.R_far (p := ⟨gb4, 2, none⟩) (Kd.R_types HO782.out BK4.out (by decide)) (fun _ hk => hk.2) (.slice Ao40 y780.length co40)) (fun _ hk => trivial)))⟩; have n4_ : Aside0 (w42.heap[gb2]? = some (.cells #[.slice (some ad775) l0_0.length c0_0, .slice A0_1 l0_1.length c0_1, .slice A0_2 l0_2.length c0_2, .int .i64 a0_3] 26 (0, 0))) := ⟨(by rw [hw]; exact (by (with_reducible repeat (first | refine blk_drewN ?_ _ | refine blk_drew ?_ | refine blk_alloc ?_ _)); refine blk_far ?_ NB2_4.out _; (with_reducible repeat (first | refine blk_drewN ?_ _ | refine blk_drew ?_ | refine blk_alloc ?_ _)); exact BK2.out))⟩; have n5_ : Aside0 (w42.heap[gb3]? = some (.cells #[u775000, .slice Ao21 y765.length co21, .slice Ao20 y771.length co20, .int .i64 a0_3] 26 (0, 0))) := ⟨(by rw [hw]; exact (by (with_reducible repeat (first | refine blk_drewN ?_ _ | refine blk_drew ?_ | refine blk_alloc ?_ _)); refine blk_far ?_ NB3_4.out _; (with_reducible repeat (first | refine blk_drewN ?_ _ | refine blk_drew ?_ | refine blk_alloc ?_ _)); exact BK3.out))⟩; have n6_ : Aside0 (w42.heap[gb4]? = some (.cells #[.string ((rd_T53 l0_0 x4_1).f0), .int .i64 ((rd_T53 l0_0 x4_1).f1), .slice Ao40 y780.length co40] 53 (0, 0))) := ⟨(by rw [hw]; exact (by (with_reducible repeat (first | refine blk_drewN ?_ _ | refine blk_drew ?_ | refine blk_alloc ?_ _)); refine blk_put (cs := #[.string ((rd_T53 l0_0 x4_1).f0), .int .i64 ((rd_T53 l0_0 x4_1).f1), .slice A775_2 ((rd_T53 l0_0 x4_1).f2).length c775_2]) ?_ 2 _ rfl; (with_reducible repeat (first | refine blk_drewN ?_ _ | refine blk_drew ?_ | refine blk_alloc ?_ _)); exact BK4.out))⟩; have n7_ : Aside0 (Below w.heap.size w w42) := ⟨(by rw [hw]; exact (by repeat (first | (with_reducible first | exact HB.out | apply below_alloc | apply pw_below_drewN | apply below_drew1 | refine below_set ?_ GE2.out | refine below_set ?_ GE3.out | refine below_set ?_ GE4.out) | exact HB.out)))⟩; clear hw; clear HO_775000; clear HO_775001; clear HO_775002; clear HO782; clear BK2; clear BK3; clear BK4; clear HB; have HO_775000 := n0_; have HO_775001 := n1_; have HO_775002 := n2_; have HO782 := n3_; have BK2 := n4_; have BK3 := n5_; have BK4 := n6_; have HB := n7_; clear n0_ n1_ n2_ n3_ n4_ n5_ n6_ n7_; have hcz43 := blk_cell BK3.out; have hfz43 := blk_frozen BK3.out; have hcz44 := blk_cell BK4.out; have hfz44 := blk_frozen BK4.out) | ((with_reducible refine gate_builtin (b := .append) (xs := #[.tmp 48, .tmp 50]) rfl ?_); at_builtin; refine Kd.S_append k53 (w0 := w) w.heap.size rfl (.tmp 48) (.tmp 50) 22 53 (.agg #[(.string ⟨#[]⟩), (.int .i64 0), (.slice none 0 0)]) 48 rfl Try.underlying22 info53 rfl (by decide) (by omega) u775000 x775000_1 (⟨(rd_T53 l0_0 x4_1).f0, (rd_T53 l0_0 x4_1).f1, y780⟩ : S53) [.string ((rd_T53 l0_0 x4_1).f0), .int .i64 ((rd_T53 l0_0 x4_1).f1), .slice Ao40 y780.length co40] (fun k_ => k_ ≠ gb4) (fun k_ => some k_ = (.slice Ao40 y780.length co40 : Value).ownBlock) rfl rfl ?aP (fun k_ hk_ => ((Kd.R_mono (ok' := fun k_ => ((fun k_ => k_ ≠ gb4)) k_ ∧ some k_ ≠ (u775000 : Value).ownBlock) (Kd.R_types (Kd.R_apart' (HO782.out) (Kd.S_typed HO_775000.out) (by decide)) BK4.out (by decide)) (fun k_ hk => ⟨hk.2, hk.1.2⟩))).1 k_ hk_.symm) ?aF ?aO ?aB ?aS ?aL ?_; (case aP => exact k53_mkM _ _ _ (⟨(rd_T53 l0_0 x4_1).f0, (rd_T53 l0_0 x4_1).f1, y780⟩ : S53) (Kd.R_mono (Kd.R_tight rfl (Kd.R_mono (ok' := fun k_ => ((fun k_ => k_ ≠ gb4)) k_ ∧ some k_ ≠ (u775000 : Value).ownBlock) (Kd.R_types (Kd.R_apart' (HO782.out) (Kd.S_typed HO_775000.out) (by decide)) BK4.out (by decide)) (fun k_ hk => ⟨hk.2, hk.1.2⟩))) (fun _ h_ => h_))); (case aB => exact (by repeat (first | (with_reducible first | exact HB.out | apply below_alloc | apply pw_below_drewN | apply below_drew1 | refine below_set ?_ GE2.out | refine below_set ?_ GE3.out | refine below_set ?_ GE4.out) | exact HB.out))); (case aF => exact (fun k_ hk => Kd.freshB (g := gb4) (o := .cells #[.string ((rd_T53 l0_0 x4_1).f0), .int .i64 ((rd_T53 l0_0 x4_1).f1), .slice Ao40 y780.length co40] 53 (0, 0)) BK4.out k_ hk)); (case aO => exact (by (with_reducible repeat (first | apply Kd.S_alloc | apply Kd.S_drewN | apply Kd.S_drew)); exact Kd.S_mono HO_775000.out (fun k_ hk => ⟨hk.2, fun e_ => hk.1 e_⟩))); (case aS => exact (below_size (by repeat (first | (with_reducible first | exact HB.out | apply below_alloc | apply pw_below_drewN | apply below_drew1 | refine below_set ?_ GE2.out | refine below_set ?_ GE3.out | refine below_set ?_ GE4.out) | exact HB.out)))); (case aL => have := LMc29.out; omega); intro v784 w45 ho hb hg hat; rw [← Ny783.out] at ho; replace HO_775001 := Aside0.mk (Kd.R_over' (by (with_reducible repeat (first | apply Kd.R_alloc | apply Kd.R_drewN | apply Kd.R_drew)); exact HO_775001.out) (Kd.S_typed (by (with_reducible repeat (first | apply Kd.S_alloc | apply Kd.S_drewN | apply Kd.S_drew)); exact HO_775000.out)) (by decide) hg); replace HO_775002 := Aside0.mk (Kd.R_over' (by (with_reducible repeat (first | apply Kd.R_alloc | apply Kd.R_drewN | apply Kd.R_drew)); exact HO_775002.out) (Kd.S_typed (by (with_reducible repeat (first | apply Kd.S_alloc | apply Kd.S_drewN | apply Kd.S_drew)); exact HO_775000.out)) (by decide) hg); replace BK2 := Aside0.mk (blk_grown (g := gb2) (o := .cells #[.slice (some ad775) l0_0.length c0_0, .slice A0_1 l0_1.length c0_1, .slice A0_2 l0_2.length c0_2, .int .i64 a0_3] 26 (0, 0)) BK2.out hg (Kd.S_ne HO_775000.out BK2.out (by decide))); replace BK3 := Aside0.mk (blk_grown (g := gb3) (o := .cells #[u775000, .slice Ao21 y765.length co21, .slice Ao20 y771.length co20, .int .i64 a0_3] 26 (0, 0)) BK3.out hg (Kd.S_ne HO_775000.out BK3.out (by decide))); replace BK4 := Aside0.mk (blk_grown (g := gb4) (o := .cells #[.string ((rd_T53 l0_0 x4_1).f0), .int .i64 ((rd_T53 l0_0 x4_1).f1), .slice Ao40 y780.length co40] 53 (0, 0)) BK4.out hg (Kd.S_away HO_775000.out (fun _ hk => hk.2))); replace HB := Aside0.mk hb; have HO785 := Aside0.mk ho; clear HO_775000 HO782; clear ho hb hg hat; obtain ⟨Ao46, co46, eo46⟩ := Kd.S_slice HO785.out; subst eo46; have hcz47 := blk_cell BK3.out; have hfz47 := blk_frozen BK3.out))
    go_roundg k1
    case measure => have := HK1.out; omega
    case rel => exact ⟨(wrap64 (x4_1 + 1)), (y783), (.slice Ao46 y783.length co46), (by first | rfl | (simp; done) | (simp [*]; done)), H', ⟨by have := HK1.out; omega⟩, ⟨by (with_reducible repeat (first | apply Kd.S_alloc | apply Kd.S_drewN | apply Kd.S_drew)); exact Kd.S_mono (Kd.S_far (p := ⟨gb3, 0, none⟩) (Kd.S_types HO785.out BK3.out (by decide)) (fun _ hk => hk.2) (.slice Ao46 y783.length co46)) (fun _ hk => trivial)⟩, ⟨by (with_reducible repeat (first | apply Kd.R_alloc | apply Kd.R_drewN | apply Kd.R_drew)); exact Kd.R_mono (Kd.R_far (p := ⟨gb3, 0, none⟩) (Kd.R_types HO_775001.out BK3.out (by decide)) (fun _ hk => hk.2) (.slice Ao46 y783.length co46)) (fun _ hk => trivial)⟩, ⟨by (with_reducible repeat (first | apply Kd.R_alloc | apply Kd.R_drewN | apply Kd.R_drew)); exact Kd.R_mono (Kd.R_far (p := ⟨gb3, 0, none⟩) (Kd.R_types HO_775002.out BK3.out (by decide)) (fun _ hk => hk.2) (.slice Ao46 y783.length co46)) (fun _ hk => trivial)⟩, ⟨by (with_reducible repeat (first | refine blk_drewN ?_ _ | refine blk_drew ?_ | refine blk_alloc ?_ _)); refine blk_far ?_ NB2_3.out _; (with_reducible repeat (first | refine blk_drewN ?_ _ | refine blk_drew ?_ | refine blk_alloc ?_ _)); exact BK2.out⟩, ⟨by (with_reducible repeat (first | refine blk_drewN ?_ _ | refine blk_drew ?_ | refine blk_alloc ?_ _)); refine blk_put (cs := #[u775000, .slice Ao21 y765.length co21, .slice Ao20 y771.length co20, .int .i64 a0_3]) ?_ 0 _ rfl; (with_reducible repeat (first | refine blk_drewN ?_ _ | refine blk_drew ?_ | refine blk_alloc ?_ _)); exact BK3.out⟩, ⟨by repeat (first | (with_reducible first | exact HB.out | apply below_alloc | apply pw_below_drewN | apply below_drew1 | refine below_set ?_ GE2.out | refine below_set ?_ GE3.out | refine below_set ?_ GE4.out) | exact HB.out)⟩⟩
   rw [if_neg c26] at H
   have c26b0 : decide (x4_1 < (l0_0.length : Int)) = false := decide_eq_false c26
   clear c26
   replace H := Option.bind_eq_some_iff.mp H
   obtain ⟨t786, A480, H⟩ := H
   try dsimp only at H
   have A48 := Aside0.mk A480
   clear A480
   replace H := Option.bind_eq_some_iff.mp H
   obtain ⟨⟨t787, t790⟩, A490, H⟩ := H
   try dsimp only at H
   have A49 := Aside0.mk A490
   clear A490
   replace H := Option.bind_eq_some_iff.mp H
   obtain ⟨t791, A500, H⟩ := H
   try dsimp only at H
   have A50 := Aside0.mk A500
   clear A500
   replace H := Option.bind_eq_some_iff.mp H
   obtain ⟨⟨t792, t795⟩, A510, H⟩ := H
   try dsimp only at H
   have A51 := Aside0.mk A510
   clear A510
   have HC52 := Aside0.mk H
   clear H
   have hnb53 := NB2_3.out
   have hnc53 := NB3_2.out
   have hcz54 := blk_cell BK2.out; have hfz54 := blk_frozen BK2.out; have hcz55 := blk_cell BK3.out; have hfz55 := blk_frozen BK3.out
   go_upto_region 12 with (first | ((with_reducible refine gate_dst (N := 61) rfl ?_); refine goesL_ (some 61) rfl rfl Try.func11 (by kernel_rfl) rfl #[.agg #[.slice Ao57 x775000_1.length co57, .slice Ao21 y765.length co21, .slice Ao20 y771.length co20, .int .i64 a0_3]] rfl (by (try simp only [List.map_toArray, List.map_cons, List.map_nil]); first | done | rfl | (simp only [List.length_drop, List.length_take]; rfl)) ?_; (with_reducible refine (dancestudiolaw50_of.calls  t791 _ A50.out).mono ?_); rintro e w60 ⟨rfl, hb⟩; refine ⟨_, rfl, ?_⟩; replace HO_775000 := Aside0.mk (Kd.S_below (by (with_reducible repeat (first | apply Kd.S_alloc | apply Kd.S_drewN | apply Kd.S_drew)); exact HO_775000.out) hb); replace HO_775001 := Aside0.mk (Kd.R_below HO_775001.out hb); replace HO_775002 := Aside0.mk (Kd.R_below HO_775002.out hb); replace HO789 := Aside0.mk (Kd.R_below HO789.out hb); replace BK2 := mBb BK2 hb; replace BK3 := mBb BK3 hb; replace HB := mSt HB hb; (try clear hb)) | ((with_reducible refine gate_callee (f := 21) rfl ?_); refine goesL_ (some 62) rfl rfl Try.func21 (by kernel_rfl) rfl #[.agg #[.slice Ao57 x775000_1.length co57, .slice Ao21 y765.length co21, .slice Ao20 y771.length co20, .int .i64 a0_3]] rfl (by (try simp only [List.map_toArray, List.map_cons, List.map_nil]); first | done | rfl | (simp only [List.length_drop, List.length_take]; rfl)) ?_; (with_reducible refine (rehearse_Plan.calls k1 _ _ x775000_1 _ _ y765 _ _ y771 a0_3 t792 t795 _ ?side1 ?side2 ?side3 ?side4 ?side5 ?side6 ?sidem_ A51.out).mono ?_); (case sidem_ => first | ((repeat (first | exact HMX_.out | apply Mx.drewN | apply Mx.drew)); done) | (refine Mx.below HMX_.out ?_; (repeat (first | (with_reducible first | exact HB.out | apply below_alloc | apply pw_below_drewN | apply below_drew1 | refine below_set ?_ (Aside0.out (by assumption))) | exact HB.out)); done)); (case side1 => repeat (first | exact (Kd.S_reads' HO_775000.out).2.2 | (with_reducible refine Kd.C_alloc ?_ _) | (with_reducible refine Kd.C_drewN ?_ _) | (with_reducible refine Kd.C_drew ?_))); (case side2 => exact (Kd.S_reads' HO_775000.out).2.1); (case side3 => repeat (first | exact (Kd.R_reads' HO_775001.out).2.2 | (with_reducible refine Kd.C_alloc ?_ _) | (with_reducible refine Kd.C_drewN ?_ _) | (with_reducible refine Kd.C_drew ?_))); (case side4 => exact (Kd.R_reads' HO_775001.out).2.1); (case side5 => repeat (first | exact (Kd.R_reads' HO_775002.out).2.2 | (with_reducible refine Kd.C_alloc ?_ _) | (with_reducible refine Kd.C_drewN ?_ _) | (with_reducible refine Kd.C_drew ?_))); (case side6 => exact (Kd.R_reads' HO_775002.out).2.1); rintro e w61 ⟨v793, rfl, ho0, hb⟩; refine ⟨_, rfl, ?_⟩; replace HO_775000 := Aside0.mk (Kd.S_below (by (with_reducible repeat (first | apply Kd.S_alloc | apply Kd.S_drewN | apply Kd.S_drew)); exact HO_775000.out) hb); replace HO_775001 := Aside0.mk (Kd.R_below HO_775001.out hb); replace HO_775002 := Aside0.mk (Kd.R_below HO_775002.out hb); have HO794 := Aside0.mk (Kd.R_lower (Kd.R_new' ho0 (Kd.R_lt HO789.out)) (below_size HB.out)); replace HO789 := Aside0.mk (Kd.R_elder' HO789.out (Kd.R_base ho0) hb); replace BK2 := mBb BK2 hb; replace BK3 := mBb BK3 hb; replace HB := mSt HB hb; (try clear hb); (try clear ho0)) | ((with_reducible refine gate_dst (N := 55) rfl ?_); obtain ⟨Ao57, co57, eo57⟩ := Kd.S_slice HO_775000.out; subst eo57; refine goesL_ (some 55) rfl rfl Try.func11 (by kernel_rfl) rfl #[.agg #[.slice Ao57 x775000_1.length co57, .slice Ao21 y765.length co21, .slice Ao20 y771.length co20, .int .i64 a0_3]] rfl (by (try simp only [List.map_toArray, List.map_cons, List.map_nil]); first | done | rfl | (simp only [List.length_drop, List.length_take]; rfl)) ?_; (with_reducible refine (dancestudiolaw50_of.calls  t786 _ A48.out).mono ?_); rintro e w56 ⟨rfl, hb⟩; refine ⟨_, rfl, ?_⟩; replace HO_775000 := Aside0.mk (Kd.S_below (by (with_reducible repeat (first | apply Kd.S_alloc | apply Kd.S_drewN | apply Kd.S_drew)); exact HO_775000.out) hb); replace HO_775001 := Aside0.mk (Kd.R_below HO_775001.out hb); replace HO_775002 := Aside0.mk (Kd.R_below HO_775002.out hb); replace BK2 := mBb BK2 hb; replace BK3 := mBb BK3 hb; replace HB := mSt HB hb; (try clear hb)) | ((with_reducible refine gate_callee (f := 21) rfl ?_); refine goesL_ (some 56) rfl rfl Try.func21 (by kernel_rfl) rfl #[.agg #[.slice Ao57 x775000_1.length co57, .slice Ao21 y765.length co21, .slice Ao20 y771.length co20, .int .i64 a0_3]] rfl (by (try simp only [List.map_toArray, List.map_cons, List.map_nil]); first | done | rfl | (simp only [List.length_drop, List.length_take]; rfl)) ?_; (with_reducible refine (rehearse_Plan.calls k1 _ _ x775000_1 _ _ y765 _ _ y771 a0_3 t787 t790 _ ?side1 ?side2 ?side3 ?side4 ?side5 ?side6 ?sidem_ A49.out).mono ?_); (case sidem_ => first | ((repeat (first | exact HMX_.out | apply Mx.drewN | apply Mx.drew)); done) | (refine Mx.below HMX_.out ?_; (repeat (first | (with_reducible first | exact HB.out | apply below_alloc | apply pw_below_drewN | apply below_drew1 | refine below_set ?_ (Aside0.out (by assumption))) | exact HB.out)); done)); (case side1 => repeat (first | exact (Kd.S_reads' HO_775000.out).2.2 | (with_reducible refine Kd.C_alloc ?_ _) | (with_reducible refine Kd.C_drewN ?_ _) | (with_reducible refine Kd.C_drew ?_))); (case side2 => exact (Kd.S_reads' HO_775000.out).2.1); (case side3 => repeat (first | exact (Kd.R_reads' HO_775001.out).2.2 | (with_reducible refine Kd.C_alloc ?_ _) | (with_reducible refine Kd.C_drewN ?_ _) | (with_reducible refine Kd.C_drew ?_))); (case side4 => exact (Kd.R_reads' HO_775001.out).2.1); (case side5 => repeat (first | exact (Kd.R_reads' HO_775002.out).2.2 | (with_reducible refine Kd.C_alloc ?_ _) | (with_reducible refine Kd.C_drewN ?_ _) | (with_reducible refine Kd.C_drew ?_))); (case side6 => exact (Kd.R_reads' HO_775002.out).2.1); rintro e w58 ⟨v788, rfl, ho0, hb⟩; refine ⟨_, rfl, ?_⟩; replace HO_775000 := Aside0.mk (Kd.S_below (by (with_reducible repeat (first | apply Kd.S_alloc | apply Kd.S_drewN | apply Kd.S_drew)); exact HO_775000.out) hb); replace HO_775001 := Aside0.mk (Kd.R_below HO_775001.out hb); replace HO_775002 := Aside0.mk (Kd.R_below HO_775002.out hb); have HO789 := Aside0.mk (Kd.R_lower ho0 (below_size HB.out)); replace BK2 := mBb BK2 hb; replace BK3 := mBb BK3 hb; replace HB := mSt HB hb; (try clear hb); (try clear ho0); have hcz59 := blk_cell BK3.out; have hfz59 := blk_frozen BK3.out))
   (try simp only [Act.put, List.setIfInBounds_toArray, List.set_cons_zero, List.set_cons_succ])
   go_cut [73] (fun v73 wc => ∃ (kq : Nat) (x73_51 : Bool), v73 = .bool x73_51 ∧ Aside0 (dancestudiolaw50_RehearseAgain.j1 kq t787 t790 t792 x73_51 l0_0 l0_1 l0_2 a0_3 x775000_1 y765 y771 a0_3 = some r) ∧ Aside0 (kq ≤ k1) ∧ Aside0 (Kd.R k48 48 wc w.heap.size (fun k_ => some k_ ≠ (v793 : Value).ownBlock) v788 t787) ∧ Aside0 (Kd.R k48 48 wc w.heap.size (fun k_ => some k_ ≠ (v788 : Value).ownBlock) v793 t792) ∧ Aside0 (Kd.S k53 53 wc w.heap.size (fun _ => True) (.slice Ao57 x775000_1.length co57) x775000_1) ∧ Aside0 (Kd.R k55 55 wc w.heap.size (fun _ => True) (.slice Ao21 y765.length co21) y765) ∧ Aside0 (Kd.R k59 59 wc w.heap.size (fun _ => True) (.slice Ao20 y771.length co20) y771) ∧ Aside0 (wc.heap[gb2]? = some (.cells #[(.slice A0_0 l0_0.length c0_0), (.slice A0_1 l0_1.length c0_1), (.slice A0_2 l0_2.length c0_2), .int .i64 a0_3] 26 (0, 0))) ∧ Aside0 (wc.heap[gb3]? = some (.cells #[(.slice Ao57 x775000_1.length co57), (.slice Ao21 y765.length co21), (.slice Ao20 y771.length co20), .int .i64 a0_3] 26 (0, 0))) ∧ Aside0 (Below w.heap.size w wc))
   case first =>
    have H := HC52.out
    clear HC52
    by_cases c62 : t790 = t795
    rotate_left
    ·
     rw [if_neg c62] at H
     have c62b0 : (t790 == t795) = false := beq_eq_false_iff_ne.mpr c62
     have c62b1 : (t790 != t795) = true := bne_iff_ne.mpr c62
     (first | rw [c62b0] | (simp only [i64_w, i32_w]; rw [c62b0]) | skip)
     have H' := Aside0.mk H
     clear H
     go_wp2
     go_meet
     case rel => exact ⟨_, (true), (by first | rfl | (simp; done) | (simp [*]; done)), H', ⟨by have := HK1.out; first | omega | exact Nat.le_refl _⟩, ⟨by (with_reducible repeat (first | apply Kd.R_alloc | apply Kd.R_drewN | apply Kd.R_drew)); exact Kd.R_mono HO789.out (fun _ hk => hk.2)⟩, ⟨by (with_reducible repeat (first | apply Kd.R_alloc | apply Kd.R_drewN | apply Kd.R_drew)); exact Kd.R_mono HO794.out (fun _ hk => hk.2)⟩, ⟨by (with_reducible repeat (first | apply Kd.S_alloc | apply Kd.S_drewN | apply Kd.S_drew)); exact HO_775000.out⟩, ⟨by (with_reducible repeat (first | apply Kd.R_alloc | apply Kd.R_drewN | apply Kd.R_drew)); exact HO_775001.out⟩, ⟨by (with_reducible repeat (first | apply Kd.R_alloc | apply Kd.R_drewN | apply Kd.R_drew)); exact HO_775002.out⟩, ⟨BK2.out⟩, ⟨BK3.out⟩, ⟨HB.out⟩⟩
    rw [if_pos c62] at H
    have c62b0 : (t790 == t795) = true := beq_iff_eq.mpr c62
    have c62b1 : (t790 != t795) = false := bne_eq_false_iff_eq.mpr c62
    clear c62
    (first | rw [c62b0] | (simp only [i64_w, i32_w]; rw [c62b0]) | skip)
    replace H := Option.bind_eq_some_iff.mp H
    obtain ⟨t796, A630, H⟩ := H
    try dsimp only at H
    have A63 := Aside0.mk A630
    clear A630
    have H' := Aside0.mk H
    clear H
    obtain ⟨Ao64, co64, eo64⟩ := Kd.R_slice HO789.out
    subst eo64
    obtain ⟨Ao65, co65, eo65⟩ := Kd.R_slice HO794.out
    subst eo65
    go_wp2_with (first | (go_at_call 23; (with_reducible refine (dancestudioref50_Same.calls k1 _ _ t787 _ _ t792 t796 _ ?side1 ?side2 ?side3 ?side4 A63.out).mono ?_); (case side1 => repeat (first | exact (Kd.R_reads' HO789.out).2.2 | (with_reducible refine Kd.C_alloc ?_ _) | (with_reducible refine Kd.C_drewN ?_ _) | (with_reducible refine Kd.C_drew ?_))); (case side2 => exact (Kd.R_reads' HO789.out).2.1); (case side3 => repeat (first | exact (Kd.R_reads' HO794.out).2.2 | (with_reducible refine Kd.C_alloc ?_ _) | (with_reducible refine Kd.C_drewN ?_ _) | (with_reducible refine Kd.C_drew ?_))); (case side4 => exact (Kd.R_reads' HO794.out).2.1); rintro e w' ⟨rfl, ⟨nd, rfl⟩⟩))
    go_meet
    case rel => exact ⟨_, (!t796), (by first | rfl | (simp; done) | (simp [*]; done)), H', ⟨by have := HK1.out; first | omega | exact Nat.le_refl _⟩, ⟨by (with_reducible repeat (first | apply Kd.R_alloc | apply Kd.R_drewN | apply Kd.R_drew)); exact Kd.R_mono HO789.out (fun _ hk => hk.2)⟩, ⟨by (with_reducible repeat (first | apply Kd.R_alloc | apply Kd.R_drewN | apply Kd.R_drew)); exact Kd.R_mono HO794.out (fun _ hk => hk.2)⟩, ⟨by (with_reducible repeat (first | apply Kd.S_alloc | apply Kd.S_drewN | apply Kd.S_drew)); exact HO_775000.out⟩, ⟨by (with_reducible repeat (first | apply Kd.R_alloc | apply Kd.R_drewN | apply Kd.R_drew)); exact HO_775001.out⟩, ⟨by (with_reducible repeat (first | apply Kd.R_alloc | apply Kd.R_drewN | apply Kd.R_drew)); exact HO_775002.out⟩, ⟨BK2.out⟩, ⟨BK3.out⟩, ⟨by repeat (first | (with_reducible first | exact HB.out | apply below_alloc | apply pw_below_drewN | apply below_drew1 | refine below_set ?_ GE2.out | refine below_set ?_ GE3.out) | exact HB.out)⟩⟩
   case rest =>
    clear HC52; try clear c1; try clear c2; try clear p2; try clear c3; try clear c4; try clear c5; try clear c6; try clear p6; try clear c7; try clear p7; try clear q7; try clear hx7; try clear c11; try clear c21; try clear c26; try clear c26b0; try clear c27; try clear c27b0; try clear c28; try clear c29; try clear c30; try clear c33; try clear c34; try clear c53; try clear c62; try clear c62b0; try clear c62b1; try clear p64; try clear hcz31_0; try clear hcz31_1; try clear hcz31_2; try clear hcz31_3; try clear hcz35_0; try clear hcz35_1; try clear hcz35_2; try clear hcz38_0; try clear hcz38_1; try clear hcz38_2; try clear hcz41_0; try clear hcz41_1; try clear hcz41_2; try clear hcz43_0; try clear hcz43_1; try clear hcz43_2; try clear hcz43_3; try clear hcz44_0; try clear hcz44_1; try clear hcz44_2; try clear hcz47_0; try clear hcz47_1; try clear hcz47_2; try clear hcz47_3; try clear hcz54_0; try clear hcz54_1; try clear hcz54_2; try clear hcz54_3; try clear hcz55_0; try clear hcz55_1; try clear hcz55_2; try clear hcz55_3; try clear hcz59_0; try clear hcz59_1; try clear hcz59_2; try clear hcz59_3; try clear hfz31_0; try clear hfz31_1; try clear hfz31_2; try clear hfz31_3; try clear hfz35_0; try clear hfz35_1; try clear hfz35_2; try clear hfz38_0; try clear hfz38_1; try clear hfz38_2; try clear hfz41_0; try clear hfz41_1; try clear hfz41_2; try clear hfz43_0; try clear hfz43_1; try clear hfz43_2; try clear hfz43_3; try clear hfz44_0; try clear hfz44_1; try clear hfz44_2; try clear hfz47_0; try clear hfz47_1; try clear hfz47_2; try clear hfz47_3; try clear hfz54_0; try clear hfz54_1; try clear hfz54_2; try clear hfz54_3; try clear hfz55_0; try clear hfz55_1; try clear hfz55_2; try clear hfz55_3; try clear hfz59_0; try clear hfz59_1; try clear hfz59_2; try clear hfz59_3; try clear hx775_0; try clear hx775_1; try clear hx775_2; try clear p775; try clear q775
    obtain ⟨kq, x73_51, rfl, HA, HJ51, HO_6, HO_8, HO_775000, HO_775001, HO_775002, BK2, BK3, HB⟩ := hcut
    cases kq with
    | zero => exact absurd HA.out (by simp [dancestudiolaw50_RehearseAgain.j1])
    | succ kj51 =>
     have H := HA.out
     clear HA
     simp only [dancestudiolaw50_RehearseAgain.j1] at H
     by_cases c66 : x73_51 = true
     ·
      subst c66
      rw [if_pos rfl] at H
      exact absurd H (by simp)
     replace c66 := Bool.eq_false_iff.mpr c66
     subst c66
     rw [if_neg (show ¬ (false = true) by decide)] at H
     have H' := Aside0.mk H
     clear H
     go_wp2
     go_loopg [10] kj51 (fun kq v10 w' => ∃ (x6_3 : List (S48)) (x10_3 : Int), v10 = .int .i64 x10_3 ∧ Aside0 (dancestudiolaw50_RehearseAgain.l1 kq x6_3 t790 t792 x10_3 l0_0 l0_1 l0_2 a0_3 x775000_1 y765 y771 a0_3 = some r) ∧ Aside0 (kq ≤ kj51) ∧ Aside0 (Kd.R k48 48 w' w.heap.size (fun k_ => some k_ ≠ (v793 : Value).ownBlock) v788 x6_3) ∧ Aside0 (Kd.R k48 48 w' w.heap.size (fun k_ => some k_ ≠ (v788 : Value).ownBlock) v793 t792) ∧ Aside0 (Kd.S k53 53 w' w.heap.size (fun _ => True) (.slice Ao57 x775000_1.length co57) x775000_1) ∧ Aside0 (Kd.R k55 55 w' w.heap.size (fun _ => True) (.slice Ao21 y765.length co21) y765) ∧ Aside0 (Kd.R k59 59 w' w.heap.size (fun _ => True) (.slice Ao20 y771.length co20) y771) ∧ Aside0 (w'.heap[gb2]? = some (.cells #[(.slice A0_0 l0_0.length c0_0), (.slice A0_1 l0_1.length c0_1), (.slice A0_2 l0_2.length c0_2), .int .i64 a0_3] 26 (0, 0))) ∧ Aside0 (w'.heap[gb3]? = some (.cells #[(.slice Ao57 x775000_1.length co57), (.slice Ao21 y765.length co21), (.slice Ao20 y771.length co20), .int .i64 a0_3] 26 (0, 0))) ∧ Aside0 (Below w.heap.size w w'))
     case atStart => exact ⟨(t787), (0), (by first | rfl | (simp; done) | (simp [*]; done)), H', ⟨Nat.le_refl _⟩, ⟨by (with_reducible repeat (first | apply Kd.R_alloc | apply Kd.R_drewN | apply Kd.R_drew)); exact HO_6.out⟩, ⟨by (with_reducible repeat (first | apply Kd.R_alloc | apply Kd.R_drewN | apply Kd.R_drew)); exact HO_8.out⟩, ⟨by (with_reducible repeat (first | apply Kd.S_alloc | apply Kd.S_drewN | apply Kd.S_drew)); exact HO_775000.out⟩, ⟨by (with_reducible repeat (first | apply Kd.R_alloc | apply Kd.R_drewN | apply Kd.R_drew)); exact HO_775001.out⟩, ⟨by (with_reducible repeat (first | apply Kd.R_alloc | apply Kd.R_drewN | apply Kd.R_drew)); exact HO_775002.out⟩, ⟨BK2.out⟩, ⟨BK3.out⟩, ⟨HB.out⟩⟩
     case round =>
      clear H'
      try clear c1; try clear c2; try clear p2; try clear c3; try clear c4; try clear c5; try clear c6; try clear p6; try clear c7; try clear p7; try clear q7; try clear hx7; try clear c11; try clear c21; try clear c26; try clear c26b0; try clear c27; try clear c27b0; try clear c28; try clear c29; try clear c30; try clear c33; try clear c34; try clear c53; try clear c62; try clear c62b0; try clear c62b1; try clear p64; try clear c66; try clear hcz31_0; try clear hcz31_1; try clear hcz31_2; try clear hcz31_3; try clear hcz35_0; try clear hcz35_1; try clear hcz35_2; try clear hcz38_0; try clear hcz38_1; try clear hcz38_2; try clear hcz41_0; try clear hcz41_1; try clear hcz41_2; try clear hcz43_0; try clear hcz43_1; try clear hcz43_2; try clear hcz43_3; try clear hcz44_0; try clear hcz44_1; try clear hcz44_2; try clear hcz47_0; try clear hcz47_1; try clear hcz47_2; try clear hcz47_3; try clear hcz54_0; try clear hcz54_1; try clear hcz54_2; try clear hcz54_3; try clear hcz55_0; try clear hcz55_1; try clear hcz55_2; try clear hcz55_3; try clear hcz59_0; try clear hcz59_1; try clear hcz59_2; try clear hcz59_3; try clear hfz31_0; try clear hfz31_1; try clear hfz31_2; try clear hfz31_3; try clear hfz35_0; try clear hfz35_1; try clear hfz35_2; try clear hfz38_0; try clear hfz38_1; try clear hfz38_2; try clear hfz41_0; try clear hfz41_1; try clear hfz41_2; try clear hfz43_0; try clear hfz43_1; try clear hfz43_2; try clear hfz43_3; try clear hfz44_0; try clear hfz44_1; try clear hfz44_2; try clear hfz47_0; try clear hfz47_1; try clear hfz47_2; try clear hfz47_3; try clear hfz54_0; try clear hfz54_1; try clear hfz54_2; try clear hfz54_3; try clear hfz55_0; try clear hfz55_1; try clear hfz55_2; try clear hfz55_3; try clear hfz59_0; try clear hfz59_1; try clear hfz59_2; try clear hfz59_3; try clear hx775_0; try clear hx775_1; try clear hx775_2; try clear p775; try clear q775
      obtain ⟨x6_3, x10_3, rfl, HA, HK3, HO_6, HO_8, HO_775000, HO_775001, HO_775002, BK2, BK3, HB⟩ := hrel
      cases gk with
      | zero => exact absurd HA.out (by simp [dancestudiolaw50_RehearseAgain.l1])
      | succ k3 =>
       have H := HA.out
       clear HA
       simp only [dancestudiolaw50_RehearseAgain.l1] at H
       by_cases c67 : x10_3 < (x6_3.length : Int)
       ·
        rw [if_pos c67] at H
        have c67b0 : decide (x10_3 < (x6_3.length : Int)) = true := decide_eq_true c67
        clear c67
        obtain ⟨c68, H⟩ : (0 ≤ x10_3) ∧ _ := mIf H
        have c68b0 : decide (0 ≤ x10_3) = true := decide_eq_true c68
        clear c68
        obtain ⟨y797, hy797⟩ : ∃ y_ : List (S48), y_ = (x6_3.set (x10_3 : Int).toNat (⟨(-1), (-1), (-1)⟩ : S48)) := ⟨_, rfl⟩
        rw [← hy797] at H
        have Ny797 := Aside0.mk hy797
        clear hy797
        have H' := Aside0.mk H
        clear H
        obtain ⟨Ao70, co70, eo70⟩ := Kd.R_slice HO_6.out
        subst eo70
        have p69 : 0 ≤ (x10_3 : Int) := of_decide_eq_true (by first | (with_reducible assumption) | assumption)
        have q69 : (x10_3 : Int) < ((x6_3.length : Int) : Int) := of_decide_eq_true (by first | (with_reducible assumption) | assumption)
        obtain ⟨go69, co69, eo69, gb1, gl69, cl69, HG69⟩ := Kd.R_form HO_6.out (by omega)
        (first | cases eo69 | (injection eo69 with ea_ en_ ec_; (first | subst ea_ | (injection ea_ with ea_; subst ea_)); subst ec_; clear en_))
        have GB69 := Aside0.mk gb1
        have GG69 := Aside0.mk HG69
        clear gb1 gl69 HG69
        obtain ⟨ce69, hcl69, hM69, hcc69, hfr69⟩ := Kd.R_elem HO_6.out z48 (x10_3 : Int) p69 q69
        obtain rfl := k48_openM hM69
        have hx69_0 : wr.cell? ⟨go69, (x10_3 : Int).toNat * 3, none⟩ = some (.int .i64 ((rd_T48 x6_3 x10_3).f0)) := hcc69 0 _ rfl
        have hx69_1 : wr.cell? ⟨go69, (x10_3 : Int).toNat * 3 + 1, none⟩ = some (.int .i64 ((rd_T48 x6_3 x10_3).f1)) := hcc69 1 _ rfl
        have hx69_2 : wr.cell? ⟨go69, (x10_3 : Int).toNat * 3 + 2, none⟩ = some (.int .i64 ((rd_T48 x6_3 x10_3).f2)) := hcc69 2 _ rfl
        have hf69_0 : wr.frozen? ⟨go69, (x10_3 : Int).toNat * 3, none⟩ = false := hfr69 0
        have hf69_1 : wr.frozen? ⟨go69, (x10_3 : Int).toNat * 3 + 1, none⟩ = false := hfr69 1
        have hf69_2 : wr.frozen? ⟨go69, (x10_3 : Int).toNat * 3 + 2, none⟩ = false := hfr69 2
        clear hcl69 hcc69 hfr69 hM69
        replace p69 := eq_true p69
        replace q69 := eq_true q69
        have HX71 := Aside0.mk (show Kd.R k48 48 wr w.heap.size (fun k_ => some k_ ≠ (v793 : Value).ownBlock) (.slice (some ⟨go69, 0, none⟩) x6_3.length co70) x6_3 from HO_6.out)
        obtain ⟨ce71, hcl71, hM71, hcc71, hfr71⟩ := Kd.R_elem HX71.out z48 (x10_3 : Int) (of_decide_eq_true (by first | (with_reducible assumption) | assumption)) (by have h_ : (x10_3 : Int) < ((x6_3.length : Int) : Int) := of_decide_eq_true (by first | (with_reducible assumption) | assumption); first | exact h_ | (have e_ := (Kd.R_reads' HO_6.out).1; omega) | simpa using h_)
        obtain rfl := k48_openM hM71
        have HP71 := Kd.R_seg HX71.out (x10_3 : Int) (of_decide_eq_true (by first | (with_reducible assumption) | assumption)) (by have h_ : (x10_3 : Int) < ((x6_3.length : Int) : Int) := of_decide_eq_true (by first | (with_reducible assumption) | assumption); first | exact h_ | (have e_ := (Kd.R_reads' HO_6.out).1; omega) | simpa using h_) (seg := [.int .i64 (-1), .int .i64 (-1), .int .i64 (-1)]) (j := 0) hcl71 hcc71 (show 3 ≤ 3 from by decide) (x' := (⟨(-1), (-1), (-1)⟩ : S48)) (k48_mkM _ _ _ (⟨(-1), (-1), (-1)⟩ : S48) ) (fun _ hk => hk)
        have hx71_0 := hcc71 0 _ rfl
        (try simp only [show (k48).sz = 3 from rfl, Nat.mul_one, Nat.add_zero] at hx71_0)
        have hf71_0 := hfr71 0
        (try simp only [show (k48).sz = 3 from rfl, Nat.mul_one, Nat.add_zero] at hf71_0)
        have hx71_1 := hcc71 1 _ rfl
        (try simp only [show (k48).sz = 3 from rfl, Nat.mul_one, Nat.add_zero] at hx71_1)
        have hf71_1 := hfr71 1
        (try simp only [show (k48).sz = 3 from rfl, Nat.mul_one, Nat.add_zero] at hf71_1)
        have hx71_2 := hcc71 2 _ rfl
        (try simp only [show (k48).sz = 3 from rfl, Nat.mul_one, Nat.add_zero] at hx71_2)
        have hf71_2 := hfr71 2
        (try simp only [show (k48).sz = 3 from rfl, Nat.mul_one, Nat.add_zero] at hf71_2)
        clear hcl71 hcc71 hfr71 hM71
        go_wp2_with (first | ((with_reducible refine gate_store (t := 48) (p := 83) rfl ?_); refine store_event (t := 48) (p := 83) (v := ?vo_w72) (w1 := (((wr.setCell ⟨go69, (x10_3 : Int).toNat * 3, none⟩ (.int .i64 (-1))).setCell ⟨go69, (x10_3 : Int).toNat * 3 + 1, none⟩ (.int .i64 (-1))).setCell ⟨go69, (x10_3 : Int).toNat * 3 + 2, none⟩ (.int .i64 (-1)))) ?hg ?ho ?hn ?hr ?_; (case ho => rfl); (case hg => rfl); (case hn => rfl); (case hr => first | (go_simp; done) | (go_simp; rfl)); intro w72 hw; have hg : wr.grownBy w72 (some go69) := (by rw [hw]; exact HP71.2); have hp_ : Kd.R k48 48 w72 w.heap.size (fun k_ => some k_ ≠ (v793 : Value).ownBlock) (.slice (some ⟨go69, 0, none⟩) x6_3.length co70) y797 := (by rw [hw, Ny797.out]; exact HP71.1); clear HP71; replace HO_8 := Aside0.mk (Kd.R_after (v := (.slice (some ⟨go69, 0, none⟩) x6_3.length co70)) (v1 := (.slice (some ⟨go69, 0, none⟩) x6_3.length co70)) (ok := (fun _ => True)) (by (with_reducible repeat (first | apply Kd.R_alloc | apply Kd.R_drewN | apply Kd.R_drew)); exact Kd.R_mono HO_8.out (fun _ hk => ⟨trivial, hk⟩)) hg (.inl rfl)); replace HO_775000 := Aside0.mk (Kd.S_over' (v := (.slice (some ⟨go69, 0, none⟩) x6_3.length co70)) (by (with_reducible repeat (first | apply Kd.S_alloc | apply Kd.S_drewN | apply Kd.S_drew)); exact HO_775000.out) (Kd.R_typed HO_6.out) (by decide) hg); replace HO_775001 := Aside0.mk (Kd.R_over' (v := (.slice (some ⟨go69, 0, none⟩) x6_3.length co70)) HO_775001.out (Kd.R_typed HO_6.out) (by decide) hg); replace HO_775002 := Aside0.mk (Kd.R_over' (v := (.slice (some ⟨go69, 0, none⟩) x6_3.length co70)) HO_775002.out (Kd.R_typed HO_6.out) (by decide) hg); replace BK2 := Aside0.mk (blk_grown (g := gb2) (o := .cells #[.slice A0_0 l0_0.length c0_0, .slice A0_1 l0_1.length c0_1, .slice A0_2 l0_2.length c0_2, .int .i64 a0_3] 26 (0, 0)) BK2.out hg (Kd.R_ne HO_6.out BK2.out (by decide))); replace BK3 := Aside0.mk (blk_grown (g := gb3) (o := .cells #[.slice Ao57 x775000_1.length co57, .slice Ao21 y765.length co21, .slice Ao20 y771.length co20, .int .i64 a0_3] 26 (0, 0)) BK3.out hg (Kd.R_ne HO_6.out BK3.out (by decide))); replace HO_6 := Aside0.mk (hp_); replace HB := Aside0.mk ((by rw [hw]; exact below_set (below_set (below_set (HB.out) GB69.out) GB69.out) GB69.out : Below w.heap.size w w72)); clear hg hw hp_))
        go_roundg k3
        case measure => have := HK1.out; have := HJ51.out; have := HK3.out; omega
        case rel => exact ⟨(y797), (wrap64 (x10_3 + 1)), (by first | rfl | (simp; done) | (simp [*]; done)), H', ⟨by have := HK1.out; have := HJ51.out; have := HK3.out; omega⟩, ⟨by (with_reducible repeat (first | apply Kd.R_alloc | apply Kd.R_drewN | apply Kd.R_drew)); exact HO_6.out⟩, ⟨by (with_reducible repeat (first | apply Kd.R_alloc | apply Kd.R_drewN | apply Kd.R_drew)); exact Kd.R_mono HO_8.out (fun _ hk => hk.2)⟩, ⟨by (with_reducible repeat (first | apply Kd.S_alloc | apply Kd.S_drewN | apply Kd.S_drew)); exact HO_775000.out⟩, ⟨by (with_reducible repeat (first | apply Kd.R_alloc | apply Kd.R_drewN | apply Kd.R_drew)); exact HO_775001.out⟩, ⟨by (with_reducible repeat (first | apply Kd.R_alloc | apply Kd.R_drewN | apply Kd.R_drew)); exact HO_775002.out⟩, ⟨BK2.out⟩, ⟨BK3.out⟩, ⟨HB.out⟩⟩
       rw [if_neg c67] at H
       have c67b0 : decide (x10_3 < (x6_3.length : Int)) = false := decide_eq_false c67
       clear c67
       replace H := Option.bind_eq_some_iff.mp H
       obtain ⟨t798, A730, H⟩ := H
       try dsimp only at H
       have A73 := Aside0.mk A730
       clear A730
       replace H := Option.bind_eq_some_iff.mp H
       obtain ⟨⟨t799, t802⟩, A740, H⟩ := H
       try dsimp only at H
       have A74 := Aside0.mk A740
       clear A740
       have H' := Aside0.mk H
       clear H
       obtain ⟨Ao75, co75, eo75⟩ := Kd.R_slice HO_6.out
       subst eo75
       have hnb76 := NB3_2.out
       have hnc76 := NB2_3.out
       have hcz77 := blk_cell BK3.out; have hfz77 := blk_frozen BK3.out
       go_wp2_with (first | ((with_reducible refine gate_dst (N := 86) rfl ?_); refine goesL_ (some 86) rfl rfl Try.func11 (by kernel_rfl) rfl #[.agg #[.slice Ao57 x775000_1.length co57, .slice Ao21 y765.length co21, .slice Ao20 y771.length co20, .int .i64 a0_3]] rfl (by (try simp only [List.map_toArray, List.map_cons, List.map_nil]); first | done | rfl | (simp only [List.length_drop, List.length_take]; rfl)) ?_; (with_reducible refine (dancestudiolaw50_of.calls  t798 _ A73.out).mono ?_); rintro e w78 ⟨rfl, hb⟩; refine ⟨_, rfl, ?_⟩; replace HO_6 := Aside0.mk (Kd.R_below HO_6.out hb); replace HO_8 := Aside0.mk (Kd.R_below HO_8.out hb); replace HO_775000 := Aside0.mk (Kd.S_below (by (with_reducible repeat (first | apply Kd.S_alloc | apply Kd.S_drewN | apply Kd.S_drew)); exact HO_775000.out) hb); replace HO_775001 := Aside0.mk (Kd.R_below HO_775001.out hb); replace HO_775002 := Aside0.mk (Kd.R_below HO_775002.out hb); replace BK2 := mBb BK2 hb; replace BK3 := mBb BK3 hb; replace HB := mSt HB hb; (try clear hb)) | ((with_reducible refine gate_callee (f := 21) rfl ?_); refine goesL_ (some 87) rfl rfl Try.func21 (by kernel_rfl) rfl #[.agg #[.slice Ao57 x775000_1.length co57, .slice Ao21 y765.length co21, .slice Ao20 y771.length co20, .int .i64 a0_3]] rfl (by (try simp only [List.map_toArray, List.map_cons, List.map_nil]); first | done | rfl | (simp only [List.length_drop, List.length_take]; rfl)) ?_; (with_reducible refine (rehearse_Plan.calls k3 _ _ x775000_1 _ _ y765 _ _ y771 a0_3 t799 t802 _ ?side1 ?side2 ?side3 ?side4 ?side5 ?side6 ?sidem_ A74.out).mono ?_); (case sidem_ => first | ((repeat (first | exact HMX_.out | apply Mx.drewN | apply Mx.drew)); done) | (refine Mx.below HMX_.out ?_; (repeat (first | (with_reducible first | exact HB.out | apply below_alloc | apply pw_below_drewN | apply below_drew1 | refine below_set ?_ (Aside0.out (by assumption))) | exact HB.out)); done)); (case side1 => repeat (first | exact (Kd.S_reads' HO_775000.out).2.2 | (with_reducible refine Kd.C_alloc ?_ _) | (with_reducible refine Kd.C_drewN ?_ _) | (with_reducible refine Kd.C_drew ?_))); (case side2 => exact (Kd.S_reads' HO_775000.out).2.1); (case side3 => repeat (first | exact (Kd.R_reads' HO_775001.out).2.2 | (with_reducible refine Kd.C_alloc ?_ _) | (with_reducible refine Kd.C_drewN ?_ _) | (with_reducible refine Kd.C_drew ?_))); (case side4 => exact (Kd.R_reads' HO_775001.out).2.1); (case side5 => repeat (first | exact (Kd.R_reads' HO_775002.out).2.2 | (with_reducible refine Kd.C_alloc ?_ _) | (with_reducible refine Kd.C_drewN ?_ _) | (with_reducible refine Kd.C_drew ?_))); (case side6 => exact (Kd.R_reads' HO_775002.out).2.1); rintro e w79 ⟨v800, rfl, ho0, hb⟩; refine ⟨_, rfl, ?_⟩; replace HO_775000 := Aside0.mk (Kd.S_below (by (with_reducible repeat (first | apply Kd.S_alloc | apply Kd.S_drewN | apply Kd.S_drew)); exact HO_775000.out) hb); replace HO_775001 := Aside0.mk (Kd.R_below HO_775001.out hb); replace HO_775002 := Aside0.mk (Kd.R_below HO_775002.out hb); have HO801 := Aside0.mk (Kd.R_lower (Kd.R_new' (Kd.R_new' ho0 (Kd.R_lt HO_6.out)) (Kd.R_lt HO_8.out)) (below_size HB.out)); replace HO_6 := Aside0.mk (Kd.R_elder' HO_6.out (Kd.R_base ho0) hb); replace HO_8 := Aside0.mk (Kd.R_elder' HO_8.out (Kd.R_base ho0) hb); replace BK2 := mBb BK2 hb; replace BK3 := mBb BK3 hb; replace HB := mSt HB hb; (try clear hb); (try clear ho0)))
       go_loopg [13] k3 (fun kq v13 w' => ∃ (x13_4 : Int), v13 = .int .i64 x13_4 ∧ Aside0 (dancestudiolaw50_RehearseAgain.l2 kq t790 t792 t799 t802 x13_4 l0_0 l0_1 l0_2 a0_3 x775000_1 y765 y771 a0_3 = some r) ∧ Aside0 (kq ≤ k3) ∧ Aside0 (Kd.R k48 48 w' w.heap.size (fun k_ => some k_ ≠ (v800 : Value).ownBlock) v793 t792) ∧ Aside0 (Kd.R k48 48 w' w.heap.size (fun k_ => some k_ ≠ (v793 : Value).ownBlock) v800 t799) ∧ Aside0 (Kd.S k53 53 w' w.heap.size (fun _ => True) (.slice Ao57 x775000_1.length co57) x775000_1) ∧ Aside0 (Kd.R k55 55 w' w.heap.size (fun _ => True) (.slice Ao21 y765.length co21) y765) ∧ Aside0 (Kd.R k59 59 w' w.heap.size (fun _ => True) (.slice Ao20 y771.length co20) y771) ∧ Aside0 (w'.heap[gb2]? = some (.cells #[(.slice A0_0 l0_0.length c0_0), (.slice A0_1 l0_1.length c0_1), (.slice A0_2 l0_2.length c0_2), .int .i64 a0_3] 26 (0, 0))) ∧ Aside0 (w'.heap[gb3]? = some (.cells #[(.slice Ao57 x775000_1.length co57), (.slice Ao21 y765.length co21), (.slice Ao20 y771.length co20), .int .i64 a0_3] 26 (0, 0))) ∧ Aside0 (Below w.heap.size w w'))
       case atStart => exact ⟨(0), (by first | rfl | (simp; done) | (simp [*]; done)), H', ⟨Nat.le_refl _⟩, ⟨by (with_reducible repeat (first | apply Kd.R_alloc | apply Kd.R_drewN | apply Kd.R_drew)); exact Kd.R_mono HO_8.out (fun _ hk => hk.2)⟩, ⟨by (with_reducible repeat (first | apply Kd.R_alloc | apply Kd.R_drewN | apply Kd.R_drew)); exact Kd.R_mono HO801.out (fun _ hk => hk.2)⟩, ⟨by (with_reducible repeat (first | apply Kd.S_alloc | apply Kd.S_drewN | apply Kd.S_drew)); exact HO_775000.out⟩, ⟨by (with_reducible repeat (first | apply Kd.R_alloc | apply Kd.R_drewN | apply Kd.R_drew)); exact HO_775001.out⟩, ⟨by (with_reducible repeat (first | apply Kd.R_alloc | apply Kd.R_drewN | apply Kd.R_drew)); exact HO_775002.out⟩, ⟨BK2.out⟩, ⟨BK3.out⟩, ⟨HB.out⟩⟩
       case round =>
        clear H'
        try clear c1; try clear c2; try clear p2; try clear c3; try clear c4; try clear c5; try clear c6; try clear p6; try clear q6; try clear hx6; try clear hf6; try clear c7; try clear p7; try clear q7; try clear hx7; try clear hf7; try clear c11; try clear c21; try clear c26; try clear c26b0; try clear c27; try clear c27b0; try clear c28; try clear c29; try clear c30; try clear c33; try clear c34; try clear c53; try clear c62; try clear c62b0; try clear c62b1; try clear p64; try clear c66; try clear c67; try clear c67b0; try clear c68; try clear c68b0; try clear c69; try clear p69; try clear q69; try clear hx69; try clear hf69; try clear c71; try clear hx71; try clear hf71; try clear c76; try clear c77; try clear p77; try clear q77; try clear hx77; try clear hcz31_0; try clear hcz31_1; try clear hcz31_2; try clear hcz31_3; try clear hcz35_0; try clear hcz35_1; try clear hcz35_2; try clear hcz38_0; try clear hcz38_1; try clear hcz38_2; try clear hcz41_0; try clear hcz41_1; try clear hcz41_2; try clear hcz43_0; try clear hcz43_1; try clear hcz43_2; try clear hcz43_3; try clear hcz44_0; try clear hcz44_1; try clear hcz44_2; try clear hcz47_0; try clear hcz47_1; try clear hcz47_2; try clear hcz47_3; try clear hcz54_0; try clear hcz54_1; try clear hcz54_2; try clear hcz54_3; try clear hcz55_0; try clear hcz55_1; try clear hcz55_2; try clear hcz55_3; try clear hcz59_0; try clear hcz59_1; try clear hcz59_2; try clear hcz59_3; try clear hcz77_0; try clear hcz77_1; try clear hcz77_2; try clear hcz77_3; try clear hfz31_0; try clear hfz31_1; try clear hfz31_2; try clear hfz31_3; try clear hfz35_0; try clear hfz35_1; try clear hfz35_2; try clear hfz38_0; try clear hfz38_1; try clear hfz38_2; try clear hfz41_0; try clear hfz41_1; try clear hfz41_2; try clear hfz43_0; try clear hfz43_1; try clear hfz43_2; try clear hfz43_3; try clear hfz44_0; try clear hfz44_1; try clear hfz44_2; try clear hfz47_0; try clear hfz47_1; try clear hfz47_2; try clear hfz47_3; try clear hfz54_0; try clear hfz54_1; try clear hfz54_2; try clear hfz54_3; try clear hfz55_0; try clear hfz55_1; try clear hfz55_2; try clear hfz55_3; try clear hfz59_0; try clear hfz59_1; try clear hfz59_2; try clear hfz59_3; try clear hfz77_0; try clear hfz77_1; try clear hfz77_2; try clear hfz77_3; try clear hx69_0; try clear hx69_1; try clear hx69_2; try clear hx71_0; try clear hx71_1; try clear hx71_2; try clear hx775_0; try clear hx775_1; try clear hx775_2; try clear p775; try clear q775
        obtain ⟨x13_4, rfl, HA, HK4, HO_8, HO_11, HO_775000, HO_775001, HO_775002, BK2, BK3, HB⟩ := hrel
        cases gk with
        | zero => exact absurd HA.out (by simp [dancestudiolaw50_RehearseAgain.l2])
        | succ k4 =>
         have H := HA.out
         clear HA
         simp only [dancestudiolaw50_RehearseAgain.l2] at H
         by_cases c80 : x13_4 < (l0_0.length : Int)
         rotate_left
         ·
          rw [if_neg c80] at H
          have c80b0 : decide (x13_4 < (l0_0.length : Int)) = false := decide_eq_false c80
          clear c80
          obtain ⟨c95, H⟩ : (t802 = t790) ∧ _ := mIf H
          have c95b0 : (t802 == t790) = true := beq_iff_eq.mpr c95
          have c95b1 : (t802 != t790) = false := bne_eq_false_iff_eq.mpr c95
          clear c95
          replace H := Option.bind_eq_some_iff.mp H
          obtain ⟨t803, A960, H⟩ := H
          try dsimp only at H
          have A96 := Aside0.mk A960
          clear A960
          by_cases c97 : t803 = true
          rotate_left
          ·
           replace c97 := Bool.eq_false_iff.mpr c97
           subst c97
           rw [if_neg (show ¬ (false = true) by decide)] at H
           exact absurd H (by simp)
          subst c97
          rw [if_pos rfl] at H
          replace H := Option.bind_eq_some_iff.mp H
          obtain ⟨t804, A980, H⟩ := H
          try dsimp only at H
          have A98 := Aside0.mk A980
          clear A980
          obtain rfl := Option.some.inj H
          have hnb99 := NB2_3.out
          have hnc99 := NB3_2.out
          have hcz100 := blk_cell BK2.out; have hfz100 := blk_frozen BK2.out
          obtain ⟨Ao101, co101, eo101⟩ := Kd.R_slice HO_8.out
          subst eo101
          obtain ⟨Ao102, co102, eo102⟩ := Kd.R_slice HO_11.out
          subst eo102
          go_wp2_with (first | (go_at_call 23; (with_reducible refine (dancestudioref50_Same.calls k4 _ _ t792 _ _ t799 true _ ?side1 ?side2 ?side3 ?side4 A96.out).mono ?_); (case side1 => repeat (first | exact (Kd.R_reads' HO_8.out).2.2 | (with_reducible refine Kd.C_alloc ?_ _) | (with_reducible refine Kd.C_drewN ?_ _) | (with_reducible refine Kd.C_drew ?_))); (case side2 => exact (Kd.R_reads' HO_8.out).2.1); (case side3 => repeat (first | exact (Kd.R_reads' HO_11.out).2.2 | (with_reducible refine Kd.C_alloc ?_ _) | (with_reducible refine Kd.C_drewN ?_ _) | (with_reducible refine Kd.C_drew ?_))); (case side4 => exact (Kd.R_reads' HO_11.out).2.1); rintro e w' ⟨rfl, ⟨nd, rfl⟩⟩) | (go_at_call 15; (with_reducible refine (dancestudiolaw50_awake.calls k4  t804 _ ?sidem_ A98.out).mono ?_); (case sidem_ => first | ((repeat (first | exact HMX_.out | apply Mx.drewN | apply Mx.drew)); done) | (refine Mx.below HMX_.out ?_; (repeat (first | (with_reducible first | exact HB.out | apply below_alloc | apply pw_below_drewN | apply below_drew1 | refine below_set ?_ (Aside0.out (by assumption))) | exact HB.out)); done)); rintro e w103 ⟨rfl, hb⟩; have n0_ := Aside0.mk (Kd.R_below (by (with_reducible repeat (first | apply Kd.R_alloc | apply Kd.R_drewN | apply Kd.R_drew)); exact HO_8.out) hb); have n1_ := Aside0.mk (Kd.R_below (by (with_reducible repeat (first | apply Kd.R_alloc | apply Kd.R_drewN | apply Kd.R_drew)); exact HO_11.out) hb); have n2_ := Aside0.mk (Kd.S_below (by (with_reducible repeat (first | apply Kd.S_alloc | apply Kd.S_drewN | apply Kd.S_drew)); exact HO_775000.out) hb); have n3_ := Aside0.mk (Kd.R_below (by (with_reducible repeat (first | apply Kd.R_alloc | apply Kd.R_drewN | apply Kd.R_drew)); exact HO_775001.out) hb); have n4_ := Aside0.mk (Kd.R_below (by (with_reducible repeat (first | apply Kd.R_alloc | apply Kd.R_drewN | apply Kd.R_drew)); exact HO_775002.out) hb); have n5_ := Aside0.mk (blk_below (g := gb2) (o := .cells #[.slice A0_0 l0_0.length c0_0, .slice A0_1 l0_1.length c0_1, .slice A0_2 l0_2.length c0_2, .int .i64 a0_3] 26 (0, 0)) (by (with_reducible repeat (first | refine blk_drewN ?_ _ | refine blk_drew ?_ | refine blk_alloc ?_ _)); exact BK2.out) hb); have n6_ := Aside0.mk (blk_below (g := gb3) (o := .cells #[.slice Ao57 x775000_1.length co57, .slice Ao21 y765.length co21, .slice Ao20 y771.length co20, .int .i64 a0_3] 26 (0, 0)) (by (with_reducible repeat (first | refine blk_drewN ?_ _ | refine blk_drew ?_ | refine blk_alloc ?_ _)); exact BK3.out) hb); have n7_ := Aside0.mk (below_step (by repeat (first | (with_reducible first | exact HB.out | apply below_alloc | apply pw_below_drewN | apply below_drew1 | refine below_set ?_ GE2.out | refine below_set ?_ GE3.out) | exact HB.out)) hb); clear HO_8; clear HO_11; clear HO_775000; clear HO_775001; clear HO_775002; clear BK2; clear BK3; clear HB; have HO_8 := n0_; have HO_11 := n1_; have HO_775000 := n2_; have HO_775001 := n3_; have HO_775002 := n4_; have BK2 := n5_; have BK3 := n6_; have HB := n7_; clear n0_ n1_ n2_ n3_ n4_ n5_ n6_ n7_; (try clear hb); (try clear hb2); (try clear hk); (try clear hi)))
          go_ret
          exact ⟨by first | rfl | (simp [errW_none, errW_some] <;> rfl) | (simp [*, errW_none, errW_some] <;> rfl), HB.out⟩
         rw [if_pos c80] at H
         have c80b0 : decide (x13_4 < (l0_0.length : Int)) = true := decide_eq_true c80
         clear c80
         have H' := Aside0.mk H
         clear H
         have hnb81 := NB2_3.out
         have hnc81 := NB3_2.out
         have hcz82 := blk_cell BK2.out; have hfz82 := blk_frozen BK2.out
         go_wp2
         go_loopg [14] k4 (fun kq v14 w' => ∃ (x14_5 : Int), v14 = .int .i64 x14_5 ∧ Aside0 (dancestudiolaw50_RehearseAgain.l3 kq t790 t792 t799 t802 x13_4 x14_5 l0_0 l0_1 l0_2 a0_3 x775000_1 y765 y771 a0_3 = some r) ∧ Aside0 (kq ≤ k4) ∧ Aside0 (Kd.R k48 48 w' w.heap.size (fun k_ => some k_ ≠ (v800 : Value).ownBlock) v793 t792) ∧ Aside0 (Kd.R k48 48 w' w.heap.size (fun k_ => some k_ ≠ (v793 : Value).ownBlock) v800 t799) ∧ Aside0 (Kd.S k53 53 w' w.heap.size (fun _ => True) (.slice Ao57 x775000_1.length co57) x775000_1) ∧ Aside0 (Kd.R k55 55 w' w.heap.size (fun _ => True) (.slice Ao21 y765.length co21) y765) ∧ Aside0 (Kd.R k59 59 w' w.heap.size (fun _ => True) (.slice Ao20 y771.length co20) y771) ∧ Aside0 (w'.heap[gb2]? = some (.cells #[(.slice A0_0 l0_0.length c0_0), (.slice A0_1 l0_1.length c0_1), (.slice A0_2 l0_2.length c0_2), .int .i64 a0_3] 26 (0, 0))) ∧ Aside0 (w'.heap[gb3]? = some (.cells #[(.slice Ao57 x775000_1.length co57), (.slice Ao21 y765.length co21), (.slice Ao20 y771.length co20), .int .i64 a0_3] 26 (0, 0))) ∧ Aside0 (Below w.heap.size w w'))
         case atStart => exact ⟨(0), (by first | rfl | (simp; done) | (simp [*]; done)), H', ⟨Nat.le_refl _⟩, ⟨by (with_reducible repeat (first | apply Kd.R_alloc | apply Kd.R_drewN | apply Kd.R_drew)); exact HO_8.out⟩, ⟨by (with_reducible repeat (first | apply Kd.R_alloc | apply Kd.R_drewN | apply Kd.R_drew)); exact HO_11.out⟩, ⟨by (with_reducible repeat (first | apply Kd.S_alloc | apply Kd.S_drewN | apply Kd.S_drew)); exact HO_775000.out⟩, ⟨by (with_reducible repeat (first | apply Kd.R_alloc | apply Kd.R_drewN | apply Kd.R_drew)); exact HO_775001.out⟩, ⟨by (with_reducible repeat (first | apply Kd.R_alloc | apply Kd.R_drewN | apply Kd.R_drew)); exact HO_775002.out⟩, ⟨BK2.out⟩, ⟨BK3.out⟩, ⟨HB.out⟩⟩
         case round =>
          clear H'
          try clear c1; try clear c2; try clear p2; try clear c3; try clear c4; try clear c5; try clear c6; try clear p6; try clear q6; try clear hx6; try clear hf6; try clear c7; try clear p7; try clear q7; try clear hx7; try clear hf7; try clear c8; try clear c11; try clear c21; try clear c26; try clear c26b0; try clear c27; try clear c27b0; try clear c28; try clear c29; try clear c30; try clear c33; try clear c34; try clear c53; try clear c62; try clear c62b0; try clear c62b1; try clear p64; try clear c66; try clear c67; try clear c67b0; try clear c68; try clear c68b0; try clear c69; try clear p69; try clear q69; try clear hx69; try clear hf69; try clear c71; try clear hx71; try clear hf71; try clear c76; try clear c77; try clear p77; try clear q77; try clear hx77; try clear c80; try clear c80b0; try clear c81; try clear hcz31_0; try clear hcz31_1; try clear hcz31_2; try clear hcz31_3; try clear hcz35_0; try clear hcz35_1; try clear hcz35_2; try clear hcz38_0; try clear hcz38_1; try clear hcz38_2; try clear hcz41_0; try clear hcz41_1; try clear hcz41_2; try clear hcz43_0; try clear hcz43_1; try clear hcz43_2; try clear hcz43_3; try clear hcz44_0; try clear hcz44_1; try clear hcz44_2; try clear hcz47_0; try clear hcz47_1; try clear hcz47_2; try clear hcz47_3; try clear hcz54_0; try clear hcz54_1; try clear hcz54_2; try clear hcz54_3; try clear hcz55_0; try clear hcz55_1; try clear hcz55_2; try clear hcz55_3; try clear hcz59_0; try clear hcz59_1; try clear hcz59_2; try clear hcz59_3; try clear hcz77_0; try clear hcz77_1; try clear hcz77_2; try clear hcz77_3; try clear hcz82_0; try clear hcz82_1; try clear hcz82_2; try clear hcz82_3; try clear hfz31_0; try clear hfz31_1; try clear hfz31_2; try clear hfz31_3; try clear hfz35_0; try clear hfz35_1; try clear hfz35_2; try clear hfz38_0; try clear hfz38_1; try clear hfz38_2; try clear hfz41_0; try clear hfz41_1; try clear hfz41_2; try clear hfz43_0; try clear hfz43_1; try clear hfz43_2; try clear hfz43_3; try clear hfz44_0; try clear hfz44_1; try clear hfz44_2; try clear hfz47_0; try clear hfz47_1; try clear hfz47_2; try clear hfz47_3; try clear hfz54_0; try clear hfz54_1; try clear hfz54_2; try clear hfz54_3; try clear hfz55_0; try clear hfz55_1; try clear hfz55_2; try clear hfz55_3; try clear hfz59_0; try clear hfz59_1; try clear hfz59_2; try clear hfz59_3; try clear hfz77_0; try clear hfz77_1; try clear hfz77_2; try clear hfz77_3; try clear hfz82_0; try clear hfz82_1; try clear hfz82_2; try clear hfz82_3; try clear hx69_0; try clear hx69_1; try clear hx69_2; try clear hx71_0; try clear hx71_1; try clear hx71_2; try clear hx775_0; try clear hx775_1; try clear hx775_2; try clear p775; try clear q775
          obtain ⟨x14_5, rfl, HA, HK5, HO_8, HO_11, HO_775000, HO_775001, HO_775002, BK2, BK3, HB⟩ := hrel
          cases gk with
          | zero => exact absurd HA.out (by simp [dancestudiolaw50_RehearseAgain.l3])
          | succ k5 =>
           have H := HA.out
           clear HA
           simp only [dancestudiolaw50_RehearseAgain.l3] at H
           obtain ⟨c83, H⟩ : (0 ≤ x13_4) ∧ _ := mIf H
           have c83b0 : decide (0 ≤ x13_4) = true := decide_eq_true c83
           clear c83
           obtain ⟨c84, H⟩ : (x13_4 < (l0_0.length : Int)) ∧ _ := mIf H
           have c84b0 : decide (x13_4 < (l0_0.length : Int)) = true := decide_eq_true c84
           clear c84
           by_cases c85 : x14_5 < (((rd_T53 l0_0 x13_4).f2).length : Int)
           rotate_left
           ·
            rw [if_neg c85] at H
            have c85b0 : decide (x14_5 < (((rd_T53 l0_0 x13_4).f2).length : Int)) = false := decide_eq_false c85
            clear c85
            have H' := Aside0.mk H
            clear H
            have hnb93 := NB2_3.out
            have hnc93 := NB3_2.out
            have hcz94 := blk_cell BK2.out; have hfz94 := blk_frozen BK2.out
            have p805 : 0 ≤ (x13_4 : Int) := of_decide_eq_true (by first | (with_reducible assumption) | assumption)
            have q805 : x13_4 < (l0_0.length : Int) := of_decide_eq_true (by first | (with_reducible assumption) | assumption)
            obtain ⟨ad805, A805_2, c805_2, e805, hx805_0, hx805_1, hx805_2, hl805_2, hi805_2⟩ := at_T53 HR0_0.out x13_4 p805 q805
            cases e805
            replace hx805_0 := (HB.out.cell (World.block_lt_of_cell? w _ hx805_0)).trans hx805_0
            replace hx805_1 := (HB.out.cell (World.block_lt_of_cell? w _ hx805_1)).trans hx805_1
            replace hx805_2 := (HB.out.cell (World.block_lt_of_cell? w _ hx805_2)).trans hx805_2
            have HR805_2 := Aside0.mk hi805_2
            have HC805_2 := Aside0.mk hl805_2
            clear hi805_2 hl805_2
            replace p805 := eq_true p805
            replace q805 := eq_true q805
            go_wp2
            go_roundg k5
            case measure => have := HK1.out; have := HJ51.out; have := HK3.out; have := HK4.out; have := HK5.out; omega
            case rel => exact ⟨(wrap64 (x13_4 + 1)), (by first | rfl | (simp; done) | (simp [*]; done)), H', ⟨by have := HK1.out; have := HJ51.out; have := HK3.out; have := HK4.out; have := HK5.out; omega⟩, ⟨by (with_reducible repeat (first | apply Kd.R_alloc | apply Kd.R_drewN | apply Kd.R_drew)); exact HO_8.out⟩, ⟨by (with_reducible repeat (first | apply Kd.R_alloc | apply Kd.R_drewN | apply Kd.R_drew)); exact HO_11.out⟩, ⟨by (with_reducible repeat (first | apply Kd.S_alloc | apply Kd.S_drewN | apply Kd.S_drew)); exact HO_775000.out⟩, ⟨by (with_reducible repeat (first | apply Kd.R_alloc | apply Kd.R_drewN | apply Kd.R_drew)); exact HO_775001.out⟩, ⟨by (with_reducible repeat (first | apply Kd.R_alloc | apply Kd.R_drewN | apply Kd.R_drew)); exact HO_775002.out⟩, ⟨BK2.out⟩, ⟨BK3.out⟩, ⟨HB.out⟩⟩
           rw [if_pos c85] at H
           have c85b0 : decide (x14_5 < (((rd_T53 l0_0 x13_4).f2).length : Int)) = true := decide_eq_true c85
           clear c85
           obtain ⟨c86, H⟩ : (x13_4 < (x775000_1.length : Int)) ∧ _ := mIf H
           have c86b0 : decide (x13_4 < (x775000_1.length : Int)) = true := decide_eq_true c86
           clear c86
           obtain ⟨c87, H⟩ : (0 ≤ x14_5) ∧ _ := mIf H
           have c87b0 : decide (0 ≤ x14_5) = true := decide_eq_true c87
           clear c87
           obtain ⟨c88, H⟩ : (x14_5 < (((rd_T53 x775000_1 x13_4).f2).length : Int)) ∧ _ := mIf H
           have c88b0 : decide (x14_5 < (((rd_T53 x775000_1 x13_4).f2).length : Int)) = true := decide_eq_true c88
           clear c88
           obtain ⟨c89, H⟩ : ((rd ((rd_T53 x775000_1 x13_4).f2) x14_5) = (rd ((rd_T53 l0_0 x13_4).f2) x14_5)) ∧ _ := mIf H
           have c89b0 : ((rd ((rd_T53 x775000_1 x13_4).f2) x14_5) == (rd ((rd_T53 l0_0 x13_4).f2) x14_5)) = true := beq_iff_eq.mpr c89
           have c89b1 : ((rd ((rd_T53 x775000_1 x13_4).f2) x14_5) != (rd ((rd_T53 l0_0 x13_4).f2) x14_5)) = false := bne_eq_false_iff_eq.mpr c89
           clear c89
           have H' := Aside0.mk H
           clear H
           have hnb90 := NB2_3.out
           have hnc90 := NB3_2.out
           have hcz91 := blk_cell BK2.out; have hfz91 := blk_frozen BK2.out
           have p805 : 0 ≤ (x13_4 : Int) := of_decide_eq_true (by first | (with_reducible assumption) | assumption)
           have q805 : x13_4 < (l0_0.length : Int) := of_decide_eq_true (by first | (with_reducible assumption) | assumption)
           obtain ⟨ad805, A805_2, c805_2, e805, hx805_0, hx805_1, hx805_2, hl805_2, hi805_2⟩ := at_T53 HR0_0.out x13_4 p805 q805
           cases e805
           replace hx805_0 := (HB.out.cell (World.block_lt_of_cell? w _ hx805_0)).trans hx805_0
           replace hx805_1 := (HB.out.cell (World.block_lt_of_cell? w _ hx805_1)).trans hx805_1
           replace hx805_2 := (HB.out.cell (World.block_lt_of_cell? w _ hx805_2)).trans hx805_2
           have HR805_2 := Aside0.mk hi805_2
           have HC805_2 := Aside0.mk hl805_2
           clear hi805_2 hl805_2
           replace p805 := eq_true p805
           replace q805 := eq_true q805
           try go_wp2
           replace HO_8 := Aside0.mk (Kd.R_drew HO_8.out); replace HO_11 := Aside0.mk (Kd.R_drew HO_11.out); replace HO_775000 := Aside0.mk (Kd.S_drew HO_775000.out); replace HO_775001 := Aside0.mk (Kd.R_drew HO_775001.out); replace HO_775002 := Aside0.mk (Kd.R_drew HO_775002.out); replace BK2 := Aside0.mk (blk_drew BK2.out); replace BK3 := Aside0.mk (blk_drew BK3.out); replace HB := Aside0.mk (below_drew1 HB.out)
           have p806 : 0 ≤ (x13_4 : Int) := of_decide_eq_true (by first | (with_reducible assumption) | assumption)
           have q806 : x13_4 < (x775000_1.length : Int) := of_decide_eq_true (by first | (with_reducible assumption) | assumption)
           obtain ⟨ad806, A806_2, c806_2, e806, hx806_0, hx806_1, hx806_2, hl806_2, hi806_2⟩ := at_T53 (Kd.S_reads' HO_775000.out).2.2 x13_4 p806 q806
           cases e806
           obtain ⟨ce806, hce806, hMe806, hcc806⟩ := Kd.S_get HO_775000.out z53 x13_4 p806 (by first | exact q806 | exact of_decide_eq_true (by first | (with_reducible assumption) | assumption) | (have e_ := (Kd.S_reads' HO_775000.out).1; omega))
           obtain ⟨ve806_2, rfl, ge806_2⟩ := k53_openM hMe806
           have hv806_2 := hcc806 2 _ rfl
           rw [add_field _ _ 2 (by omega)] at hv806_2
           replace hv806_2 := Option.some.inj (hv806_2.symm.trans hx806_2)
           rw [hv806_2] at ge806_2
           have HL806_2 := Aside0.mk (show Kd.R (Kd.int .i64) 3 _ _ _ _ ((rd_T53 x775000_1 x13_4).f2) from ge806_2)
           clear hv806_2 ge806_2
           clear hcc806 hce806
           have HR806_2 := Aside0.mk hi806_2
           have HC806_2 := Aside0.mk hl806_2
           clear hi806_2 hl806_2
           replace p806 := eq_true p806
           replace q806 := eq_true q806
           have p807 : 0 ≤ (x14_5 : Int) := of_decide_eq_true (by first | (with_reducible assumption) | assumption)
           have q807 : x14_5 < (((rd_T53 x775000_1 x13_4).f2).length : Int) := of_decide_eq_true (by first | (with_reducible assumption) | assumption)
           obtain ⟨ad807, e807, hx807_0⟩ := Kd.at_int (by repeat (first | (with_reducible exact HR806_2.out) | (with_reducible refine Kd.C_alloc ?_ _) | (with_reducible refine Kd.C_drewN ?_ _) | (with_reducible refine Kd.C_drew ?_) | exact HR806_2.out)) x14_5 p807 q807
           cases e807
           replace p807 := eq_true p807
           replace q807 := eq_true q807
           have p808 : 0 ≤ (x13_4 : Int) := of_decide_eq_true (by first | (with_reducible assumption) | assumption)
           have q808 : x13_4 < (l0_0.length : Int) := of_decide_eq_true (by first | (with_reducible assumption) | assumption)
           obtain ⟨ad808, A808_2, c808_2, e808, hx808_0, hx808_1, hx808_2, hl808_2, hi808_2⟩ := at_T53 HR0_0.out x13_4 p808 q808
           have hw808_2 := hx808_2
           have hw808_1 := hx808_1
           have hw808_0 := hx808_0
           obtain rfl : ad805 = ad808 := (by injection e808)
           replace hx808_0 := (HB.out.cell (World.block_lt_of_cell? w _ hx808_0)).trans hx808_0
           replace hx808_1 := (HB.out.cell (World.block_lt_of_cell? w _ hx808_1)).trans hx808_1
           replace hx808_2 := (HB.out.cell (World.block_lt_of_cell? w _ hx808_2)).trans hx808_2
           have HR808_2 := Aside0.mk hi808_2
           have HC808_2 := Aside0.mk hl808_2
           clear hi808_2 hl808_2
           replace p808 := eq_true p808
           replace q808 := eq_true q808
           have p809 : 0 ≤ (x14_5 : Int) := of_decide_eq_true (by first | (with_reducible assumption) | assumption)
           have q809 : x14_5 < (((rd_T53 l0_0 x13_4).f2).length : Int) := of_decide_eq_true (by first | (with_reducible assumption) | assumption)
           obtain ⟨ad809, e809, hx809_0⟩ := Kd.at_int HR808_2.out x14_5 p809 q809
           have hw809_0 := hx809_0
           cases e809
           replace hx809_0 := (HB.out.cell (World.block_lt_of_cell? w _ hx809_0)).trans hx809_0
           replace p809 := eq_true p809
           replace q809 := eq_true q809
           refine start_ (n := 19) (S := fun w' => w'.cell? ⟨gb3, 0, none⟩ = some (.slice (some ad806) x775000_1.length co57) ∧ w'.cell? ⟨gb3, 1, none⟩ = some (.slice Ao21 y765.length co21) ∧ w'.cell? ⟨gb3, 2, none⟩ = some (.slice Ao20 y771.length co20) ∧ w'.cell? ⟨gb3, 3, none⟩ = some (.int .i64 a0_3) ∧ w'.cell? ⟨gb2, 0, none⟩ = some (.slice (some ad805) l0_0.length c0_0) ∧ w'.cell? ⟨gb2, 1, none⟩ = some (.slice A0_1 l0_1.length c0_1) ∧ w'.cell? ⟨gb2, 2, none⟩ = some (.slice A0_2 l0_2.length c0_2) ∧ w'.cell? ⟨gb2, 3, none⟩ = some (.int .i64 a0_3) ∧ w'.cell? (ad806.add ((x13_4).toNat * 3)) = some (.string ((rd_T53 x775000_1 x13_4).f0)) ∧ w'.cell? ⟨(ad806.add ((x13_4).toNat * 3)).block, (ad806.add ((x13_4).toNat * 3)).off + 1, none⟩ = some (.int .i64 ((rd_T53 x775000_1 x13_4).f1)) ∧ w'.cell? ⟨(ad806.add ((x13_4).toNat * 3)).block, (ad806.add ((x13_4).toNat * 3)).off + 2, none⟩ = some (.slice (some ad807) ((rd_T53 x775000_1 x13_4).f2).length c806_2) ∧ w'.cell? (ad807.add (x14_5).toNat) = some (.int .i64 (rd ((rd_T53 x775000_1 x13_4).f2) x14_5)) ∧ w'.cell? (ad805.add ((x13_4).toNat * 3)) = some (.string ((rd_T53 l0_0 x13_4).f0)) ∧ w'.cell? ⟨(ad805.add ((x13_4).toNat * 3)).block, (ad805.add ((x13_4).toNat * 3)).off + 1, none⟩ = some (.int .i64 ((rd_T53 l0_0 x13_4).f1)) ∧ w'.cell? ⟨(ad805.add ((x13_4).toNat * 3)).block, (ad805.add ((x13_4).toNat * 3)).off + 2, none⟩ = some (.slice (some ad809) ((rd_T53 l0_0 x13_4).f2).length c808_2) ∧ w'.cell? (ad809.add (x14_5).toNat) = some (.int .i64 (rd ((rd_T53 l0_0 x13_4).f2) x14_5))) (ds := []) #[false, false, false, false, false, false, false, false, false, false, false, false, false, false, false, false, false, false, false] (by kernel_rfl) rfl rfl ⟨(blk_cell BK3.out 0).trans rfl, (blk_cell BK3.out 1).trans rfl, (blk_cell BK3.out 2).trans rfl, (blk_cell BK3.out 3).trans rfl, (blk_cell BK2.out 0).trans rfl, (blk_cell BK2.out 1).trans rfl, (blk_cell BK2.out 2).trans rfl, (blk_cell BK2.out 3).trans rfl, hx806_0, hx806_1, hx806_2, hx807_0, ((HB.out.cell (World.block_lt_of_cell? w _ hw808_0)).trans hw808_0), ((HB.out.cell (World.block_lt_of_cell? w _ hw808_1)).trans hw808_1), ((HB.out.cell (World.block_lt_of_cell? w _ hw808_2)).trans hw808_2), ((HB.out.cell (World.block_lt_of_cell? w _ hw809_0)).trans hw809_0)⟩ (fun hHeld => ?_); refine with_tabW dancestudiolaw50_RehearseAgain.tab25 dancestudiolaw50_RehearseAgain.bits25 (fun HT_ HW_ => ?_)
           generalize wr.drew = w92 at HO_8 HO_11 HO_775000 HO_775001 HO_775002 BK2 BK3 HB HL806_2 HR806_2 HR808_2 hx806_0 hx806_1 hx806_2 hx807_0 hx808_0 hx808_1 hx808_2 hx809_0 hHeld ⊢
           refine pure_ (i := 0) (N := some 108) (v := ?_) (a' := ?_) #[true, false, false, false, false, false, false, false, false, false, false, false, false, false, false, false, false, false, false] rfl rfl (any_of HT_.out (by kernel_rfl)) (fun _ _ _ h => h) (Or.inl ⟨by rfl, ?_⟩) ?_ ?_
           rotate_left
           ·
            intro w'
            go_simp
            with_reducible rfl
           rotate_left
           ·
            simp only [Act.put, List.setIfInBounds_toArray, List.set_cons_zero, List.set_cons_succ, i64_w, i32_w]
            rfl
           refine pure_ (i := 2) (N := some 110) (v := ?_) (a' := ?_) #[true, false, true, false, false, false, false, false, false, false, false, false, false, false, false, false, false, false, false] rfl rfl (any_of HT_.out (by kernel_rfl)) (fun _ _ _ h => h) (Or.inl ⟨by rfl, ?_⟩) ?_ ?_
           rotate_left
           ·
            intro w'
            go_simp
            with_reducible rfl
           rotate_left
           ·
            simp only [Act.put, List.setIfInBounds_toArray, List.set_cons_zero, List.set_cons_succ, i64_w, i32_w]
            rfl
           refine pure_ (i := 6) (N := some 114) (v := ?_) (a' := ?_) #[true, false, true, false, false, false, true, false, false, false, false, false, false, false, false, false, false, false, false] rfl rfl (any_of HT_.out (by kernel_rfl)) (fun _ _ _ h => h) (Or.inl ⟨by rfl, ?_⟩) ?_ ?_
           rotate_left
           ·
            intro w'
            go_simp
            with_reducible rfl
           rotate_left
           ·
            simp only [Act.put, List.setIfInBounds_toArray, List.set_cons_zero, List.set_cons_succ, i64_w, i32_w]
            rfl
           refine pure_ (i := 9) (N := some 117) (v := ?_) (a' := ?_) #[true, false, true, false, false, false, true, false, false, true, false, false, false, false, false, false, false, false, false] rfl rfl (any_of HT_.out (by kernel_rfl)) (fun _ _ _ h => h) (Or.inl ⟨by rfl, ?_⟩) ?_ ?_
           rotate_left
           ·
            intro w'
            go_simp
            with_reducible rfl
           rotate_left
           ·
            simp only [Act.put, List.setIfInBounds_toArray, List.set_cons_zero, List.set_cons_succ, i64_w, i32_w]
            rfl
           refine pure_ (i := 11) (N := some 119) (v := ?_) (a' := ?_) #[true, false, true, false, false, false, true, false, false, true, false, true, false, false, false, false, false, false, false] rfl rfl (any_of HT_.out (by kernel_rfl)) (fun _ _ _ h => h) (Or.inl ⟨by rfl, ?_⟩) ?_ ?_
           rotate_left
           ·
            intro w'
            go_simp
            with_reducible rfl
           rotate_left
           ·
            simp only [Act.put, List.setIfInBounds_toArray, List.set_cons_zero, List.set_cons_succ, i64_w, i32_w]
            rfl
           refine pure_ (i := 15) (N := some 123) (v := ?_) (a' := ?_) #[true, false, true, false, false, false, true, false, false, true, false, true, false, false, false, true, false, false, false] rfl rfl (any_of HT_.out (by kernel_rfl)) (fun _ _ _ h => h) (Or.inl ⟨by rfl, ?_⟩) ?_ ?_
           rotate_left
           ·
            intro w'
            go_simp
            with_reducible rfl
           rotate_left
           ·
            simp only [Act.put, List.setIfInBounds_toArray, List.set_cons_zero, List.set_cons_succ, i64_w, i32_w]
            rfl
           refine take_ (i := 1) (N := some 109) (v := ?_) (a' := ?_) #[true, true, true, false, false, false, true, false, false, true, false, true, false, false, false, true, false, false, false] rfl rfl (take_ofW HT_.out HW_.out (by kernel_rfl)) (fun _ _ _ h => h) (Or.inl ⟨by rfl, ?_⟩) hHeld ?_ ?_
           rotate_left
           ·
            rintro w' ⟨s0, s1, s2, s3, s4, s5, s6, s7, s8, s9, s10, s11, s12, s13, s14, s15⟩
            go_simp
            with_reducible rfl
           rotate_left
           ·
            simp only [Act.put, List.setIfInBounds_toArray, List.set_cons_zero, List.set_cons_succ, i64_w, i32_w]
            rfl
           refine pure_ (i := 3) (N := some 111) (v := ?_) (a' := ?_) #[true, true, true, true, false, false, true, false, false, true, false, true, false, false, false, true, false, false, false] rfl rfl (any_of HT_.out (by kernel_rfl)) (fun _ _ _ h => h) (Or.inl ⟨by rfl, ?_⟩) ?_ ?_
           rotate_left
           ·
            intro w'
            go_simp
            with_reducible rfl
           rotate_left
           ·
            simp only [Act.put, List.setIfInBounds_toArray, List.set_cons_zero, List.set_cons_succ, i64_w, i32_w]
            rfl
           refine pure_ (i := 4) (N := some 112) (v := ?_) (a' := ?_) #[true, true, true, true, true, false, true, false, false, true, false, true, false, false, false, true, false, false, false] rfl rfl (any_of HT_.out (by kernel_rfl)) (fun _ _ _ h => h) (Or.inl ⟨by rfl, ?_⟩) ?_ ?_
           rotate_left
           ·
            intro w'
            go_simp
            with_reducible rfl
           rotate_left
           ·
            simp only [Act.put, List.setIfInBounds_toArray, List.set_cons_zero, List.set_cons_succ, i64_w, i32_w]
            rfl
           refine take_ (i := 5) (N := some 113) (v := ?_) (a' := ?_) #[true, true, true, true, true, true, true, false, false, true, false, true, false, false, false, true, false, false, false] rfl rfl (take_ofW HT_.out HW_.out (by kernel_rfl)) (fun _ _ _ h => h) (Or.inl ⟨by rfl, ?_⟩) hHeld ?_ ?_
           rotate_left
           ·
            rintro w' ⟨s0, s1, s2, s3, s4, s5, s6, s7, s8, s9, s10, s11, s12, s13, s14, s15⟩
            go_simp
            with_reducible rfl
           rotate_left
           ·
            simp only [Act.put, List.setIfInBounds_toArray, List.set_cons_zero, List.set_cons_succ, i64_w, i32_w]
            rfl
           refine pure_ (i := 7) (N := some 115) (v := ?_) (a' := ?_) #[true, true, true, true, true, true, true, true, false, true, false, true, false, false, false, true, false, false, false] rfl rfl (any_of HT_.out (by kernel_rfl)) (fun _ _ _ h => h) (Or.inl ⟨by rfl, ?_⟩) ?_ ?_
           rotate_left
           ·
            intro w'
            go_simp
            with_reducible rfl
           rotate_left
           ·
            simp only [Act.put, List.setIfInBounds_toArray, List.set_cons_zero, List.set_cons_succ, i64_w, i32_w]
            rfl
           refine take_ (i := 8) (N := some 116) (v := ?_) (a' := ?_) #[true, true, true, true, true, true, true, true, true, true, false, true, false, false, false, true, false, false, false] rfl rfl (take_ofW HT_.out HW_.out (by kernel_rfl)) (fun _ _ _ h => h) (Or.inl ⟨by rfl, ?_⟩) hHeld ?_ ?_
           rotate_left
           ·
            rintro w' ⟨s0, s1, s2, s3, s4, s5, s6, s7, s8, s9, s10, s11, s12, s13, s14, s15⟩
            go_simp
            with_reducible rfl
           rotate_left
           ·
            simp only [Act.put, List.setIfInBounds_toArray, List.set_cons_zero, List.set_cons_succ, i64_w, i32_w]
            rfl
           refine take_ (i := 10) (N := some 118) (v := ?_) (a' := ?_) #[true, true, true, true, true, true, true, true, true, true, true, true, false, false, false, true, false, false, false] rfl rfl (take_ofW HT_.out HW_.out (by kernel_rfl)) (fun _ _ _ h => h) (Or.inl ⟨by rfl, ?_⟩) hHeld ?_ ?_
           rotate_left
           ·
            rintro w' ⟨s0, s1, s2, s3, s4, s5, s6, s7, s8, s9, s10, s11, s12, s13, s14, s15⟩
            go_simp
            with_reducible rfl
           rotate_left
           ·
            simp only [Act.put, List.setIfInBounds_toArray, List.set_cons_zero, List.set_cons_succ, i64_w, i32_w]
            rfl
           refine pure_ (i := 12) (N := some 120) (v := ?_) (a' := ?_) #[true, true, true, true, true, true, true, true, true, true, true, true, true, false, false, true, false, false, false] rfl rfl (any_of HT_.out (by kernel_rfl)) (fun _ _ _ h => h) (Or.inl ⟨by rfl, ?_⟩) ?_ ?_
           rotate_left
           ·
            intro w'
            go_simp
            with_reducible rfl
           rotate_left
           ·
            simp only [Act.put, List.setIfInBounds_toArray, List.set_cons_zero, List.set_cons_succ, i64_w, i32_w]
            rfl
           refine pure_ (i := 13) (N := some 121) (v := ?_) (a' := ?_) #[true, true, true, true, true, true, true, true, true, true, true, true, true, true, false, true, false, false, false] rfl rfl (any_of HT_.out (by kernel_rfl)) (fun _ _ _ h => h) (Or.inl ⟨by rfl, ?_⟩) ?_ ?_
           rotate_left
           ·
            intro w'
            go_simp
            with_reducible rfl
           rotate_left
           ·
            simp only [Act.put, List.setIfInBounds_toArray, List.set_cons_zero, List.set_cons_succ, i64_w, i32_w]
            rfl
           refine take_ (i := 14) (N := some 122) (v := ?_) (a' := ?_) #[true, true, true, true, true, true, true, true, true, true, true, true, true, true, true, true, false, false, false] rfl rfl (take_ofW HT_.out HW_.out (by kernel_rfl)) (fun _ _ _ h => h) (Or.inl ⟨by rfl, ?_⟩) hHeld ?_ ?_
           rotate_left
           ·
            rintro w' ⟨s0, s1, s2, s3, s4, s5, s6, s7, s8, s9, s10, s11, s12, s13, s14, s15⟩
            go_simp
            with_reducible rfl
           rotate_left
           ·
            simp only [Act.put, List.setIfInBounds_toArray, List.set_cons_zero, List.set_cons_succ, i64_w, i32_w]
            rfl
           refine pure_ (i := 16) (N := some 124) (v := ?_) (a' := ?_) #[true, true, true, true, true, true, true, true, true, true, true, true, true, true, true, true, true, false, false] rfl rfl (any_of HT_.out (by kernel_rfl)) (fun _ _ _ h => h) (Or.inl ⟨by rfl, ?_⟩) ?_ ?_
           rotate_left
           ·
            intro w'
            go_simp
            with_reducible rfl
           rotate_left
           ·
            simp only [Act.put, List.setIfInBounds_toArray, List.set_cons_zero, List.set_cons_succ, i64_w, i32_w]
            rfl
           refine take_ (i := 17) (N := some 125) (v := ?_) (a' := ?_) #[true, true, true, true, true, true, true, true, true, true, true, true, true, true, true, true, true, true, false] rfl rfl (take_ofW HT_.out HW_.out (by kernel_rfl)) (fun _ _ _ h => h) (Or.inl ⟨by rfl, ?_⟩) hHeld ?_ ?_
           rotate_left
           ·
            rintro w' ⟨s0, s1, s2, s3, s4, s5, s6, s7, s8, s9, s10, s11, s12, s13, s14, s15⟩
            go_simp
            with_reducible rfl
           rotate_left
           ·
            simp only [Act.put, List.setIfInBounds_toArray, List.set_cons_zero, List.set_cons_succ, i64_w, i32_w]
            rfl
           refine pure_ (i := 18) (N := some 126) (v := ?_) (a' := ?_) #[true, true, true, true, true, true, true, true, true, true, true, true, true, true, true, true, true, true, true] rfl rfl (any_of HT_.out (by kernel_rfl)) (fun _ _ _ h => h) (Or.inl ⟨by rfl, ?_⟩) ?_ ?_
           rotate_left
           ·
            intro w'
            go_simp
            with_reducible rfl
           rotate_left
           ·
            simp only [Act.put, List.setIfInBounds_toArray, List.set_cons_zero, List.set_cons_succ, i64_w, i32_w]
            rfl
           refine done_ (done_of HT_.out (by kernel_rfl)) ?_
           try go_wp2
           go_roundg k5
           case measure => have := HK1.out; have := HJ51.out; have := HK3.out; have := HK4.out; have := HK5.out; omega
           case rel => exact ⟨(wrap64 (x14_5 + 1)), (by first | rfl | (simp; done) | (simp [*]; done)), H', ⟨by have := HK1.out; have := HJ51.out; have := HK3.out; have := HK4.out; have := HK5.out; omega⟩, ⟨by (with_reducible repeat (first | apply Kd.R_alloc | apply Kd.R_drewN | apply Kd.R_drew)); exact HO_8.out⟩, ⟨by (with_reducible repeat (first | apply Kd.R_alloc | apply Kd.R_drewN | apply Kd.R_drew)); exact HO_11.out⟩, ⟨by (with_reducible repeat (first | apply Kd.S_alloc | apply Kd.S_drewN | apply Kd.S_drew)); exact HO_775000.out⟩, ⟨by (with_reducible repeat (first | apply Kd.R_alloc | apply Kd.R_drewN | apply Kd.R_drew)); exact HO_775001.out⟩, ⟨by (with_reducible repeat (first | apply Kd.R_alloc | apply Kd.R_drewN | apply Kd.R_drew)); exact HO_775002.out⟩, ⟨BK2.out⟩, ⟨BK3.out⟩, ⟨HB.out⟩⟩
end Go.Proofs.Ytjppjppapdflmaa.PAll
