-- Written by wip/tools/handprint.py: walks of the functions that the law reaches; Lean checks them.
import Derived.Test.YtaggccbndmmbhaaDoorBase
import Derived.Test.YtaggccbndmmbhaaDoorPAllf11
import Derived.Test.YtaggccbndmmbhaaDoorPAllf13
import Derived.Test.YtaggccbndmmbhaaDoorPAllf15
import Derived.Test.YtaggccbndmmbhaaDoorPAllf18
namespace Go.Proofs.YtaggccbndmmbhaaDoor.PAll
open Go.RowKit Go.Proofs.YtaggccbndmmbhaaDoorW.PrintWords Go.Proofs.YtaggccbndmmbhaaDoorW.PrintLast Go.Proofs.YtaggccbndmmbhaaDoorW.PrintMore
attribute [local go_sem] max2_int min2_int max_two min_two max_three min_three max_four min_four   -- for this text's walks alone
set_option linter.unusedVariables false
set_option linter.unusedSimpArgs false
attribute [local go_sem high] eqA52

/-! ### dancestudiolaw45_FormationThere: function 10 -/
mutual
def dancestudiolaw45_FormationThere.j0 : Nat → List Int → Bool → ByteArray → List (S52) → Option (Bool)
 | 0, _, _, _, _ => none
 | k + 1, x1, x35, x810000, x810001 => if x35 = true then ((dancestudiolaw45_awake.f k).bind fun t811 => (some t811)) else ((some (([] : List (S52)) : List (S52))).bind fun y812 => (if y812.length + x810001.length < 8796093022208 then (dancestudiolaw45_FormationThere.l0 k x1 (y812 ++ x810001) 0 x810000 x810001) else (none)))
def dancestudiolaw45_FormationThere.j2 : Nat → List (S52) → ByteArray → List (S52) → Option (Bool)
 | 0, _, _, _ => none
 | k + 1, x5, x810000, x810001 => (formation_Fit.f k x810000 x810001 x5).bind fun bt823 => ((formation_Ways.f k x810000 x810001 x5 0).bind fun bt828 => (if bt823.2.2 = 0 then (if bt828.2 = 0 then (if bt823.2.1 = 0 then (if (bt823.1.length : Int) = (x5.length : Int) then (dancestudiolaw45_FormationThere.j3 k x5 bt823.1 bt828.1 ((bt828.1.length : Int) != (x5.length : Int)) x810000 x810001) else (dancestudiolaw45_FormationThere.j3 k x5 bt823.1 bt828.1 true x810000 x810001)) else (dancestudiolaw45_FormationThere.j3 k x5 bt823.1 bt828.1 true x810000 x810001)) else (dancestudiolaw45_FormationThere.j3 k x5 bt823.1 bt828.1 true x810000 x810001)) else (dancestudiolaw45_FormationThere.j3 k x5 bt823.1 bt828.1 true x810000 x810001)))
def dancestudiolaw45_FormationThere.j3 : Nat → List (S52) → List Int → List (S55) → Bool → ByteArray → List (S52) → Option (Bool)
 | 0, _, _, _, _, _, _ => none
 | k + 1, x5, x9, x12, x113, x810000, x810001 => if x113 = true then (none) else (dancestudiolaw45_FormationThere.l1 k x5 x9 x12 0 x810000 x810001)
def dancestudiolaw45_FormationThere.l1 : Nat → List (S52) → List Int → List (S55) → Int → ByteArray → List (S52) → Option (Bool)
 | 0, _, _, _, _, _, _ => none
 | k + 1, x5, x9, x12, x14, x810000, x810001 => if x14 < (x9.length : Int) then (if 0 ≤ x14 then (if (rd x9 x14) < 0 then (none) else (if (rd x9 x14) ≥ (x5.length : Int) then (none) else (if 0 ≤ (rd x9 x14) then (if (rd x9 x14) < (x810001.length : Int) then (if x14 < (x5.length : Int) then (if (!(((rd_T52 x810001 (rd x9 x14)).f0) == ((rd_T52 x5 x14).f0)) || (!(((rd_T52 x810001 (rd x9 x14)).f1) == ((rd_T52 x5 x14).f1)))) = true then (none) else (if x14 < (x12.length : Int) then (if (!(((rd_T55 x12 x14).f0.f0) == ((rd_T52 x5 x14).f0)) || (!(((rd_T55 x12 x14).f0.f1) == ((rd_T52 x5 x14).f1)))) = true then (none) else (if (!(((rd_T55 x12 x14).f1.f0) == ((rd_T52 x5 x14).f0)) || (!(((rd_T55 x12 x14).f1.f1) == ((rd_T52 x5 x14).f1)))) = true then (none) else (dancestudiolaw45_FormationThere.l1 k x5 x9 x12 (wrap64 (x14 + 1)) x810000 x810001))) else (none))) else (none)) else (none)) else (none)))) else (none)) else ((dancestudiolaw45_awake.f k).bind fun t841 => (some t841))
def dancestudiolaw45_FormationThere.l0 : Nat → List Int → List (S52) → Int → ByteArray → List (S52) → Option (Bool)
 | 0, _, _, _, _, _ => none
 | k + 1, x1, x5, x6, x810000, x810001 => if x6 < (x1.length : Int) then (if x6 < 40 then (if (x5.length : Int) = 0 then (none) else (if 0 ≤ x6 then (if 0 ≤ (Int.tmod (wrap64 (rd x1 x6)) (x5.length : Int)) then (if (Int.tmod (wrap64 (rd x1 x6)) (x5.length : Int)) < (x5.length : Int) then (if 0 ≤ (Int.tmod x6 (x5.length : Int)) then (if (Int.tmod x6 (x5.length : Int)) < (x5.length : Int) then (dancestudiolaw45_FormationThere.l0 k x1 ((x5.set ((Int.tmod x6 (x5.length : Int)) : Int).toNat (⟨(rd_T52 x5 (Int.tmod (wrap64 (rd x1 x6)) (x5.length : Int))).f0, (rd_T52 x5 (Int.tmod (wrap64 (rd x1 x6)) (x5.length : Int))).f1⟩ : S52)).set ((Int.tmod (wrap64 (rd x1 x6)) (x5.length : Int)) : Int).toNat (⟨(rd_T52 x5 (Int.tmod x6 (x5.length : Int))).f0, (rd_T52 x5 (Int.tmod x6 (x5.length : Int))).f1⟩ : S52)) (wrap64 (x6 + 1)) x810000 x810001) else (none)) else (none)) else (none)) else (none)) else (none))) else (dancestudiolaw45_FormationThere.j2 k x5 x810000 x810001)) else (dancestudiolaw45_FormationThere.j2 k x5 x810000 x810001)
end
def dancestudiolaw45_FormationThere.f (k : Nat) (a0_0 : ByteArray) (l0_1 : List (S52)) (l1 : List Int) : Option (Bool) := if (l0_1.length : Int) > 16 then (dancestudiolaw45_FormationThere.j0 k l1 true a0_0 l0_1) else (if (a0_0.size : Int) > 60 then (dancestudiolaw45_FormationThere.j0 k l1 true a0_0 l0_1) else ((formation_Check.f k a0_0 l0_1).bind fun t810 => (if t810 = 0 then (dancestudiolaw45_FormationThere.j0 k l1 ((l0_1.length : Int) == 0) a0_0 l0_1) else (dancestudiolaw45_FormationThere.j0 k l1 true a0_0 l0_1))))
def dancestudiolaw45_FormationThere.T7 : Bool × List (List Nat × List Nat) := (true, [([], []), ([], []), ([1], [1]), ([0, 2], [0, 2]), ([], []), ([], []), ([4, 5], [4, 5]), ([6], [6]), ([7], [7]), ([], []), ([9], [9]), ([8, 10], [8, 10]), ([3, 0, 1, 2, 3], [3]), ([11, 12, 0, 1, 2, 3, 4, 5, 6, 7, 8, 9, 10, 11, 12], [11])])
def dancestudiolaw45_FormationThere.B7 : List Nat := [0, 0, 2, 7, 0, 0, 48, 112, 240, 0, 512, 2032, 15, 8191]
theorem dancestudiolaw45_FormationThere.tab7 : rtab .any (opsOf Tryd.f10 7) = dancestudiolaw45_FormationThere.T7 := by kernel_rfl
theorem dancestudiolaw45_FormationThere.bits7 : waitsOk dancestudiolaw45_FormationThere.T7.2 dancestudiolaw45_FormationThere.B7 = true := by kernel_rfl
def dancestudiolaw45_FormationThere.T8 : Bool × List (List Nat × List Nat) := (true, [([], []), ([], []), ([], []), ([], []), ([], []), ([], []), ([4, 5], [4, 5]), ([6], [6]), ([], []), ([], []), ([8, 9], [8, 9]), ([10], [10]), ([0, 1, 0, 1, 4, 5, 6, 7, 11], [0, 1]), ([12, 7, 0, 1, 4, 5, 6, 7, 11], [7, 12]), ([2, 3, 0, 1, 2, 3, 4, 5, 6, 7, 8, 9, 10, 11, 12, 13], [2, 3]), ([14, 11, 13, 0, 1, 2, 3, 4, 5, 6, 7, 8, 9, 10, 11, 12, 13], [11, 14])])
def dancestudiolaw45_FormationThere.B8 : List Nat := [0, 0, 0, 0, 0, 0, 48, 112, 0, 0, 768, 1792, 4083, 8179, 16383, 32767]
theorem dancestudiolaw45_FormationThere.tab8 : rtab .any (opsOf Tryd.f10 8) = dancestudiolaw45_FormationThere.T8 := by kernel_rfl
theorem dancestudiolaw45_FormationThere.bits8 : waitsOk dancestudiolaw45_FormationThere.T8.2 dancestudiolaw45_FormationThere.B8 = true := by kernel_rfl
def dancestudiolaw45_FormationThere.T16 : Bool × List (List Nat × List Nat) := (true, [([], []), ([], []), ([0, 1], [0, 1]), ([2], [2]), ([3], [3]), ([4], [4]), ([5], [5]), ([5], [5]), ([6, 7, 5], [5, 6, 7]), ([8, 5], [5, 8]), ([5], [5]), ([10, 5], [5, 10]), ([9, 11, 5], [5, 9, 11]), ([5, 12], [5, 12]), ([13, 5], [13]), ([14], [14]), ([15, 14], [14, 15]), ([14], [14]), ([14], [14]), ([17, 18, 14], [14, 17, 18]), ([19, 14], [14, 19]), ([16, 20, 14], [14, 16, 20]), ([21, 14], [14, 21]), ([14], [14]), ([14], [14]), ([23, 24, 14], [14, 23, 24]), ([25, 14], [14, 25]), ([22, 26, 14], [14, 22, 26]), ([14, 27], [14, 27]), ([28, 14], [28]), ([29], [29]), ([29], [29]), ([30, 31, 29], [29, 30, 31]), ([32, 29], [29, 32]), ([33, 29], [29, 33]), ([29], [29]), ([29], [29]), ([35, 36, 29], [29, 35, 36]), ([37, 29], [29, 37]), ([34, 38, 29], [29, 34, 38]), ([29, 39], [29, 39]), ([40, 29], [40]), ([41], [41]), ([41], [41]), ([42, 43, 41], [41, 42, 43]), ([44, 41], [41, 44]), ([45, 41], [41, 45]), ([41], [41]), ([41], [41]), ([47, 48, 41], [41, 47, 48]), ([49, 41], [41, 49]), ([46, 50, 41], [41, 46, 50]), ([41, 51], [41, 51])])
def dancestudiolaw45_FormationThere.B16 : List Nat := [0, 0, 3, 7, 15, 31, 63, 63, 255, 511, 63, 1087, 4095, 8191, 16383, 32767, 65535, 32767, 32767, 425983, 950271, 2097151, 4194303, 32767, 32767, 25198591, 58753023, 134217727, 268435455, 536870911, 1073741823, 1073741823, 4294967295, 8589934591, 17179869183, 1073741823, 1073741823, 104152956927, 241591910399, 549755813887, 1099511627775, 2199023255551, 4398046511103, 4398046511103, 17592186044415, 35184372088831, 70368744177663, 4398046511103, 4398046511103, 426610511577087, 989560464998399, 2251799813685247, 4503599627370495]
theorem dancestudiolaw45_FormationThere.tab16 : rtab .any (opsOf Tryd.f10 16) = dancestudiolaw45_FormationThere.T16 := by kernel_rfl
theorem dancestudiolaw45_FormationThere.bits16 : waitsOk dancestudiolaw45_FormationThere.T16.2 dancestudiolaw45_FormationThere.B16 = true := by kernel_rfl
theorem cellX {w : World} {b o o' : Nat} {v : Value} {r : Option Value} (h : (w.setCell ⟨b, o, none⟩ v).cell? ⟨b, o', none⟩ = r) (hn : o ≠ o') : w.cell? ⟨b, o', none⟩ = r := by
  rw [← h]
  simp [go_sem, hn, Ne.symm hn]
set_option maxHeartbeats 8000000 in
set_option maxRecDepth 100000 in
theorem dancestudiolaw45_FormationThere.calls (k : Nat) (a0_0 : ByteArray) (A0_1 : Option Addr) (c0_1 : Nat) (l0_1 : List (S52)) (A1 : Option Addr) (c1 : Nat) (l1 : List Int) (r : Bool) (w : World) (hr0_1 : Kd.C k52 w A0_1 l0_1.length l0_1) (hc0_1 : l0_1.length ≤ c0_1) (hr1 : Kd.C (Kd.int .u8) w A1 l1.length l1) (hc1 : l1.length ≤ c1) (hmx : Mx w) (h : dancestudiolaw45_FormationThere.f k a0_0 l0_1 l1 = some r) :
  Calls Tryd.prog 10 #[.agg #[.string a0_0, .slice A0_1 l0_1.length c0_1], .slice A1 l1.length c1] w fun e w' => e = .returned (.bool r) ∧ Below w.heap.size w w' := by
 have HMX_ := Aside0.mk hmx
 clear hmx
 have hu24 := Tryd.underlying24
 have hu52 := Tryd.underlying52
 have HR0_1 := Aside0.mk hr0_1
 have HC0_1 := Aside0.mk hc0_1
 clear hr0_1 hc0_1
 have HR1 := Aside0.mk hr1
 have HC1 := Aside0.mk hc1
 clear hr1 hc1
 have HB := Aside0.mk (Below.refl w.heap.size w)
 have H := h
 unfold dancestudiolaw45_FormationThere.f at H
 clear h
 have HC3 := Aside0.mk H
 clear H
 go_enter Tryd.func10, Tryd.ntmps10
 go_upto_region 1 with (first | ((with_reducible refine gate_dst (N := 2) rfl ?_); (try (refine gate_guard (by rfl) ?_; dsimp only)); refine box_event rfl (N := 2) rfl (cs := #[.string a0_0, .slice A0_1 l0_1.length c0_1]) (t := 24) (by first | (go_simp; done) | (go_simp; rfl)) ?_; intro gb2 hg w4 hbox hb; have BK2 := Aside0.mk hbox; have GW2 := mGw HB hg; have GE2 := GW2; replace HB := mSt HB hb; clear hb hbox hg))
 (try simp only [Act.put, List.setIfInBounds_toArray, List.set_cons_zero, List.set_cons_succ])
 go_cut [35] (fun v35 wc => ∃ (kq : Nat) (x35_2 : Bool), v35 = .bool x35_2 ∧ Aside0 (dancestudiolaw45_FormationThere.j0 kq l1 x35_2 a0_0 l0_1 = some r) ∧ Aside0 (kq ≤ k) ∧ Aside0 (wc.heap[gb2]? = some (.cells #[.string a0_0, (.slice A0_1 l0_1.length c0_1)] 24 (0, 0))) ∧ Aside0 (Below w.heap.size w wc))
 case first =>
  have H := HC3.out
  clear HC3
  by_cases c5 : (l0_1.length : Int) > 16
  ·
   rw [if_pos c5] at H
   have c5b0 := decide_eq_true c5
   have c5b1 : decide (16 < l0_1.length) = true := decide_eq_true (by omega)
   clear c5
   (first | rw [c5b0] | (simp only [i64_w, i32_w]; rw [c5b0]) | skip)
   have H' := Aside0.mk H
   clear H
   have hcz6 := blk_cell BK2.out; have hfz6 := blk_frozen BK2.out
   go_wp2
   go_meet
   case rel => exact ⟨_, (true), rfl, H', ⟨by first | omega | exact Nat.le_refl _⟩, ⟨BK2.out⟩, ⟨HB.out⟩⟩
  rw [if_neg c5] at H
  have c5b0 := decide_eq_false c5
  have c5b1 : decide (16 < l0_1.length) = false := decide_eq_false (by omega)
  clear c5
  (first | rw [c5b0] | (simp only [i64_w, i32_w]; rw [c5b0]) | skip)
  by_cases c7 : (a0_0.size : Int) > 60
  ·
   rw [if_pos c7] at H
   have c7b0 := decide_eq_true c7
   have c7b1 : decide (60 < a0_0.size) = true := decide_eq_true (by omega)
   clear c7
   have H' := Aside0.mk H
   clear H
   have hcz8 := blk_cell BK2.out; have hfz8 := blk_frozen BK2.out
   go_wp2
   go_meet
   case rel => exact ⟨_, (true), rfl, H', ⟨by first | omega | exact Nat.le_refl _⟩, ⟨BK2.out⟩, ⟨HB.out⟩⟩
  rw [if_neg c7] at H
  have c7b0 := decide_eq_false c7
  have c7b1 : decide (60 < a0_0.size) = false := decide_eq_false (by omega)
  clear c7
  replace H := Option.bind_eq_some_iff.mp H
  obtain ⟨t810, A90, H⟩ := H
  try dsimp only at H
  have A9 := Aside0.mk A90
  clear A90
  by_cases c10 : t810 = 0
  rotate_left
  ·
   rw [if_neg c10] at H
   have c10b0 := beq_eq_false_iff_ne.mpr c10
   have c10b1 := bne_iff_ne.mpr c10
   have H' := Aside0.mk H
   clear H
   have hcz14 := blk_cell BK2.out; have hfz14 := blk_frozen BK2.out
   go_wp2_with (first | (go_at_call 11; (with_reducible refine (formation_Check.calls k a0_0 _ _ l0_1 t810 _ (Kd.C_below HR0_1.out HB.out) HC0_1.out (Mx.below HMX_.out HB.out) A9.out).mono ?_); rintro e w15 ⟨rfl, hb⟩; replace BK2 := mBb BK2 hb; replace HB := mSt HB hb; (try clear hb)))
   go_meet
   case rel => exact ⟨_, (true), rfl, H', ⟨by first | omega | exact Nat.le_refl _⟩, ⟨BK2.out⟩, ⟨HB.out⟩⟩
  rw [if_pos c10] at H
  have c10b0 := beq_iff_eq.mpr c10
  have c10b1 := bne_eq_false_iff_eq.mpr c10
  clear c10
  have H' := Aside0.mk H
  clear H
  have hcz11 := blk_cell BK2.out; have hfz11 := blk_frozen BK2.out
  go_wp2_with (first | (go_at_call 11; (with_reducible refine (formation_Check.calls k a0_0 _ _ l0_1 t810 _ (Kd.C_below HR0_1.out HB.out) HC0_1.out (Mx.below HMX_.out HB.out) A9.out).mono ?_); rintro e w12 ⟨rfl, hb⟩; replace BK2 := mBb BK2 hb; replace HB := mSt HB hb; (try clear hb); have hcz13 := blk_cell BK2.out; have hfz13 := blk_frozen BK2.out))
  go_meet
  case rel => exact ⟨_, (((l0_1.length : Int) == 0)), rfl, H', ⟨by first | omega | exact Nat.le_refl _⟩, ⟨BK2.out⟩, ⟨HB.out⟩⟩
 case rest =>
  clear HC3; try clear c1; try clear p2; try clear c5; try clear c5b0; try clear c5b1; try clear c7; try clear c7b0; try clear c7b1; try clear c10; try clear c10b0; try clear c10b1; try clear hcz11_0; try clear hcz11_1; try clear hcz13_0; try clear hcz13_1; try clear hcz14_0; try clear hcz14_1; try clear hcz6_0; try clear hcz6_1; try clear hcz8_0; try clear hcz8_1; try clear hfz11_0; try clear hfz11_1; try clear hfz13_0; try clear hfz13_1; try clear hfz14_0; try clear hfz14_1; try clear hfz6_0; try clear hfz6_1; try clear hfz8_0; try clear hfz8_1
  obtain ⟨kq, x35_2, rfl, HA, HJ2, BK2, HB⟩ := hcut
  cases kq with
  | zero => exact absurd HA.out (by simp [dancestudiolaw45_FormationThere.j0])
  | succ kj2 =>
   have H := HA.out
   clear HA
   simp only [dancestudiolaw45_FormationThere.j0] at H
   by_cases c16 : x35_2 = true
   ·
    subst c16
    rw [if_pos rfl] at H
    replace H := Option.bind_eq_some_iff.mp H
    obtain ⟨t811, A170, H⟩ := H
    try dsimp only at H
    have A17 := Aside0.mk A170
    clear A170
    obtain rfl := Option.some.inj H
    go_wp2_with (first | ((with_reducible refine gate_callee (f := 13) rfl ?_); refine goesL_ (some 36) rfl rfl Tryd.func13 (by kernel_rfl) rfl #[] rfl (mA0) ?_; (with_reducible refine (dancestudiolaw45_awake.calls kj2  t811 _ (Mx.below HMX_.out HB.out) A17.out).mono ?_); rintro e w18 ⟨rfl, hb⟩; refine ⟨_, rfl, ?_⟩; replace BK2 := mBb BK2 hb; replace HB := mSt HB hb; (try clear hb)))
    go_ret
    exact ⟨rfl, HB.out⟩
   replace c16 := Bool.eq_false_iff.mpr c16
   subst c16
   rw [if_neg (show ¬ (false = true) by decide)] at H
   obtain ⟨y812, hy812⟩ : ∃ y_ : List (S52), y_ = (([] : List (S52))) := ⟨_, rfl⟩
   rw [← hy812] at H
   have Ny812 := Aside0.mk hy812
   clear hy812
   obtain ⟨c19, H⟩ : (y812.length + l0_1.length < 8796093022208) ∧ _ := mIf H
   have LMc19 := Aside0.mk c19
   clear c19
   obtain ⟨y815, hy815⟩ : ∃ y_ : List (S52), y_ = (y812 ++ l0_1) := ⟨_, rfl⟩
   rw [← hy815] at H
   have Ny815 := Aside0.mk hy815
   clear hy815
   have HC20 := Aside0.mk H
   clear H
   go_upto_block 0 with (first | ((with_reducible refine gate_dst (N := 37) rfl ?_); (try (refine gate_guard (by rfl) ?_; dsimp only)); refine Kd.R_lit k52 _ 52 ?hg (N := 37) ?hd (xs := ([] : List (S52))) (inner := []) (ok := fun _ => True) (okp := fun _ => True) ?hr ?hp (fun _ hk => hk) trivial (Below.refl _ _) (Nat.le_refl _) (by simp) ?_; (case hd => rfl); (case hg => rfl); (case hr => first | (go_simp; done) | (go_simp; rfl)); (case hp => exact (Reps.none _ _)); intro v813 w21 ho22 hb hg_ hnew_; clear hg_ hnew_; (first | rw [← Ny812.out] at ho22 | (simp only [Int.reduceToNat] at ho22; rw [← Ny812.out] at ho22)); have HO814 := Aside0.mk (Kd.R_lower ho22 (below_size HB.out)); replace BK2 := mBb BK2 hb; replace HB := mSt HB hb; clear hb ho22; have hcz23 := blk_cell BK2.out; have hfz23 := blk_frozen BK2.out) | ((with_reducible refine gate_builtin (b := .append) (xs := #[.tmp 37, .tmp 39]) rfl ?_); (try (refine gate_guard (by rfl) ?_; dsimp only)); at_builtin; refine Kd.R_append_rows k52 (w0 := w) w.heap.size rfl (.tmp 37) (.tmp 39) 22 52 (.agg #[(.int .i64 0), (.int .i64 0)]) 16 rfl Tryd.underlying22 info52 rfl (by decide) (by omega) v813 y812 l0_1 _ _ _ (fun _ => True) (fun _ => False) rfl rfl ?aO ?aR (fun _ _ h => h) (fun _ h => h.elim) ?aF ?aB ?aS ?aL ?_; (case aR => exact Kd.C_below HR0_1.out HB.out); (case aB => exact HB.out); (case aF => exact (fun _ _ => trivial)); (case aO => exact HO814.out); (case aS => exact (below_size HB.out)); (case aL => have := LMc19.out; omega); intro v816 w24 ho hb hg hat; rw [← Ny815.out] at ho; replace BK2 := Aside0.mk (blk_grown (g := gb2) (o := .cells #[.string a0_0, .slice A0_1 l0_1.length c0_1] 24 (0, 0)) BK2.out hg (Kd.R_ne HO814.out BK2.out (by decide))); replace HB := Aside0.mk hb; have HO817 := Aside0.mk ho; clear HO814; clear ho hb hg hat))
   (try simp only [Act.put, List.setIfInBounds_toArray, List.set_cons_zero, List.set_cons_succ])
   go_cut [] (fun wc => ∃ (kq : Nat) (x5_19 : List (S52)), Aside0 (dancestudiolaw45_FormationThere.j2 kq x5_19 a0_0 l0_1 = some r) ∧ Aside0 (kq ≤ kj2) ∧ Aside0 (Kd.R k52 52 wc w.heap.size (fun _ => True) v816 x5_19) ∧ Aside0 (wc.heap[gb2]? = some (.cells #[.string a0_0, (.slice A0_1 l0_1.length c0_1)] 24 (0, 0))) ∧ Aside0 (Below w.heap.size w wc))
   case first =>
    have H := HC20.out
    clear HC20
    have H' := Aside0.mk H
    clear H
    go_wp2
    go_loopg [6] kj2 (fun kq v6 w' => ∃ (x5_2 : List (S52)) (x6_2 : Int), v6 = .int .i64 x6_2 ∧ Aside0 (dancestudiolaw45_FormationThere.l0 kq l1 x5_2 x6_2 a0_0 l0_1 = some r) ∧ Aside0 (kq ≤ kj2) ∧ Aside0 (Kd.R k52 52 w' w.heap.size (fun _ => True) v816 x5_2) ∧ Aside0 (w'.heap[gb2]? = some (.cells #[.string a0_0, (.slice A0_1 l0_1.length c0_1)] 24 (0, 0))) ∧ Aside0 (Below w.heap.size w w'))
    case atStart => exact ⟨(y815), (0), rfl, H', ⟨Nat.le_refl _⟩, HO817, ⟨BK2.out⟩, ⟨HB.out⟩⟩
    case round =>
     clear H'
     try clear c1; try clear p2; try clear c5; try clear c5b0; try clear c5b1; try clear c7; try clear c7b0; try clear c7b1; try clear c10; try clear c10b0; try clear c10b1; try clear c13; try clear c16; try clear c19; try clear hcz11_0; try clear hcz11_1; try clear hcz13_0; try clear hcz13_1; try clear hcz14_0; try clear hcz14_1; try clear hcz23_0; try clear hcz23_1; try clear hcz6_0; try clear hcz6_1; try clear hcz8_0; try clear hcz8_1; try clear hfz11_0; try clear hfz11_1; try clear hfz13_0; try clear hfz13_1; try clear hfz14_0; try clear hfz14_1; try clear hfz23_0; try clear hfz23_1; try clear hfz6_0; try clear hfz6_1; try clear hfz8_0; try clear hfz8_1
     obtain ⟨x5_2, x6_2, rfl, HA, HK2, HO_5, BK2, HB⟩ := hrel
     cases gk with
     | zero => exact absurd HA.out (by simp [dancestudiolaw45_FormationThere.l0])
     | succ k2 =>
      have H := HA.out
      clear HA
      simp only [dancestudiolaw45_FormationThere.l0] at H
      by_cases c25 : x6_2 < (l1.length : Int)
      rotate_left
      ·
       rw [if_neg c25] at H
       have c25b0 := decide_eq_false c25
       clear c25
       (first | rw [c25b0] | (simp only [i64_w, i32_w]; rw [c25b0]) | skip)
       have H' := Aside0.mk H
       clear H
       go_wp2
       go_meet
       case rel => exact ⟨_, (x5_2), H', ⟨by have := HJ2.out; have := HK2.out; first | omega | exact Nat.le_refl _⟩, HO_5, ⟨BK2.out⟩, ⟨HB.out⟩⟩
      rw [if_pos c25] at H
      have c25b0 := decide_eq_true c25
      clear c25
      (first | rw [c25b0] | (simp only [i64_w, i32_w]; rw [c25b0]) | skip)
      by_cases c26 : x6_2 < 40
      rotate_left
      ·
       rw [if_neg c26] at H
       have c26b0 := decide_eq_false c26
       clear c26
       have H' := Aside0.mk H
       clear H
       go_wp2
       go_meet
       case rel => exact ⟨_, (x5_2), H', ⟨by have := HJ2.out; have := HK2.out; first | omega | exact Nat.le_refl _⟩, HO_5, ⟨BK2.out⟩, ⟨HB.out⟩⟩
      rw [if_pos c26] at H
      have c26b0 := decide_eq_true c26
      clear c26
      obtain ⟨c27, H⟩ : (¬ ((x5_2.length : Int) = 0)) ∧ _ := mIfn H
      have c27b0 := beq_eq_false_iff_ne.mpr c27
      have c27b1 := bne_iff_ne.mpr c27
      have c27b2 : ¬ (x5_2 = []) := fun h_ => c27 (by rw [h_]; rfl)
      obtain ⟨c28, H⟩ : (0 ≤ x6_2) ∧ _ := mIf H
      have c28b0 := decide_eq_true c28
      clear c28
      obtain ⟨ji29, hji29⟩ : ∃ j_ : Int, (Int.tmod (wrap64 (rd l1 x6_2)) (x5_2.length : Int)) = j_ := ⟨_, rfl⟩
      replace H : (if 0 ≤ (ji29) then (if (ji29) < (x5_2.length : Int) then (if 0 ≤ (Int.tmod x6_2 (x5_2.length : Int)) then (if (Int.tmod x6_2 (x5_2.length : Int)) < (x5_2.length : Int) then (dancestudiolaw45_FormationThere.l0 k2 l1 ((x5_2.set ((Int.tmod x6_2 (x5_2.length : Int)) : Int).toNat (⟨(rd_T52 x5_2 (ji29)).f0, (rd_T52 x5_2 (ji29)).f1⟩ : S52)).set ((ji29) : Int).toNat (⟨(rd_T52 x5_2 (Int.tmod x6_2 (x5_2.length : Int))).f0, (rd_T52 x5_2 (Int.tmod x6_2 (x5_2.length : Int))).f1⟩ : S52)) (wrap64 (x6_2 + 1)) a0_0 l0_1) else (none)) else (none)) else (none)) else (none)) = some r := by first | (rw [hji29] at H; exact H) | (simp only [hji29] at H ⊢; exact H)
      obtain ⟨c30, H⟩ : (0 ≤ (ji29)) ∧ _ := mIf H
      have c30b0 := decide_eq_true c30
      clear c30
      obtain ⟨c31, H⟩ : ((ji29) < (x5_2.length : Int)) ∧ _ := mIf H
      have c31b0 := decide_eq_true c31
      clear c31
      obtain ⟨ji32, hji32⟩ : ∃ j_ : Int, (Int.tmod x6_2 (x5_2.length : Int)) = j_ := ⟨_, rfl⟩
      replace H : (if 0 ≤ (ji32) then (if (ji32) < (x5_2.length : Int) then (dancestudiolaw45_FormationThere.l0 k2 l1 ((x5_2.set ((ji32) : Int).toNat (⟨(rd_T52 x5_2 (ji29)).f0, (rd_T52 x5_2 (ji29)).f1⟩ : S52)).set ((ji29) : Int).toNat (⟨(rd_T52 x5_2 (ji32)).f0, (rd_T52 x5_2 (ji32)).f1⟩ : S52)) (wrap64 (x6_2 + 1)) a0_0 l0_1) else (none)) else (none)) = some r := by first | (rw [hji32] at H; exact H) | (simp only [hji32] at H ⊢; exact H)
      obtain ⟨c33, H⟩ : (0 ≤ (ji32)) ∧ _ := mIf H
      have c33b0 := decide_eq_true c33
      clear c33
      obtain ⟨c34, H⟩ : ((ji32) < (x5_2.length : Int)) ∧ _ := mIf H
      have c34b0 := decide_eq_true c34
      clear c34
      obtain ⟨y821, hy821⟩ : ∃ y_ : List (S52), y_ = (x5_2.set ((ji32) : Int).toNat (⟨(rd_T52 x5_2 (ji29)).f0, (rd_T52 x5_2 (ji29)).f1⟩ : S52)) := ⟨_, rfl⟩
      rw [← hy821] at H
      have Ny821 := Aside0.mk hy821
      clear hy821
      obtain ⟨y822, hy822⟩ : ∃ y_ : List (S52), y_ = (y821.set ((ji29) : Int).toNat (⟨(rd_T52 x5_2 (ji32)).f0, (rd_T52 x5_2 (ji32)).f1⟩ : S52)) := ⟨_, rfl⟩
      rw [← hy822] at H
      have Ny822 := Aside0.mk hy822
      clear hy822
      have H' := Aside0.mk H
      clear H
      try go_wp2
      replace HO_5 := Aside0.mk (Kd.R_drew HO_5.out); replace BK2 := Aside0.mk (blk_drew BK2.out); replace HB := Aside0.mk (below_drew1 HB.out)
      obtain ⟨Ao38, co38, eo38⟩ := Kd.R_slice HO_5.out
      subst eo38
      have p818 : 0 ≤ (x6_2 : Int) := of_decide_eq_true (by assumption)
      have q818 : x6_2 < (l1.length : Int) := of_decide_eq_true (by assumption)
      obtain ⟨ad818, e818, hx818_0⟩ := Kd.at_int HR1.out x6_2 p818 q818
      have hw818_0 := hx818_0
      cases e818
      replace hx818_0 := mHx HB hx818_0
      replace p818 := eq_true p818
      replace q818 := eq_true q818
      refine start_ (n := 14) (S := fun w' => w'.cell? (ad818.add (x6_2).toNat) = some (.int .u8 (rd l1 x6_2))) (ds := []) #[false, false, false, false, false, false, false, false, false, false, false, false, false, false] (by kernel_rfl) rfl rfl (((HB.out.cell (World.block_lt_of_cell? w _ hw818_0)).trans hw818_0)) (fun hHeld => ?_); refine with_tabW dancestudiolaw45_FormationThere.tab7 dancestudiolaw45_FormationThere.bits7 (fun HT_ HW_ => ?_)
      generalize wr.drew = w37 at HO_5 BK2 HB hx818_0 hHeld ⊢
      refine pM 0 51 HT_ ?_
      refine pM 1 52 HT_ ?_
      refine pM 2 53 HT_ ?_
      refine pM 3 54 HT_ ?_
      refine pM 4 55 HT_ ?_
      refine pM 5 56 HT_ ?_
      refine pM 6 57 HT_ ?_
      refine pM 9 60 HT_ ?_
      refine pM 10 61 HT_ ?_
      refine pM 12 7 HT_ ?_
      refine take_ (i := 7) (N := some 58) (v := ?_) (a' := ?_) #[true, true, true, true, true, true, true, true, false, true, true, false, true, false] rfl rfl (take_ofW HT_.out HW_.out (by kernel_rfl)) (fun _ _ _ h => h) (Or.inl ⟨by rfl, ?_⟩) hHeld ?_ ?_
      rotate_left
      ·
       intro w' s0
       go_simp
       with_reducible rfl
      rotate_left
      ·
       simp only [mP]
       rfl
      refine pM 8 59 HT_ ?_
      refine pM 11 62 HT_ ?_
      refine pM 13 8 HT_ ?_
      refine done_ (done_of HT_.out (by kernel_rfl)) ?_
      try go_wp2
      replace HO_5 := Aside0.mk (Kd.R_drew HO_5.out); replace BK2 := Aside0.mk (blk_drew BK2.out); replace HB := Aside0.mk (below_drew1 HB.out)
      have p819 : 0 ≤ ((ji29) : Int) := of_decide_eq_true (by assumption)
      have q819 : (ji29) < (x5_2.length : Int) := of_decide_eq_true (by assumption)
      obtain ⟨ad819, e819, hx819_0, hx819_1⟩ := at_T52 (Kd.R_reads' HO_5.out).2.2 (ji29) p819 q819
      cases e819
      replace p819 := eq_true p819
      replace q819 := eq_true q819
      have p820 : 0 ≤ ((ji32) : Int) := of_decide_eq_true (by assumption)
      have q820 : (ji32) < (x5_2.length : Int) := of_decide_eq_true (by assumption)
      obtain ⟨ad820, e820, hx820_0, hx820_1⟩ := at_T52 (Kd.R_reads' HO_5.out).2.2 (ji32) p820 q820
      obtain rfl : ad819 = ad820 := (by injection e820)
      replace p820 := eq_true p820
      replace q820 := eq_true q820
      have p35 : 0 ≤ ((ji32) : Int) := of_decide_eq_true (by assumption)
      have q35 : ((ji32) : Int) < ((x5_2.length : Int) : Int) := of_decide_eq_true (by assumption)
      obtain ⟨go35, co35, eo35, gb1, gl35, cl35, HG35⟩ := Kd.R_form HO_5.out (by omega)
      (first | cases eo35 | (injection eo35 with ea_ en_ ec_; (first | subst ea_ | (injection ea_ with ea_; subst ea_)); subst ec_; clear en_))
      have GB35 := Aside0.mk gb1
      have GG35 := Aside0.mk HG35
      clear gb1 gl35 HG35
      (first | simp only [add_plain] at hx819_0 | skip)
      (first | simp only [add_plain] at hx819_1 | skip)
      (first | simp only [add_plain] at hx820_0 | skip)
      (first | simp only [add_plain] at hx820_1 | skip)
      obtain ⟨ce35, hcl35, hM35, hcc35, hfr35⟩ := Kd.R_elem HO_5.out z52 ((ji32) : Int) p35 q35
      obtain rfl := k52_openM hM35
      have hx35_0 : World.cell? _ ⟨go35, ((ji32) : Int).toNat * 2, none⟩ = some (.int .i64 ((rd_T52 x5_2 (ji32)).f0)) := hcc35 0 _ rfl
      have hx35_1 : World.cell? _ ⟨go35, ((ji32) : Int).toNat * 2 + 1, none⟩ = some (.int .i64 ((rd_T52 x5_2 (ji32)).f1)) := hcc35 1 _ rfl
      have hf35_0 : World.frozen? _ ⟨go35, ((ji32) : Int).toNat * 2, none⟩ = false := hfr35 0
      have hf35_1 : World.frozen? _ ⟨go35, ((ji32) : Int).toNat * 2 + 1, none⟩ = false := hfr35 1
      clear hcl35 hcc35 hfr35 hM35
      replace p35 := eq_true p35
      replace q35 := eq_true q35
      obtain ⟨ce40, hcl40, hM40, hcc40, hfr40⟩ := Kd.R_elem HO_5.out z52 ((ji32) : Int) (of_decide_eq_true (by assumption)) (by have h_ : ((ji32) : Int) < ((x5_2.length : Int) : Int) := of_decide_eq_true (by assumption); first | exact h_ | (have e_ := (Kd.R_reads' HO_5.out).1; omega) | simpa using h_)
      obtain rfl := k52_openM hM40
      have HP40 := (Kd.R_seg HO_5.out ((ji32) : Int) (of_decide_eq_true (by assumption)) (by have h_ : ((ji32) : Int) < ((x5_2.length : Int) : Int) := of_decide_eq_true (by assumption); first | exact h_ | (have e_ := (Kd.R_reads' HO_5.out).1; omega) | simpa using h_) (seg := [.int .i64 ((rd_T52 x5_2 (ji29)).f0), .int .i64 ((rd_T52 x5_2 (ji29)).f1)]) (j := 0) hcl40 hcc40 (show 2 ≤ 2 from by decide) (x' := (⟨(rd_T52 x5_2 (ji29)).f0, (rd_T52 x5_2 (ji29)).f1⟩ : S52)) (k52_mkM _ _ _ (⟨(rd_T52 x5_2 (ji29)).f0, (rd_T52 x5_2 (ji29)).f1⟩ : S52) ) (fun _ hk => hk)).1
      rw [← Ny821.out] at HP40
      have HQ40 := Aside0.mk HP40
      clear hcl40 hcc40 hfr40 hM40 HP40
      have p36 : 0 ≤ ((ji29) : Int) := of_decide_eq_true (by assumption)
      have q36 : ((ji29) : Int) < ((x5_2.length : Int) : Int) := of_decide_eq_true (by assumption)
      obtain ⟨ce36, hcl36, hM36, hcc36, hfr36⟩ := Kd.R_elem HQ40.out z52 ((ji29) : Int) p36 q36
      obtain rfl := k52_openM hM36
      have hx36_0 : World.cell? _ ⟨go35, ((ji29) : Int).toNat * 2, none⟩ = some (.int .i64 ((rd_T52 y821 (ji29)).f0)) := hcc36 0 _ rfl
      have hx36_1 : World.cell? _ ⟨go35, ((ji29) : Int).toNat * 2 + 1, none⟩ = some (.int .i64 ((rd_T52 y821 (ji29)).f1)) := hcc36 1 _ rfl
      have hf36_0 : World.frozen? _ ⟨go35, ((ji29) : Int).toNat * 2, none⟩ = false := hfr36 0
      have hf36_1 : World.frozen? _ ⟨go35, ((ji29) : Int).toNat * 2 + 1, none⟩ = false := hfr36 1
      have hxb_0 : (World.setCell _ ⟨go35, ((ji32) : Int).toNat * 2, none⟩ (.int .i64 ((rd_T52 x5_2 (ji29)).f0))).cell? ⟨go35, ((ji29) : Int).toNat * 2, none⟩ = some (.int .i64 ((rd_T52 y821 (ji29)).f0)) := cellX hx36_0 (by have hs_ : k52.sz = 2 := rfl; simp only [hs_]; omega)
      have hxb_1 : (World.setCell (World.setCell _ ⟨go35, ((ji32) : Int).toNat * 2, none⟩ (.int .i64 ((rd_T52 x5_2 (ji29)).f0))) ⟨go35, ((ji32) : Int).toNat * 2 + 1, none⟩ (.int .i64 ((rd_T52 x5_2 (ji29)).f1))).cell? ⟨go35, ((ji29) : Int).toNat * 2 + 1, none⟩ = some (.int .i64 ((rd_T52 y821 (ji29)).f1)) := hx36_1
      obtain ⟨ceb, hclb, hMb, hccb, hfrb⟩ := Kd.R_elem HO_5.out z52 ((ji29) : Int) p36 q36
      have hfb_0 : World.frozen? _ ⟨go35, ((ji29) : Int).toNat * 2, none⟩ = false := hfrb 0
      have hfb_1 : World.frozen? _ ⟨go35, ((ji29) : Int).toNat * 2 + 1, none⟩ = false := hfrb 1
      clear hclb hMb hccb hfrb
      clear hcl36 hcc36 hfr36 hM36
      replace p36 := eq_true p36
      replace q36 := eq_true q36
      obtain ⟨ce41, hcl41, hM41, hcc41, hfr41⟩ := Kd.R_elem HQ40.out z52 ((ji29) : Int) (of_decide_eq_true (by assumption)) (by have h_ : ((ji29) : Int) < ((x5_2.length : Int) : Int) := of_decide_eq_true (by assumption); first | exact h_ | (have e_ := (Kd.R_reads' HO_5.out).1; omega) | simpa using h_)
      obtain rfl := k52_openM hM41
      have HP41 := (Kd.R_seg HQ40.out ((ji29) : Int) (of_decide_eq_true (by assumption)) (by have h_ : ((ji29) : Int) < ((x5_2.length : Int) : Int) := of_decide_eq_true (by assumption); first | exact h_ | (have e_ := (Kd.R_reads' HO_5.out).1; omega) | simpa using h_) (seg := [.int .i64 ((rd_T52 x5_2 (ji32)).f0), .int .i64 ((rd_T52 x5_2 (ji32)).f1)]) (j := 0) hcl41 hcc41 (show 2 ≤ 2 from by decide) (x' := (⟨(rd_T52 x5_2 (ji32)).f0, (rd_T52 x5_2 (ji32)).f1⟩ : S52)) (k52_mkM _ _ _ (⟨(rd_T52 x5_2 (ji32)).f0, (rd_T52 x5_2 (ji32)).f1⟩ : S52) ) (fun _ hk => hk)).1
      rw [← Ny822.out] at HP41
      have HQ41 := Aside0.mk HP41
      clear hcl41 hcc41 hfr41 hM41 HP41
      refine start_ (n := 16) (S := fun w' => w'.cell? ⟨go35, ((ji29)).toNat * 2, none⟩ = some (.int .i64 ((rd_T52 x5_2 (ji29)).f0)) ∧ w'.cell? ⟨go35, ((ji29)).toNat * 2 + 1, none⟩ = some (.int .i64 ((rd_T52 x5_2 (ji29)).f1)) ∧ w'.cell? ⟨go35, ((ji32)).toNat * 2, none⟩ = some (.int .i64 ((rd_T52 x5_2 (ji32)).f0)) ∧ w'.cell? ⟨go35, ((ji32)).toNat * 2 + 1, none⟩ = some (.int .i64 ((rd_T52 x5_2 (ji32)).f1))) (ds := [13, 15]) #[false, false, false, false, false, false, false, false, false, false, false, false, false, false, false, false] (by kernel_rfl) rfl rfl ⟨hx819_0, hx819_1, hx820_0, hx820_1⟩ (fun hHeld => ?_); refine with_tabW dancestudiolaw45_FormationThere.tab8 dancestudiolaw45_FormationThere.bits8 (fun HT_ HW_ => ?_)
      generalize w37.drew = w39 at HO_5 BK2 HB GG35 HQ40 HQ41 hf35_0 hf35_1 hf36_0 hf36_1 hx35_0 hx35_1 hx36_0 hx36_1 hx819_0 hx819_1 hx820_0 hx820_1 hxb_0 hxb_1 hfb_0 hfb_1 hHeld ⊢
      refine pM 0 63 HT_ ?_
      refine pM 1 64 HT_ ?_
      refine pM 2 65 HT_ ?_
      refine pM 3 66 HT_ ?_
      refine pM 4 67 HT_ ?_
      refine pM 5 68 HT_ ?_
      refine pM 6 69 HT_ ?_
      refine pM 8 71 HT_ ?_
      refine pM 9 72 HT_ ?_
      refine pM 10 73 HT_ ?_
      refine tM 7 70 rfl HT_ HW_ (by rintro w' ⟨s0, s1, s2, s3⟩; go_simp; with_reducible rfl) hHeld ?_
      refine tM 11 74 rfl HT_ HW_ (by rintro w' ⟨s0, s1, s2, s3⟩; go_simp; with_reducible rfl) hHeld ?_
      refine pM 12 75 HT_ ?_
      refine last_ (i := 13) (N := none) #[true, true, true, true, true, true, true, true, true, true, true, true, true, true, false, false] rfl rfl (one_of HT_.out (by kernel_rfl)) (by decide) (fun K hK => ?_)
      refine skip_ (w1 := ?_) (by rfl) rfl ?_ ?_
      rotate_left
      ·
       go_simp
       rfl
      refine hK.out _ _ ?_
      clear hK K
      refine pM 14 76 HT_ ?_
      refine last_ (i := 15) (N := none) #[true, true, true, true, true, true, true, true, true, true, true, true, true, true, true, true] rfl rfl (one_of HT_.out (by kernel_rfl)) (by decide) (fun K hK => ?_)
      refine skip_ (w1 := ?_) (by rfl) rfl ?_ ?_
      rotate_left
      ·
       go_simp
       rfl
      refine hK.out _ _ ?_
      clear hK K
      refine done_ (done_of HT_.out (by kernel_rfl)) ?_
      try go_wp2
      go_roundg k2
      case measure => have := HJ2.out; have := HK2.out; omega
      case rel => exact ⟨(y822), (wrap64 (x6_2 + 1)), rfl, H', ⟨by have := HJ2.out; have := HK2.out; omega⟩, HQ41, ⟨by refine blk_far ?_ (by have h_ := Kd.R_ne HO_5.out BK2.out (by decide); intro e_; exact h_ (by rw [e_]; rfl)) _; refine blk_far ?_ (by have h_ := Kd.R_ne HO_5.out BK2.out (by decide); intro e_; exact h_ (by rw [e_]; rfl)) _; refine blk_far ?_ (by have h_ := Kd.R_ne HO_5.out BK2.out (by decide); intro e_; exact h_ (by rw [e_]; rfl)) _; refine blk_far ?_ (by have h_ := Kd.R_ne HO_5.out BK2.out (by decide); intro e_; exact h_ (by rw [e_]; rfl)) _; exact BK2.out⟩, ⟨hO HB⟩⟩
   case rest =>
    clear HC20; try clear c1; try clear c2; try clear p2; try clear c3; try clear p3; try clear q3; try clear hx3; try clear hf3; try clear c4; try clear c5; try clear c5b0; try clear c5b1; try clear p6; try clear c7; try clear c7b0; try clear c7b1; try clear p8; try clear q8; try clear hx8; try clear c10; try clear c10b0; try clear c10b1; try clear c13; try clear c16; try clear c19; try clear c25; try clear c25b0; try clear c26; try clear c26b0; try clear c27; try clear c27b0; try clear c27b1; try clear c27b2; try clear c28; try clear c28b0; try clear c30; try clear c30b0; try clear c31; try clear c31b0; try clear c33; try clear c33b0; try clear c34; try clear c34b0; try clear c35; try clear p35; try clear q35; try clear hx35; try clear hf35; try clear c36; try clear p36; try clear q36; try clear hx36; try clear hf36; try clear c40; try clear c41; try clear hcz11_0; try clear hcz11_1; try clear hcz13_0; try clear hcz13_1; try clear hcz14_0; try clear hcz14_1; try clear hcz23_0; try clear hcz23_1; try clear hcz6_0; try clear hcz6_1; try clear hcz8_0; try clear hcz8_1; try clear hfz11_0; try clear hfz11_1; try clear hfz13_0; try clear hfz13_1; try clear hfz14_0; try clear hfz14_1; try clear hfz23_0; try clear hfz23_1; try clear hfz6_0; try clear hfz6_1; try clear hfz8_0; try clear hfz8_1; try clear hx35_0; try clear hx35_1; try clear hx36_0; try clear hx36_1; try clear hx818_0; try clear hx819_0; try clear hx819_1; try clear hx820_0; try clear hx820_1; try clear p818; try clear p819; try clear p820; try clear q818; try clear q819; try clear q820
    obtain ⟨kq, x5_19, HA, HJ19, HO_5, BK2, HB⟩ := hcut
    cases kq with
    | zero => exact absurd HA.out (by simp [dancestudiolaw45_FormationThere.j2])
    | succ kj19 =>
     have H := HA.out
     clear HA
     simp only [dancestudiolaw45_FormationThere.j2] at H
     replace H := Option.bind_eq_some_iff.mp H
     obtain ⟨⟨t823, t826, t827⟩, A420, H⟩ := H
     try dsimp only at H
     have A42 := Aside0.mk A420
     clear A420
     replace H := Option.bind_eq_some_iff.mp H
     obtain ⟨⟨t828, t831⟩, A430, H⟩ := H
     try dsimp only at H
     have A43 := Aside0.mk A430
     clear A430
     have HC44 := Aside0.mk H
     clear H
     have hcz45 := blk_cell BK2.out; have hfz45 := blk_frozen BK2.out
     obtain ⟨Ao46, co46, eo46⟩ := Kd.R_slice HO_5.out
     subst eo46
     go_upto_region 11 with (first | ((with_reducible refine gate_callee (f := 15) rfl ?_); refine goesL_ (some 80) rfl rfl Tryd.func15 (by kernel_rfl) rfl #[.agg #[.string a0_0, .slice A0_1 l0_1.length c0_1], .slice Ao46 x5_19.length co46] rfl (mA2 rfl rfl) ?_; (with_reducible refine (formation_Fit.calls kj19 a0_0 _ _ l0_1 _ _ x5_19 t823 t826 t827 _ (Kd.C_below HR0_1.out HB.out) HC0_1.out ((Kd.R_reads' HO_5.out).2.2) ((Kd.R_reads' HO_5.out).2.1) (Mx.below HMX_.out HB.out) A42.out).mono ?_); rintro e w47 ⟨v824, rfl, ho0, hb⟩; refine ⟨_, rfl, ?_⟩; replace HO_5 := Aside0.mk (Kd.R_below HO_5.out hb); have HO825 := Aside0.mk (Kd.R_lower ho0 (below_size HB.out)); replace BK2 := mBb BK2 hb; replace HB := mSt HB hb; (try clear hb); (try clear ho0); have hcz48 := blk_cell BK2.out; have hfz48 := blk_frozen BK2.out) | ((with_reducible refine gate_callee (f := 18) rfl ?_); refine goesL_ (some 87) rfl rfl Tryd.func18 (by kernel_rfl) rfl #[.agg #[.string a0_0, .slice A0_1 l0_1.length c0_1], .slice Ao46 x5_19.length co46, .int .i64 0] rfl (mA3 rfl rfl rfl) ?_; (with_reducible refine (formation_Ways.calls kj19 a0_0 _ _ l0_1 _ _ x5_19 0 t828 t831 _ (Kd.C_below HR0_1.out HB.out) HC0_1.out ((Kd.R_reads' HO_5.out).2.2) ((Kd.R_reads' HO_5.out).2.1) (Mx.below HMX_.out HB.out) A43.out).mono ?_); rintro e w49 ⟨v829, rfl, ho0, hb⟩; refine ⟨_, rfl, ?_⟩; replace HO_5 := Aside0.mk (Kd.R_below HO_5.out hb); replace HO825 := Aside0.mk (Kd.R_below HO825.out hb); have HO830 := Aside0.mk (Kd.R_lower ho0 (below_size HB.out)); replace BK2 := mBb BK2 hb; replace HB := mSt HB hb; (try clear hb); (try clear ho0)))
     (try simp only [Act.put, List.setIfInBounds_toArray, List.set_cons_zero, List.set_cons_succ])
     go_cut [113] (fun v113 wc => ∃ (kq : Nat) (x113_43 : Bool), v113 = .bool x113_43 ∧ Aside0 (dancestudiolaw45_FormationThere.j3 kq x5_19 t823 t828 x113_43 a0_0 l0_1 = some r) ∧ Aside0 (kq ≤ kj19) ∧ Aside0 (Kd.R k52 52 wc w.heap.size (fun _ => True) (.slice Ao46 x5_19.length co46) x5_19) ∧ Aside0 (Kd.R (Kd.int .i64) 3 wc w.heap.size (fun _ => True) v824 t823) ∧ Aside0 (Kd.R k55 55 wc w.heap.size (fun _ => True) v829 t828) ∧ Aside0 (wc.heap[gb2]? = some (.cells #[.string a0_0, (.slice A0_1 l0_1.length c0_1)] 24 (0, 0))) ∧ Aside0 (Below w.heap.size w wc))
     case first =>
      have H := HC44.out
      clear HC44
      by_cases c50 : t827 = 0
      rotate_left
      ·
       rw [if_neg c50] at H
       have c50b0 := beq_eq_false_iff_ne.mpr c50
       have c50b1 := bne_iff_ne.mpr c50
       (first | rw [c50b0] | (simp only [i64_w, i32_w]; rw [c50b0]) | skip)
       have H' := Aside0.mk H
       clear H
       go_wp2
       go_meet
       case rel => exact ⟨_, (true), rfl, H', ⟨by have := HJ2.out; have := HJ19.out; first | omega | exact Nat.le_refl _⟩, HO_5, HO825, HO830, ⟨BK2.out⟩, ⟨HB.out⟩⟩
      rw [if_pos c50] at H
      have c50b0 := beq_iff_eq.mpr c50
      have c50b1 := bne_eq_false_iff_eq.mpr c50
      clear c50
      (first | rw [c50b0] | (simp only [i64_w, i32_w]; rw [c50b0]) | skip)
      by_cases c51 : t831 = 0
      rotate_left
      ·
       rw [if_neg c51] at H
       have c51b0 := beq_eq_false_iff_ne.mpr c51
       have c51b1 := bne_iff_ne.mpr c51
       have H' := Aside0.mk H
       clear H
       go_wp2
       go_meet
       case rel => exact ⟨_, (true), rfl, H', ⟨by have := HJ2.out; have := HJ19.out; first | omega | exact Nat.le_refl _⟩, HO_5, HO825, HO830, ⟨BK2.out⟩, ⟨HB.out⟩⟩
      rw [if_pos c51] at H
      have c51b0 := beq_iff_eq.mpr c51
      have c51b1 := bne_eq_false_iff_eq.mpr c51
      clear c51
      by_cases c52 : t826 = 0
      rotate_left
      ·
       rw [if_neg c52] at H
       have c52b0 := beq_eq_false_iff_ne.mpr c52
       have c52b1 := bne_iff_ne.mpr c52
       have H' := Aside0.mk H
       clear H
       go_wp2
       go_meet
       case rel => exact ⟨_, (true), rfl, H', ⟨by have := HJ2.out; have := HJ19.out; first | omega | exact Nat.le_refl _⟩, HO_5, HO825, HO830, ⟨BK2.out⟩, ⟨HB.out⟩⟩
      rw [if_pos c52] at H
      have c52b0 := beq_iff_eq.mpr c52
      have c52b1 := bne_eq_false_iff_eq.mpr c52
      clear c52
      by_cases c53 : (t823.length : Int) = (x5_19.length : Int)
      rotate_left
      ·
       rw [if_neg c53] at H
       have c53b0 := beq_eq_false_iff_ne.mpr c53
       have c53b1 := bne_iff_ne.mpr c53
       have c53b2 : (t823.length == x5_19.length) = false := by first | simpa using c53 | (simp at c53 ⊢; omega)
       have H' := Aside0.mk H
       clear H
       obtain ⟨Ao56, co56, eo56⟩ := Kd.R_slice HO825.out
       subst eo56
       go_wp2
       go_meet
       case rel => exact ⟨_, (true), rfl, H', ⟨by have := HJ2.out; have := HJ19.out; first | omega | exact Nat.le_refl _⟩, HO_5, HO825, HO830, ⟨BK2.out⟩, ⟨HB.out⟩⟩
      rw [if_pos c53] at H
      have c53b0 := beq_iff_eq.mpr c53
      have c53b1 := bne_eq_false_iff_eq.mpr c53
      have c53b2 : (t823.length == x5_19.length) = true := by first | simpa using c53 | (simp at c53 ⊢; omega)
      clear c53
      have H' := Aside0.mk H
      clear H
      obtain ⟨Ao54, co54, eo54⟩ := Kd.R_slice HO825.out
      subst eo54
      obtain ⟨Ao55, co55, eo55⟩ := Kd.R_slice HO830.out
      subst eo55
      go_wp2
      go_meet
      case rel => exact ⟨_, (((t828.length : Int) != (x5_19.length : Int))), rfl, H', ⟨by have := HJ2.out; have := HJ19.out; first | omega | exact Nat.le_refl _⟩, HO_5, HO825, HO830, ⟨BK2.out⟩, ⟨HB.out⟩⟩
     case rest =>
      clear HC44; try clear c1; try clear c2; try clear p2; try clear c3; try clear p3; try clear q3; try clear hx3; try clear hf3; try clear c4; try clear c5; try clear c5b0; try clear c5b1; try clear p6; try clear c7; try clear c7b0; try clear c7b1; try clear p8; try clear q8; try clear hx8; try clear c10; try clear c10b0; try clear c10b1; try clear c13; try clear c15; try clear c16; try clear c18; try clear c19; try clear c25; try clear c25b0; try clear c26; try clear c26b0; try clear c27; try clear c27b0; try clear c27b1; try clear c27b2; try clear c28; try clear c28b0; try clear c30; try clear c30b0; try clear c31; try clear c31b0; try clear c33; try clear c33b0; try clear c34; try clear c34b0; try clear c35; try clear p35; try clear q35; try clear hx35; try clear hf35; try clear c36; try clear p36; try clear q36; try clear hx36; try clear hf36; try clear c40; try clear c41; try clear c50; try clear c50b0; try clear c50b1; try clear c51; try clear c51b0; try clear c51b1; try clear c52; try clear c52b0; try clear c52b1; try clear c53; try clear c53b0; try clear c53b1; try clear c53b2; try clear hcz11_0; try clear hcz11_1; try clear hcz13_0; try clear hcz13_1; try clear hcz14_0; try clear hcz14_1; try clear hcz23_0; try clear hcz23_1; try clear hcz45_0; try clear hcz45_1; try clear hcz48_0; try clear hcz48_1; try clear hcz6_0; try clear hcz6_1; try clear hcz8_0; try clear hcz8_1; try clear hfz11_0; try clear hfz11_1; try clear hfz13_0; try clear hfz13_1; try clear hfz14_0; try clear hfz14_1; try clear hfz23_0; try clear hfz23_1; try clear hfz45_0; try clear hfz45_1; try clear hfz48_0; try clear hfz48_1; try clear hfz6_0; try clear hfz6_1; try clear hfz8_0; try clear hfz8_1; try clear hx35_0; try clear hx35_1; try clear hx36_0; try clear hx36_1; try clear hx818_0; try clear hx819_0; try clear hx819_1; try clear hx820_0; try clear hx820_1; try clear p818; try clear p819; try clear p820; try clear q818; try clear q819; try clear q820
      obtain ⟨kq, x113_43, rfl, HA, HJ43, HO_5, HO_9, HO_12, BK2, HB⟩ := hcut
      cases kq with
      | zero => exact absurd HA.out (by simp [dancestudiolaw45_FormationThere.j3])
      | succ kj43 =>
       have H := HA.out
       clear HA
       simp only [dancestudiolaw45_FormationThere.j3] at H
       by_cases c57 : x113_43 = true
       ·
        subst c57
        rw [if_pos rfl] at H
        exact absurd H (by simp)
       replace c57 := Bool.eq_false_iff.mpr c57
       subst c57
       rw [if_neg (show ¬ (false = true) by decide)] at H
       have H' := Aside0.mk H
       clear H
       go_wp2
       go_loopg [14] kj43 (fun kq v14 w' => ∃ (x14_4 : Int), v14 = .int .i64 x14_4 ∧ Aside0 (dancestudiolaw45_FormationThere.l1 kq x5_19 t823 t828 x14_4 a0_0 l0_1 = some r) ∧ Aside0 (kq ≤ kj43) ∧ Aside0 (Kd.R k52 52 w' w.heap.size (fun _ => True) (.slice Ao46 x5_19.length co46) x5_19) ∧ Aside0 (Kd.R (Kd.int .i64) 3 w' w.heap.size (fun _ => True) v824 t823) ∧ Aside0 (Kd.R k55 55 w' w.heap.size (fun _ => True) v829 t828) ∧ Aside0 (w'.heap[gb2]? = some (.cells #[.string a0_0, (.slice A0_1 l0_1.length c0_1)] 24 (0, 0))) ∧ Aside0 (Below w.heap.size w w'))
       case atStart => exact ⟨(0), rfl, H', ⟨Nat.le_refl _⟩, HO_5, HO_9, HO_12, ⟨BK2.out⟩, ⟨HB.out⟩⟩
       case round =>
        clear H'
        try clear c1; try clear c2; try clear p2; try clear c3; try clear p3; try clear q3; try clear hx3; try clear hf3; try clear c4; try clear c5; try clear c5b0; try clear c5b1; try clear p6; try clear c7; try clear c7b0; try clear c7b1; try clear p8; try clear q8; try clear hx8; try clear c10; try clear c10b0; try clear c10b1; try clear c13; try clear c15; try clear c16; try clear c18; try clear c19; try clear c25; try clear c25b0; try clear c26; try clear c26b0; try clear c27; try clear c27b0; try clear c27b1; try clear c27b2; try clear c28; try clear c28b0; try clear c30; try clear c30b0; try clear c31; try clear c31b0; try clear c33; try clear c33b0; try clear c34; try clear c34b0; try clear c35; try clear p35; try clear q35; try clear hx35; try clear hf35; try clear c36; try clear p36; try clear q36; try clear hx36; try clear hf36; try clear c40; try clear c41; try clear c50; try clear c50b0; try clear c50b1; try clear c51; try clear c51b0; try clear c51b1; try clear c52; try clear c52b0; try clear c52b1; try clear c53; try clear c53b0; try clear c53b1; try clear c53b2; try clear c57; try clear hcz11_0; try clear hcz11_1; try clear hcz13_0; try clear hcz13_1; try clear hcz14_0; try clear hcz14_1; try clear hcz23_0; try clear hcz23_1; try clear hcz45_0; try clear hcz45_1; try clear hcz48_0; try clear hcz48_1; try clear hcz6_0; try clear hcz6_1; try clear hcz8_0; try clear hcz8_1; try clear hfz11_0; try clear hfz11_1; try clear hfz13_0; try clear hfz13_1; try clear hfz14_0; try clear hfz14_1; try clear hfz23_0; try clear hfz23_1; try clear hfz45_0; try clear hfz45_1; try clear hfz48_0; try clear hfz48_1; try clear hfz6_0; try clear hfz6_1; try clear hfz8_0; try clear hfz8_1; try clear hx35_0; try clear hx35_1; try clear hx36_0; try clear hx36_1; try clear hx818_0; try clear hx819_0; try clear hx819_1; try clear hx820_0; try clear hx820_1; try clear p818; try clear p819; try clear p820; try clear q818; try clear q819; try clear q820
        obtain ⟨x14_4, rfl, HA, HK4, HO_5, HO_9, HO_12, BK2, HB⟩ := hrel
        cases gk with
        | zero => exact absurd HA.out (by simp [dancestudiolaw45_FormationThere.l1])
        | succ k4 =>
         have H := HA.out
         clear HA
         simp only [dancestudiolaw45_FormationThere.l1] at H
         by_cases c58 : x14_4 < (t823.length : Int)
         rotate_left
         ·
          rw [if_neg c58] at H
          have c58b0 := decide_eq_false c58
          clear c58
          replace H := Option.bind_eq_some_iff.mp H
          obtain ⟨t841, A720, H⟩ := H
          try dsimp only at H
          have A72 := Aside0.mk A720
          clear A720
          obtain rfl := Option.some.inj H
          obtain ⟨Ao73, co73, eo73⟩ := Kd.R_slice HO_9.out
          subst eo73
          go_wp2_with (first | ((with_reducible refine gate_callee (f := 13) rfl ?_); refine goesL_ (some 173) rfl rfl Tryd.func13 (by kernel_rfl) rfl #[] rfl (mA0) ?_; (with_reducible refine (dancestudiolaw45_awake.calls k4  t841 _ (Mx.below HMX_.out HB.out) A72.out).mono ?_); rintro e w74 ⟨rfl, hb⟩; refine ⟨_, rfl, ?_⟩; replace HO_5 := Aside0.mk (Kd.R_below HO_5.out hb); replace HO_9 := Aside0.mk (Kd.R_below HO_9.out hb); replace HO_12 := Aside0.mk (Kd.R_below HO_12.out hb); replace BK2 := mBb BK2 hb; replace HB := mSt HB hb; (try clear hb)))
          go_ret
          exact ⟨rfl, HB.out⟩
         rw [if_pos c58] at H
         have c58b0 := decide_eq_true c58
         clear c58
         obtain ⟨c59, H⟩ : (0 ≤ x14_4) ∧ _ := mIf H
         have c59b0 := decide_eq_true c59
         clear c59
         by_cases c60 : (rd t823 x14_4) < 0
         ·
          rw [if_pos c60] at H
          have c60b0 := decide_eq_true c60
          clear c60
          exact absurd H (by simp)
         rw [if_neg c60] at H
         have c60b0 := decide_eq_false c60
         clear c60
         by_cases c61 : (rd t823 x14_4) ≥ (x5_19.length : Int)
         ·
          rw [if_pos c61] at H
          have c61b0 := decide_eq_true c61
          clear c61
          exact absurd H (by simp)
         rw [if_neg c61] at H
         have c61b0 := decide_eq_false c61
         clear c61
         obtain ⟨c62, H⟩ : (0 ≤ (rd t823 x14_4)) ∧ _ := mIf H
         have c62b0 := decide_eq_true c62
         clear c62
         obtain ⟨c63, H⟩ : ((rd t823 x14_4) < (l0_1.length : Int)) ∧ _ := mIf H
         have c63b0 := decide_eq_true c63
         clear c63
         obtain ⟨c64, H⟩ : (x14_4 < (x5_19.length : Int)) ∧ _ := mIf H
         have c64b0 := decide_eq_true c64
         clear c64
         by_cases c65 : (!(((rd_T52 l0_1 (rd t823 x14_4)).f0) == ((rd_T52 x5_19 x14_4).f0)) || (!(((rd_T52 l0_1 (rd t823 x14_4)).f1) == ((rd_T52 x5_19 x14_4).f1)))) = true
         ·
          rw [if_pos c65] at H
          have c65b0 : (!(((rd_T52 l0_1 (rd t823 x14_4)).f0) == ((rd_T52 x5_19 x14_4).f0)) || (!(((rd_T52 l0_1 (rd t823 x14_4)).f1) == ((rd_T52 x5_19 x14_4).f1)))) = true := c65
          clear c65
          exact absurd H (by simp)
         rw [if_neg c65] at H
         have c65b0 : (!(((rd_T52 l0_1 (rd t823 x14_4)).f0) == ((rd_T52 x5_19 x14_4).f0)) || (!(((rd_T52 l0_1 (rd t823 x14_4)).f1) == ((rd_T52 x5_19 x14_4).f1)))) = false := by simpa using c65
         clear c65
         obtain ⟨c66, H⟩ : (x14_4 < (t828.length : Int)) ∧ _ := mIf H
         have c66b0 := decide_eq_true c66
         clear c66
         by_cases c67 : (!(((rd_T55 t828 x14_4).f0.f0) == ((rd_T52 x5_19 x14_4).f0)) || (!(((rd_T55 t828 x14_4).f0.f1) == ((rd_T52 x5_19 x14_4).f1)))) = true
         ·
          rw [if_pos c67] at H
          have c67b0 : (!(((rd_T55 t828 x14_4).f0.f0) == ((rd_T52 x5_19 x14_4).f0)) || (!(((rd_T55 t828 x14_4).f0.f1) == ((rd_T52 x5_19 x14_4).f1)))) = true := c67
          clear c67
          exact absurd H (by simp)
         rw [if_neg c67] at H
         have c67b0 : (!(((rd_T55 t828 x14_4).f0.f0) == ((rd_T52 x5_19 x14_4).f0)) || (!(((rd_T55 t828 x14_4).f0.f1) == ((rd_T52 x5_19 x14_4).f1)))) = false := by simpa using c67
         clear c67
         obtain ⟨c68, H⟩ : (¬ ((!(((rd_T55 t828 x14_4).f1.f0) == ((rd_T52 x5_19 x14_4).f0)) || (!(((rd_T55 t828 x14_4).f1.f1) == ((rd_T52 x5_19 x14_4).f1)))) = true)) ∧ _ := mIfn H
         have c68b0 : (!(((rd_T55 t828 x14_4).f1.f0) == ((rd_T52 x5_19 x14_4).f0)) || (!(((rd_T55 t828 x14_4).f1.f1) == ((rd_T52 x5_19 x14_4).f1)))) = false := by simpa using c68
         clear c68
         have H' := Aside0.mk H
         clear H
         obtain ⟨Ao69, co69, eo69⟩ := Kd.R_slice HO_9.out
         subst eo69
         try go_wp2
         replace HO_5 := Aside0.mk (Kd.R_drew HO_5.out); replace HO_9 := Aside0.mk (Kd.R_drew HO_9.out); replace HO_12 := Aside0.mk (Kd.R_drew HO_12.out); replace BK2 := Aside0.mk (blk_drew BK2.out); replace HB := Aside0.mk (below_drew1 HB.out)
         have p832 : 0 ≤ (x14_4 : Int) := of_decide_eq_true (by assumption)
         have q832 : x14_4 < (t823.length : Int) := of_decide_eq_true (by assumption)
         obtain ⟨ad832, e832, hx832_0⟩ := Kd.at_int (Kd.R_reads' HO_9.out).2.2 x14_4 p832 q832
         cases e832
         replace p832 := eq_true p832
         replace q832 := eq_true q832
         have p833 : 0 ≤ (x14_4 : Int) := of_decide_eq_true (by assumption)
         have q833 : x14_4 < (t823.length : Int) := of_decide_eq_true (by assumption)
         obtain ⟨ad833, e833, hx833_0⟩ := Kd.at_int (Kd.R_reads' HO_9.out).2.2 x14_4 p833 q833
         obtain rfl : ad832 = ad833 := (by injection e833)
         replace p833 := eq_true p833
         replace q833 := eq_true q833
         have p834 : 0 ≤ (x14_4 : Int) := of_decide_eq_true (by assumption)
         have q834 : x14_4 < (t823.length : Int) := of_decide_eq_true (by assumption)
         obtain ⟨ad834, e834, hx834_0⟩ := Kd.at_int (Kd.R_reads' HO_9.out).2.2 x14_4 p834 q834
         obtain rfl : ad832 = ad834 := (by injection e834)
         replace p834 := eq_true p834
         replace q834 := eq_true q834
         have p835 : 0 ≤ ((rd t823 x14_4) : Int) := of_decide_eq_true (by assumption)
         have q835 : (rd t823 x14_4) < (l0_1.length : Int) := of_decide_eq_true (by assumption)
         obtain ⟨ad835, e835, hx835_0, hx835_1⟩ := at_T52 HR0_1.out (rd t823 x14_4) p835 q835
         have hw835_1 := hx835_1
         have hw835_0 := hx835_0
         cases e835
         replace hx835_0 := mHx HB hx835_0
         replace hx835_1 := mHx HB hx835_1
         replace p835 := eq_true p835
         replace q835 := eq_true q835
         have p836 : 0 ≤ (x14_4 : Int) := of_decide_eq_true (by assumption)
         have q836 : x14_4 < (x5_19.length : Int) := of_decide_eq_true (by assumption)
         obtain ⟨ad836, e836, hx836_0, hx836_1⟩ := at_T52 (Kd.R_reads' HO_5.out).2.2 x14_4 p836 q836
         cases e836
         replace p836 := eq_true p836
         replace q836 := eq_true q836
         obtain ⟨Ao71, co71, eo71⟩ := Kd.R_slice HO_12.out
         subst eo71
         have p837 : 0 ≤ (x14_4 : Int) := of_decide_eq_true (by assumption)
         have q837 : x14_4 < (t828.length : Int) := of_decide_eq_true (by assumption)
         obtain ⟨ad837, e837, hx837_0, hx837_1, hx837_2, hx837_3, hx837_4⟩ := at_T55 (Kd.R_reads' HO_12.out).2.2 x14_4 p837 q837
         cases e837
         replace p837 := eq_true p837
         replace q837 := eq_true q837
         have p838 : 0 ≤ (x14_4 : Int) := of_decide_eq_true (by assumption)
         have q838 : x14_4 < (x5_19.length : Int) := of_decide_eq_true (by assumption)
         obtain ⟨ad838, e838, hx838_0, hx838_1⟩ := at_T52 (Kd.R_reads' HO_5.out).2.2 x14_4 p838 q838
         obtain rfl : ad836 = ad838 := (by injection e838)
         replace p838 := eq_true p838
         replace q838 := eq_true q838
         have p839 : 0 ≤ (x14_4 : Int) := of_decide_eq_true (by assumption)
         have q839 : x14_4 < (t828.length : Int) := of_decide_eq_true (by assumption)
         obtain ⟨ad839, e839, hx839_0, hx839_1, hx839_2, hx839_3, hx839_4⟩ := at_T55 (Kd.R_reads' HO_12.out).2.2 x14_4 p839 q839
         obtain rfl : ad837 = ad839 := (by injection e839)
         replace p839 := eq_true p839
         replace q839 := eq_true q839
         have p840 : 0 ≤ (x14_4 : Int) := of_decide_eq_true (by assumption)
         have q840 : x14_4 < (x5_19.length : Int) := of_decide_eq_true (by assumption)
         obtain ⟨ad840, e840, hx840_0, hx840_1⟩ := at_T52 (Kd.R_reads' HO_5.out).2.2 x14_4 p840 q840
         obtain rfl : ad836 = ad840 := (by injection e840)
         replace p840 := eq_true p840
         replace q840 := eq_true q840
         refine start_ (n := 53) (S := fun w' => w'.cell? ⟨gb2, 0, none⟩ = some (.string a0_0) ∧ w'.cell? ⟨gb2, 1, none⟩ = some (.slice (some ad835) l0_1.length c0_1) ∧ w'.cell? (ad832.add (x14_4).toNat) = some (.int .i64 (rd t823 x14_4)) ∧ w'.cell? (ad832.add (x14_4).toNat) = some (.int .i64 (rd t823 x14_4)) ∧ w'.cell? (ad832.add (x14_4).toNat) = some (.int .i64 (rd t823 x14_4)) ∧ w'.cell? (ad835.add (((rd t823 x14_4)).toNat * 2)) = some (.int .i64 ((rd_T52 l0_1 (rd t823 x14_4)).f0)) ∧ w'.cell? ⟨(ad835.add (((rd t823 x14_4)).toNat * 2)).block, (ad835.add (((rd t823 x14_4)).toNat * 2)).off + 1, none⟩ = some (.int .i64 ((rd_T52 l0_1 (rd t823 x14_4)).f1)) ∧ w'.cell? (ad836.add ((x14_4).toNat * 2)) = some (.int .i64 ((rd_T52 x5_19 x14_4).f0)) ∧ w'.cell? ⟨(ad836.add ((x14_4).toNat * 2)).block, (ad836.add ((x14_4).toNat * 2)).off + 1, none⟩ = some (.int .i64 ((rd_T52 x5_19 x14_4).f1)) ∧ w'.cell? (ad837.add ((x14_4).toNat * 5)) = some (.int .i64 ((rd_T55 t828 x14_4).f0.f0)) ∧ w'.cell? ⟨(ad837.add ((x14_4).toNat * 5)).block, (ad837.add ((x14_4).toNat * 5)).off + 1, none⟩ = some (.int .i64 ((rd_T55 t828 x14_4).f0.f1)) ∧ w'.cell? ⟨(ad837.add ((x14_4).toNat * 5)).block, (ad837.add ((x14_4).toNat * 5)).off + 2, none⟩ = some (.int .i64 ((rd_T55 t828 x14_4).f1.f0)) ∧ w'.cell? ⟨(ad837.add ((x14_4).toNat * 5)).block, (ad837.add ((x14_4).toNat * 5)).off + 3, none⟩ = some (.int .i64 ((rd_T55 t828 x14_4).f1.f1)) ∧ w'.cell? ⟨(ad837.add ((x14_4).toNat * 5)).block, (ad837.add ((x14_4).toNat * 5)).off + 4, none⟩ = some (.int .i64 ((rd_T55 t828 x14_4).f2)) ∧ w'.cell? (ad836.add ((x14_4).toNat * 2)) = some (.int .i64 ((rd_T52 x5_19 x14_4).f0)) ∧ w'.cell? ⟨(ad836.add ((x14_4).toNat * 2)).block, (ad836.add ((x14_4).toNat * 2)).off + 1, none⟩ = some (.int .i64 ((rd_T52 x5_19 x14_4).f1)) ∧ w'.cell? (ad837.add ((x14_4).toNat * 5)) = some (.int .i64 ((rd_T55 t828 x14_4).f0.f0)) ∧ w'.cell? ⟨(ad837.add ((x14_4).toNat * 5)).block, (ad837.add ((x14_4).toNat * 5)).off + 1, none⟩ = some (.int .i64 ((rd_T55 t828 x14_4).f0.f1)) ∧ w'.cell? ⟨(ad837.add ((x14_4).toNat * 5)).block, (ad837.add ((x14_4).toNat * 5)).off + 2, none⟩ = some (.int .i64 ((rd_T55 t828 x14_4).f1.f0)) ∧ w'.cell? ⟨(ad837.add ((x14_4).toNat * 5)).block, (ad837.add ((x14_4).toNat * 5)).off + 3, none⟩ = some (.int .i64 ((rd_T55 t828 x14_4).f1.f1)) ∧ w'.cell? ⟨(ad837.add ((x14_4).toNat * 5)).block, (ad837.add ((x14_4).toNat * 5)).off + 4, none⟩ = some (.int .i64 ((rd_T55 t828 x14_4).f2)) ∧ w'.cell? (ad836.add ((x14_4).toNat * 2)) = some (.int .i64 ((rd_T52 x5_19 x14_4).f0)) ∧ w'.cell? ⟨(ad836.add ((x14_4).toNat * 2)).block, (ad836.add ((x14_4).toNat * 2)).off + 1, none⟩ = some (.int .i64 ((rd_T52 x5_19 x14_4).f1))) (ds := []) #[false, false, false, false, false, false, false, false, false, false, false, false, false, false, false, false, false, false, false, false, false, false, false, false, false, false, false, false, false, false, false, false, false, false, false, false, false, false, false, false, false, false, false, false, false, false, false, false, false, false, false, false, false] (by kernel_rfl) rfl rfl ⟨(blk_cell BK2.out 0).trans rfl, (blk_cell BK2.out 1).trans rfl, hx832_0, hx833_0, hx834_0, ((HB.out.cell (World.block_lt_of_cell? w _ hw835_0)).trans hw835_0), ((HB.out.cell (World.block_lt_of_cell? w _ hw835_1)).trans hw835_1), hx836_0, hx836_1, hx837_0, hx837_1, hx837_2, hx837_3, hx837_4, hx838_0, hx838_1, hx839_0, hx839_1, hx839_2, hx839_3, hx839_4, hx840_0, hx840_1⟩ (fun hHeld => ?_); refine with_tabW dancestudiolaw45_FormationThere.tab16 dancestudiolaw45_FormationThere.bits16 (fun HT_ HW_ => ?_)
         generalize wr.drew = w70 at HO_5 HO_9 HO_12 BK2 HB hx832_0 hx833_0 hx834_0 hx835_0 hx835_1 hx836_0 hx836_1 hx837_0 hx837_1 hx837_2 hx837_3 hx837_4 hx838_0 hx838_1 hx839_0 hx839_1 hx839_2 hx839_3 hx839_4 hx840_0 hx840_1 hHeld ⊢
         refine pM 0 120 HT_ ?_
         refine pM 1 121 HT_ ?_
         refine pM 2 122 HT_ ?_
         refine tM 3 123 rfl HT_ HW_ (by rintro w' ⟨s0, s1, s2, s3, s4, s5, s6, s7, s8, s9, s10, s11, s12, s13, s14, s15, s16, s17, s18, s19, s20, s21, s22⟩; go_simp; with_reducible rfl) hHeld ?_
         refine pM 4 124 HT_ ?_
         refine pM 5 125 HT_ ?_
         refine pM 6 126 HT_ ?_
         refine pM 7 127 HT_ ?_
         refine pM 8 128 HT_ ?_
         refine pM 10 130 HT_ ?_
         refine pM 11 131 HT_ ?_
         refine tM 9 129 rfl HT_ HW_ (by rintro w' ⟨s0, s1, s2, s3, s4, s5, s6, s7, s8, s9, s10, s11, s12, s13, s14, s15, s16, s17, s18, s19, s20, s21, s22⟩; go_simp; with_reducible rfl) hHeld ?_
         refine pM 12 132 HT_ ?_
         refine pM 13 133 HT_ ?_
         refine pM 14 134 HT_ ?_
         refine pM 15 135 HT_ ?_
         refine pM 17 137 HT_ ?_
         refine pM 18 138 HT_ ?_
         refine pM 19 139 HT_ ?_
         refine pM 23 143 HT_ ?_
         refine pM 24 144 HT_ ?_
         refine pM 25 145 HT_ ?_
         refine tM 16 136 rfl HT_ HW_ (by rintro w' ⟨s0, s1, s2, s3, s4, s5, s6, s7, s8, s9, s10, s11, s12, s13, s14, s15, s16, s17, s18, s19, s20, s21, s22⟩; go_simp; with_reducible rfl) hHeld ?_
         refine tM 20 140 rfl HT_ HW_ (by rintro w' ⟨s0, s1, s2, s3, s4, s5, s6, s7, s8, s9, s10, s11, s12, s13, s14, s15, s16, s17, s18, s19, s20, s21, s22⟩; go_simp; with_reducible rfl) hHeld ?_
         refine pM 21 141 HT_ ?_
         refine tM 22 142 rfl HT_ HW_ (by rintro w' ⟨s0, s1, s2, s3, s4, s5, s6, s7, s8, s9, s10, s11, s12, s13, s14, s15, s16, s17, s18, s19, s20, s21, s22⟩; go_simp; with_reducible rfl) hHeld ?_
         refine tM 26 146 rfl HT_ HW_ (by rintro w' ⟨s0, s1, s2, s3, s4, s5, s6, s7, s8, s9, s10, s11, s12, s13, s14, s15, s16, s17, s18, s19, s20, s21, s22⟩; go_simp; with_reducible rfl) hHeld ?_
         refine pM 27 147 HT_ ?_
         refine pM 28 148 HT_ ?_
         refine pM 29 149 HT_ ?_
         refine pM 30 150 HT_ ?_
         refine pM 31 151 HT_ ?_
         refine pM 32 152 HT_ ?_
         refine pM 33 153 HT_ ?_
         refine pM 35 155 HT_ ?_
         refine pM 36 156 HT_ ?_
         refine pM 37 157 HT_ ?_
         refine tM 34 154 rfl HT_ HW_ (by rintro w' ⟨s0, s1, s2, s3, s4, s5, s6, s7, s8, s9, s10, s11, s12, s13, s14, s15, s16, s17, s18, s19, s20, s21, s22⟩; go_simp; with_reducible rfl) hHeld ?_
         refine tM 38 158 rfl HT_ HW_ (by rintro w' ⟨s0, s1, s2, s3, s4, s5, s6, s7, s8, s9, s10, s11, s12, s13, s14, s15, s16, s17, s18, s19, s20, s21, s22⟩; go_simp; with_reducible rfl) hHeld ?_
         refine pM 39 159 HT_ ?_
         refine pM 40 160 HT_ ?_
         refine pM 41 161 HT_ ?_
         refine pM 42 162 HT_ ?_
         refine pM 43 163 HT_ ?_
         refine pM 44 164 HT_ ?_
         refine pM 45 165 HT_ ?_
         refine pM 47 167 HT_ ?_
         refine pM 48 168 HT_ ?_
         refine pM 49 169 HT_ ?_
         refine tM 46 166 rfl HT_ HW_ (by rintro w' ⟨s0, s1, s2, s3, s4, s5, s6, s7, s8, s9, s10, s11, s12, s13, s14, s15, s16, s17, s18, s19, s20, s21, s22⟩; go_simp; with_reducible rfl) hHeld ?_
         refine tM 50 170 rfl HT_ HW_ (by rintro w' ⟨s0, s1, s2, s3, s4, s5, s6, s7, s8, s9, s10, s11, s12, s13, s14, s15, s16, s17, s18, s19, s20, s21, s22⟩; go_simp; with_reducible rfl) hHeld ?_
         refine pM 51 171 HT_ ?_
         refine pM 52 172 HT_ ?_
         refine done_ (done_of HT_.out (by kernel_rfl)) ?_
         try go_wp2
         go_roundg k4
         case measure => have := HJ2.out; have := HJ19.out; have := HJ43.out; have := HK4.out; omega
         case rel => exact ⟨(wrap64 (x14_4 + 1)), rfl, H', ⟨by have := HJ2.out; have := HJ19.out; have := HJ43.out; have := HK4.out; omega⟩, HO_5, HO_9, HO_12, ⟨BK2.out⟩, ⟨HB.out⟩⟩
end Go.Proofs.YtaggccbndmmbhaaDoor.PAll
