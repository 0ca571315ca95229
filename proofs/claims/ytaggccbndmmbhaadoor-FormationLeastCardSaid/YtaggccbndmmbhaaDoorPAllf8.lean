-- Written by wip/tools/handprint.py: walks of the functions that the law reaches; Lean checks them.
import Derived.Test.YtaggccbndmmbhaaDoorBase
import Derived.Test.YtaggccbndmmbhaaDoorPAllf13
import Derived.Test.YtaggccbndmmbhaaDoorPAllf15
import Derived.Test.YtaggccbndmmbhaaDoorPAllf28
namespace Go.Proofs.YtaggccbndmmbhaaDoor.PAll
open Go.RowKit Go.Proofs.YtaggccbndmmbhaaDoorW.PrintWords Go.Proofs.YtaggccbndmmbhaaDoorW.PrintLast Go.Proofs.YtaggccbndmmbhaaDoorW.PrintMore
attribute [local go_sem] max2_int min2_int max_two min_two max_three min_three max_four min_four   -- for this text's walks alone
set_option linter.unusedVariables false
set_option linter.unusedSimpArgs false

/-! ### dancestudiolaw45_FormationLeast: function 8 -/
mutual
def dancestudiolaw45_FormationLeast.j0 : Nat → List (S52) → List Int → Bool → ByteArray → List (S52) → Option (Bool)
 | 0, _, _, _, _, _ => none
 | k + 1, x1, x2, x36, x728000, x728001 => if x36 = true then ((dancestudiolaw45_awake.f k).bind fun t728 => (some t728)) else ((formation_Fit.f k x728000 x728001 x1).bind fun bt729 => (if bt729.2.2 = 0 then (if (bt729.1.length : Int) = (x1.length : Int) then (dancestudiolaw45_FormationLeast.j1 k x1 x2 bt729.1 bt729.2.1 ((bt729.1.length : Int) != (x728001.length : Int)) x728000 x728001) else (dancestudiolaw45_FormationLeast.j1 k x1 x2 bt729.1 bt729.2.1 true x728000 x728001)) else (if (bt729.1.length : Int) = 0 then (if bt729.2.1 = 0 then ((dancestudiolaw45_awake.f k).bind fun t734 => (some t734)) else (none)) else (none))))
def dancestudiolaw45_FormationLeast.j1 : Nat → List (S52) → List Int → List Int → Int → Bool → ByteArray → List (S52) → Option (Bool)
 | 0, _, _, _, _, _, _, _ => none
 | k + 1, x1, x2, x7, x8, x69, x728000, x728001 => if x69 = true then (none) else (if 0 ≤ (x7.length : Int) then (if ((x7.length : Int) : Int).toNat ≤ 281474976710656 then (dancestudiolaw45_FormationLeast.l0 k x1 x2 x7 x8 (List.replicate ((x7.length : Int) : Int).toNat false) 0 0 x728000 x728001) else (none)) else (none))
def dancestudiolaw45_FormationLeast.l0 : Nat → List (S52) → List Int → List Int → Int → List Bool → Int → Int → ByteArray → List (S52) → Option (Bool)
 | 0, _, _, _, _, _, _, _, _, _ => none
 | k + 1, x1, x2, x7, x8, x10, x11, x12, x728000, x728001 => if x12 < (x7.length : Int) then (if 0 ≤ x12 then (if (rd x7 x12) < 0 then (dancestudiolaw45_FormationLeast.j3 k x1 x2 x7 x8 x10 x11 x12 true x728000 x728001) else (if (rd x7 x12) ≥ (x7.length : Int) then (dancestudiolaw45_FormationLeast.j3 k x1 x2 x7 x8 x10 x11 x12 true x728000 x728001) else (if 0 ≤ (rd x7 x12) then (if (rd x7 x12) < (x10.length : Int) then (dancestudiolaw45_FormationLeast.j3 k x1 x2 x7 x8 x10 x11 x12 (rdOf false x10 (rd x7 x12)) x728000 x728001) else (none)) else (none)))) else (none)) else (if x11 = x8 then ((some (([] : List Int) : List Int)).bind fun y749 => (if y749.length + x7.length < 17592186044416 then (dancestudiolaw45_FormationLeast.l1 k x1 x2 x8 (y749 ++ x7) 0 x728000 x728001) else (none))) else (none))
def dancestudiolaw45_FormationLeast.j3 : Nat → List (S52) → List Int → List Int → Int → List Bool → Int → Int → Bool → ByteArray → List (S52) → Option (Bool)
 | 0, _, _, _, _, _, _, _, _, _, _ => none
 | k + 1, x1, x2, x7, x8, x10, x11, x12, x101, x728000, x728001 => if x101 = true then (none) else (if 0 ≤ x12 then (if x12 < (x7.length : Int) then (if 0 ≤ (rd x7 x12) then (if (rd x7 x12) < (x10.length : Int) then (if x12 < (x1.length : Int) then (if (rd x7 x12) < (x728001.length : Int) then ((geom_Dist2.f k ((rd_T52 x1 x12).f0) ((rd_T52 x1 x12).f1) ((rd_T52 x728001 (rd x7 x12)).f0) ((rd_T52 x728001 (rd x7 x12)).f1)).bind fun bt747 => (if bt747.2 = 0 then (dancestudiolaw45_FormationLeast.l0 k x1 x2 x7 x8 (x10.set ((rd x7 x12) : Int).toNat true) (wrap64 (x11 + bt747.1)) (wrap64 (x12 + 1)) x728000 x728001) else (none))) else (none)) else (none)) else (none)) else (none)) else (none)) else (none))
def dancestudiolaw45_FormationLeast.j5 : Nat → List (S52) → Int → List Int → ByteArray → List (S52) → Option (Bool)
 | 0, _, _, _, _, _ => none
 | k + 1, x1, x8, x15, x728000, x728001 => dancestudiolaw45_FormationLeast.l2 k x1 x8 0 x15 0 x728000 x728001
def dancestudiolaw45_FormationLeast.l2 : Nat → List (S52) → Int → Int → List Int → Int → ByteArray → List (S52) → Option (Bool)
 | 0, _, _, _, _, _, _, _ => none
 | k + 1, x1, x8, x11, x15, x19, x728000, x728001 => if x19 < (x15.length : Int) then (if 0 ≤ x19 then (if x19 < (x1.length : Int) then (if 0 ≤ (rd x15 x19) then (if (rd x15 x19) < (x728001.length : Int) then ((geom_Dist2.f k ((rd_T52 x1 x19).f0) ((rd_T52 x1 x19).f1) ((rd_T52 x728001 (rd x15 x19)).f0) ((rd_T52 x728001 (rd x15 x19)).f1)).bind fun bt763 => (if bt763.2 = 0 then (dancestudiolaw45_FormationLeast.l2 k x1 x8 (wrap64 (x11 + bt763.1)) x15 (wrap64 (x19 + 1)) x728000 x728001) else (none))) else (none)) else (none)) else (none)) else (none)) else (if x11 ≥ x8 then ((dancestudiolaw45_awake.f k).bind fun t765 => (some t765)) else (none))
def dancestudiolaw45_FormationLeast.l1 : Nat → List (S52) → List Int → Int → List Int → Int → ByteArray → List (S52) → Option (Bool)
 | 0, _, _, _, _, _, _, _ => none
 | k + 1, x1, x2, x8, x15, x16, x728000, x728001 => if x16 < (x2.length : Int) then (if x16 < 40 then (if (x15.length : Int) = 0 then (none) else (if 0 ≤ x16 then (if 0 ≤ (Int.tmod (wrap64 (rd x2 x16)) (x15.length : Int)) then (if (Int.tmod (wrap64 (rd x2 x16)) (x15.length : Int)) < (x15.length : Int) then (if 0 ≤ (Int.tmod x16 (x15.length : Int)) then (if (Int.tmod x16 (x15.length : Int)) < (x15.length : Int) then (dancestudiolaw45_FormationLeast.l1 k x1 x2 x8 ((x15.set ((Int.tmod x16 (x15.length : Int)) : Int).toNat (rd x15 (Int.tmod (wrap64 (rd x2 x16)) (x15.length : Int)))).set ((Int.tmod (wrap64 (rd x2 x16)) (x15.length : Int)) : Int).toNat (rd x15 (Int.tmod x16 (x15.length : Int)))) (wrap64 (x16 + 1)) x728000 x728001) else (none)) else (none)) else (none)) else (none)) else (none))) else (dancestudiolaw45_FormationLeast.j5 k x1 x8 x15 x728000 x728001)) else (dancestudiolaw45_FormationLeast.j5 k x1 x8 x15 x728000 x728001)
end
def dancestudiolaw45_FormationLeast.f (k : Nat) (a0_0 : ByteArray) (l0_1 : List (S52)) (l1 : List (S52)) (l2 : List Int) : Option (Bool) := if (l0_1.length : Int) > 16 then (dancestudiolaw45_FormationLeast.j0 k l1 l2 true a0_0 l0_1) else (if (l1.length : Int) > 16 then (dancestudiolaw45_FormationLeast.j0 k l1 l2 true a0_0 l0_1) else (dancestudiolaw45_FormationLeast.j0 k l1 l2 (decide ((a0_0.size : Int) > 60)) a0_0 l0_1))
def dancestudiolaw45_FormationLeast.T15 : Bool × List (List Nat × List Nat) := (true, [([], []), ([], []), ([0, 1], [0, 1]), ([2], [2]), ([], []), ([4], [4]), ([], []), ([], []), ([6, 7], [6, 7]), ([8], [8]), ([5, 9], [5, 9]), ([10], [10]), ([3, 11], [3, 11]), ([12], [12]), ([13], [13]), ([13], [13]), ([14, 12, 0, 1, 2, 3, 4, 5, 6, 7, 8, 9, 10, 11, 12, 13, 14], [14]), ([15, 16, 0, 1, 2, 3, 4, 5, 6, 7, 8, 9, 10, 11, 12, 13, 14, 15, 16], [15])])
def dancestudiolaw45_FormationLeast.B15 : List Nat := [0, 0, 3, 7, 0, 16, 0, 0, 192, 448, 1008, 2032, 4095, 8191, 16383, 16383, 32767, 131071]
theorem dancestudiolaw45_FormationLeast.tab15 : rtab .any (opsOf Tryd.f8 15) = dancestudiolaw45_FormationLeast.T15 := by kernel_rfl
theorem dancestudiolaw45_FormationLeast.bits15 : waitsOk dancestudiolaw45_FormationLeast.T15.2 dancestudiolaw45_FormationLeast.B15 = true := by kernel_rfl
def dancestudiolaw45_FormationLeast.T25 : Bool × List (List Nat × List Nat) := (true, [([], []), ([], []), ([1], [1]), ([0, 2], [0, 2]), ([], []), ([], []), ([4, 5], [4, 5]), ([6], [6]), ([7], [7]), ([], []), ([9], [9]), ([8, 10], [8, 10]), ([3, 0, 1, 2, 3], [3]), ([11, 12, 0, 1, 2, 3, 4, 5, 6, 7, 8, 9, 10, 11, 12], [11])])
def dancestudiolaw45_FormationLeast.B25 : List Nat := [0, 0, 2, 7, 0, 0, 48, 112, 240, 0, 512, 2032, 15, 8191]
theorem dancestudiolaw45_FormationLeast.tab25 : rtab .any (opsOf Tryd.f8 25) = dancestudiolaw45_FormationLeast.T25 := by kernel_rfl
theorem dancestudiolaw45_FormationLeast.bits25 : waitsOk dancestudiolaw45_FormationLeast.T25.2 dancestudiolaw45_FormationLeast.B25 = true := by kernel_rfl
def dancestudiolaw45_FormationLeast.T26 : Bool × List (List Nat × List Nat) := (true, [([], []), ([], []), ([], []), ([], []), ([], []), ([], []), ([4, 5], [4, 5]), ([6], [6]), ([], []), ([], []), ([8, 9], [8, 9]), ([10], [10]), ([0, 1, 0, 1, 4, 5, 6, 7, 11], [0, 1]), ([12, 7, 0, 1, 4, 5, 6, 7, 11], [7, 12]), ([2, 3, 0, 1, 2, 3, 4, 5, 6, 7, 8, 9, 10, 11, 12, 13], [2, 3]), ([14, 11, 13, 0, 1, 2, 3, 4, 5, 6, 7, 8, 9, 10, 11, 12, 13], [11, 14])])
def dancestudiolaw45_FormationLeast.B26 : List Nat := [0, 0, 0, 0, 0, 0, 48, 112, 0, 0, 768, 1792, 4083, 8179, 16383, 32767]
theorem dancestudiolaw45_FormationLeast.tab26 : rtab .any (opsOf Tryd.f8 26) = dancestudiolaw45_FormationLeast.T26 := by kernel_rfl
theorem dancestudiolaw45_FormationLeast.bits26 : waitsOk dancestudiolaw45_FormationLeast.T26.2 dancestudiolaw45_FormationLeast.B26 = true := by kernel_rfl
def dancestudiolaw45_FormationLeast.T31 : Bool × List (List Nat × List Nat) := (true, [([], []), ([], []), ([0, 1], [0, 1]), ([2], [2]), ([], []), ([4], [4]), ([], []), ([], []), ([6, 7], [6, 7]), ([8], [8]), ([5, 9], [5, 9]), ([10], [10]), ([3, 11], [3, 11]), ([12], [12]), ([13], [13]), ([13], [13]), ([14, 12, 0, 1, 2, 3, 4, 5, 6, 7, 8, 9, 10, 11, 12, 13, 14], [14]), ([15, 16, 0, 1, 2, 3, 4, 5, 6, 7, 8, 9, 10, 11, 12, 13, 14, 15, 16], [15])])
def dancestudiolaw45_FormationLeast.B31 : List Nat := [0, 0, 3, 7, 0, 16, 0, 0, 192, 448, 1008, 2032, 4095, 8191, 16383, 16383, 32767, 131071]
theorem dancestudiolaw45_FormationLeast.tab31 : rtab .any (opsOf Tryd.f8 31) = dancestudiolaw45_FormationLeast.T31 := by kernel_rfl
theorem dancestudiolaw45_FormationLeast.bits31 : waitsOk dancestudiolaw45_FormationLeast.T31.2 dancestudiolaw45_FormationLeast.B31 = true := by kernel_rfl
set_option maxHeartbeats 8000000 in
set_option maxRecDepth 100000 in
theorem dancestudiolaw45_FormationLeast.calls (k : Nat) (a0_0 : ByteArray) (A0_1 : Option Addr) (c0_1 : Nat) (l0_1 : List (S52)) (A1 : Option Addr) (c1 : Nat) (l1 : List (S52)) (A2 : Option Addr) (c2 : Nat) (l2 : List Int) (r : Bool) (w : World) (hr0_1 : Kd.C k52 w A0_1 l0_1.length l0_1) (hc0_1 : l0_1.length ≤ c0_1) (hr1 : Kd.C k52 w A1 l1.length l1) (hc1 : l1.length ≤ c1) (hr2 : Kd.C (Kd.int .u8) w A2 l2.length l2) (hc2 : l2.length ≤ c2) (hmx : Mx w) (h : dancestudiolaw45_FormationLeast.f k a0_0 l0_1 l1 l2 = some r) :
  Calls Tryd.prog 8 #[.agg #[.string a0_0, .slice A0_1 l0_1.length c0_1], .slice A1 l1.length c1, .slice A2 l2.length c2] w fun e w' => e = .returned (.bool r) ∧ Below w.heap.size w w' := by
 have HMX_ := Aside0.mk hmx
 clear hmx
 have hu24 := Tryd.underlying24
 have hu52 := Tryd.underlying52
 have HR0_1 := Aside0.mk hr0_1
 have HC0_1 := Aside0.mk hc0_1
 clear hr0_1 hc0_1
 have HR1 := Aside0.mk hr1
 have HC1 := Aside0.mk hc1
 clear hr1 hc1
 have HR2 := Aside0.mk hr2
 have HC2 := Aside0.mk hc2
 clear hr2 hc2
 have HB := Aside0.mk (Below.refl w.heap.size w)
 have H := h
 unfold dancestudiolaw45_FormationLeast.f at H
 clear h
 have HC4 := Aside0.mk H
 clear H
 go_enter Tryd.func8, Tryd.ntmps8
 go_upto_region 1 with (first | ((with_reducible refine gate_dst (N := 3) rfl ?_); (try (refine gate_guard (by rfl) ?_; dsimp only)); refine box_event rfl (N := 3) rfl (cs := #[.string a0_0, .slice A0_1 l0_1.length c0_1]) (t := 24) (by first | (go_simp; done) | (go_simp; rfl)) ?_; intro gb3 hg w5 hbox hb; have BK3 := Aside0.mk hbox; have GW3 := mGw HB hg; have GE3 := GW3; replace HB := mSt HB hb; clear hb hbox hg))
 (try simp only [Act.put, List.setIfInBounds_toArray, List.set_cons_zero, List.set_cons_succ])
 go_cut [36] (fun v36 wc => ∃ (kq : Nat) (x36_3 : Bool), v36 = .bool x36_3 ∧ Aside0 (dancestudiolaw45_FormationLeast.j0 kq l1 l2 x36_3 a0_0 l0_1 = some r) ∧ Aside0 (kq ≤ k) ∧ Aside0 (wc.heap[gb3]? = some (.cells #[.string a0_0, (.slice A0_1 l0_1.length c0_1)] 24 (0, 0))) ∧ Aside0 (Below w.heap.size w wc))
 case first =>
  have H := HC4.out
  clear HC4
  by_cases c6 : (l0_1.length : Int) > 16
  ·
   rw [if_pos c6] at H
   have c6b0 := decide_eq_true c6
   have c6b1 : decide (16 < l0_1.length) = true := decide_eq_true (by omega)
   clear c6
   (first | rw [c6b0] | (simp only [i64_w, i32_w]; rw [c6b0]) | skip)
   have H' := Aside0.mk H
   clear H
   have hcz7 := blk_cell BK3.out; have hfz7 := blk_frozen BK3.out
   go_wp2
   go_meet
   case rel => exact ⟨_, (true), rfl, H', ⟨by first | omega | exact Nat.le_refl _⟩, ⟨BK3.out⟩, ⟨HB.out⟩⟩
  rw [if_neg c6] at H
  have c6b0 := decide_eq_false c6
  have c6b1 : decide (16 < l0_1.length) = false := decide_eq_false (by omega)
  clear c6
  (first | rw [c6b0] | (simp only [i64_w, i32_w]; rw [c6b0]) | skip)
  by_cases c8 : (l1.length : Int) > 16
  rotate_left
  ·
   rw [if_neg c8] at H
   have c8b0 := decide_eq_false c8
   have c8b1 : decide (16 < l1.length) = false := decide_eq_false (by omega)
   clear c8
   have H' := Aside0.mk H
   clear H
   have hcz10 := blk_cell BK3.out; have hfz10 := blk_frozen BK3.out
   go_wp2
   go_meet
   case rel => exact ⟨_, (decide ((a0_0.size : Int) > 60)), rfl, H', ⟨by first | omega | exact Nat.le_refl _⟩, ⟨BK3.out⟩, ⟨HB.out⟩⟩
  rw [if_pos c8] at H
  have c8b0 := decide_eq_true c8
  have c8b1 : decide (16 < l1.length) = true := decide_eq_true (by omega)
  clear c8
  have H' := Aside0.mk H
  clear H
  have hcz9 := blk_cell BK3.out; have hfz9 := blk_frozen BK3.out
  go_wp2
  go_meet
  case rel => exact ⟨_, (true), rfl, H', ⟨by first | omega | exact Nat.le_refl _⟩, ⟨BK3.out⟩, ⟨HB.out⟩⟩
 case rest =>
  clear HC4; try clear c1; try clear c2; try clear p2; try clear c6; try clear c6b0; try clear c6b1; try clear c8; try clear c8b0; try clear c8b1; try clear hcz10_0; try clear hcz10_1; try clear hcz7_0; try clear hcz7_1; try clear hcz9_0; try clear hcz9_1; try clear hfz10_0; try clear hfz10_1; try clear hfz7_0; try clear hfz7_1; try clear hfz9_0; try clear hfz9_1
  obtain ⟨kq, x36_3, rfl, HA, HJ3, BK3, HB⟩ := hcut
  cases kq with
  | zero => exact absurd HA.out (by simp [dancestudiolaw45_FormationLeast.j0])
  | succ kj3 =>
   have H := HA.out
   clear HA
   simp only [dancestudiolaw45_FormationLeast.j0] at H
   by_cases c11 : x36_3 = true
   ·
    subst c11
    rw [if_pos rfl] at H
    replace H := Option.bind_eq_some_iff.mp H
    obtain ⟨t728, A120, H⟩ := H
    try dsimp only at H
    have A12 := Aside0.mk A120
    clear A120
    obtain rfl := Option.some.inj H
    go_wp2_with (first | ((with_reducible refine gate_callee (f := 13) rfl ?_); refine goesL_ (some 37) rfl rfl Tryd.func13 (by kernel_rfl) rfl #[] rfl (mA0) ?_; (with_reducible refine (dancestudiolaw45_awake.calls kj3  t728 _ (Mx.below HMX_.out HB.out) A12.out).mono ?_); rintro e w13 ⟨rfl, hb⟩; refine ⟨_, rfl, ?_⟩; replace BK3 := mBb BK3 hb; replace HB := mSt HB hb; (try clear hb)))
    go_ret
    exact ⟨rfl, HB.out⟩
   replace c11 := Bool.eq_false_iff.mpr c11
   subst c11
   rw [if_neg (show ¬ (false = true) by decide)] at H
   replace H := Option.bind_eq_some_iff.mp H
   obtain ⟨⟨t729, t732, t733⟩, A140, H⟩ := H
   try dsimp only at H
   have A14 := Aside0.mk A140
   clear A140
   by_cases c15 : t733 = 0
   rotate_left
   ·
    rw [if_neg c15] at H
    have c15b0 := beq_eq_false_iff_ne.mpr c15
    have c15b1 := bne_iff_ne.mpr c15
    obtain ⟨c88, H⟩ : ((t729.length : Int) = 0) ∧ _ := mIf H
    have c88b0 := beq_iff_eq.mpr c88
    have c88b1 := bne_eq_false_iff_eq.mpr c88
    clear c88
    obtain ⟨c89, H⟩ : (t732 = 0) ∧ _ := mIf H
    have c89b0 := beq_iff_eq.mpr c89
    have c89b1 := bne_eq_false_iff_eq.mpr c89
    clear c89
    replace H := Option.bind_eq_some_iff.mp H
    obtain ⟨t734, A900, H⟩ := H
    try dsimp only at H
    have A90 := Aside0.mk A900
    clear A900
    obtain rfl := Option.some.inj H
    have hcz91 := blk_cell BK3.out; have hfz91 := blk_frozen BK3.out
    go_wp2_with (first | ((with_reducible refine gate_callee (f := 15) rfl ?_); refine goesL_ (some 41) rfl rfl Tryd.func15 (by kernel_rfl) rfl #[.agg #[.string a0_0, .slice A0_1 l0_1.length c0_1], .slice A1 l1.length c1] rfl (mA2 rfl rfl) ?_; (with_reducible refine (formation_Fit.calls kj3 a0_0 _ _ l0_1 _ _ l1 t729 t732 t733 _ (Kd.C_below HR0_1.out HB.out) HC0_1.out (Kd.C_below HR1.out HB.out) HC1.out (Mx.below HMX_.out HB.out) A14.out).mono ?_); rintro e w92 ⟨v730, rfl, ho0, hb⟩; refine ⟨_, rfl, ?_⟩; have HO731 := Aside0.mk (Kd.R_lower ho0 (below_size HB.out)); replace BK3 := mBb BK3 hb; replace HB := mSt HB hb; (try clear hb); (try clear ho0); obtain ⟨Ao93, co93, eo93⟩ := Kd.R_slice HO731.out; subst eo93) | (go_at_call 13; (with_reducible refine (dancestudiolaw45_awake.calls kj3  t734 _ (Mx.below HMX_.out HB.out) A90.out).mono ?_); rintro e w94 ⟨rfl, hb⟩; replace HO731 := Aside0.mk (Kd.R_below HO731.out hb); replace BK3 := mBb BK3 hb; replace HB := mSt HB hb; (try clear hb)))
    go_ret
    exact ⟨rfl, HB.out⟩
   rw [if_pos c15] at H
   have c15b0 := beq_iff_eq.mpr c15
   have c15b1 := bne_eq_false_iff_eq.mpr c15
   clear c15
   have HC16 := Aside0.mk H
   clear H
   have hcz17 := blk_cell BK3.out; have hfz17 := blk_frozen BK3.out
   go_upto_region 6 with (first | ((with_reducible refine gate_callee (f := 15) rfl ?_); refine goesL_ (some 41) rfl rfl Tryd.func15 (by kernel_rfl) rfl #[.agg #[.string a0_0, .slice A0_1 l0_1.length c0_1], .slice A1 l1.length c1] rfl (mA2 rfl rfl) ?_; (with_reducible refine (formation_Fit.calls kj3 a0_0 _ _ l0_1 _ _ l1 t729 t732 t733 _ (Kd.C_below HR0_1.out HB.out) HC0_1.out (Kd.C_below HR1.out HB.out) HC1.out (Mx.below HMX_.out HB.out) A14.out).mono ?_); rintro e w18 ⟨v730, rfl, ho0, hb⟩; refine ⟨_, rfl, ?_⟩; have HO731 := Aside0.mk (Kd.R_lower ho0 (below_size HB.out)); replace BK3 := mBb BK3 hb; replace HB := mSt HB hb; (try clear hb); (try clear ho0)))
   (try simp only [Act.put, List.setIfInBounds_toArray, List.set_cons_zero, List.set_cons_succ])
   go_cut [69] (fun v69 wc => ∃ (kq : Nat) (x69_15 : Bool), v69 = .bool x69_15 ∧ Aside0 (dancestudiolaw45_FormationLeast.j1 kq l1 l2 t729 t732 x69_15 a0_0 l0_1 = some r) ∧ Aside0 (kq ≤ kj3) ∧ Aside0 (Kd.R (Kd.int .i64) 3 wc w.heap.size (fun _ => True) v730 t729) ∧ Aside0 (wc.heap[gb3]? = some (.cells #[.string a0_0, (.slice A0_1 l0_1.length c0_1)] 24 (0, 0))) ∧ Aside0 (Below w.heap.size w wc))
   case first =>
    have H := HC16.out
    clear HC16
    by_cases c19 : (t729.length : Int) = (l1.length : Int)
    rotate_left
    ·
     rw [if_neg c19] at H
     have c19b0 := beq_eq_false_iff_ne.mpr c19
     have c19b1 := bne_iff_ne.mpr c19
     have c19b2 : (t729.length == l1.length) = false := by first | simpa using c19 | (simp at c19 ⊢; omega)
     (first | rw [c19b0] | (simp only [i64_w, i32_w]; rw [c19b0]) | skip)
     have H' := Aside0.mk H
     clear H
     obtain ⟨Ao22, co22, eo22⟩ := Kd.R_slice HO731.out
     subst eo22
     go_wp2
     go_meet
     case rel => exact ⟨_, (true), rfl, H', ⟨by have := HJ3.out; first | omega | exact Nat.le_refl _⟩, HO731, ⟨BK3.out⟩, ⟨HB.out⟩⟩
    rw [if_pos c19] at H
    have c19b0 := beq_iff_eq.mpr c19
    have c19b1 := bne_eq_false_iff_eq.mpr c19
    have c19b2 : (t729.length == l1.length) = true := by first | simpa using c19 | (simp at c19 ⊢; omega)
    clear c19
    (first | rw [c19b0] | (simp only [i64_w, i32_w]; rw [c19b0]) | skip)
    have H' := Aside0.mk H
    clear H
    obtain ⟨Ao20, co20, eo20⟩ := Kd.R_slice HO731.out
    subst eo20
    have hcz21 := blk_cell BK3.out; have hfz21 := blk_frozen BK3.out
    go_wp2
    go_meet
    case rel => exact ⟨_, (((t729.length : Int) != (l0_1.length : Int))), rfl, H', ⟨by have := HJ3.out; first | omega | exact Nat.le_refl _⟩, HO731, ⟨BK3.out⟩, ⟨HB.out⟩⟩
   case rest =>
    clear HC16; try clear c1; try clear c2; try clear p2; try clear c6; try clear c6b0; try clear c6b1; try clear c8; try clear c8b0; try clear c8b1; try clear c11; try clear c13; try clear c15; try clear c15b0; try clear c15b1; try clear c19; try clear c19b0; try clear c19b1; try clear c19b2; try clear hcz10_0; try clear hcz10_1; try clear hcz17_0; try clear hcz17_1; try clear hcz21_0; try clear hcz21_1; try clear hcz7_0; try clear hcz7_1; try clear hcz9_0; try clear hcz9_1; try clear hfz10_0; try clear hfz10_1; try clear hfz17_0; try clear hfz17_1; try clear hfz21_0; try clear hfz21_1; try clear hfz7_0; try clear hfz7_1; try clear hfz9_0; try clear hfz9_1
    obtain ⟨kq, x69_15, rfl, HA, HJ15, HO_7, BK3, HB⟩ := hcut
    cases kq with
    | zero => exact absurd HA.out (by simp [dancestudiolaw45_FormationLeast.j1])
    | succ kj15 =>
     have H := HA.out
     clear HA
     simp only [dancestudiolaw45_FormationLeast.j1] at H
     by_cases c23 : x69_15 = true
     ·
      subst c23
      rw [if_pos rfl] at H
      exact absurd H (by simp)
     replace c23 := Bool.eq_false_iff.mpr c23
     subst c23
     rw [if_neg (show ¬ (false = true) by decide)] at H
     obtain ⟨c24, H⟩ : (0 ≤ (t729.length : Int)) ∧ _ := mIf H
     have c24b0 := eq_true c24
     have c24b1 := decide_eq_true c24
     clear c24
     obtain ⟨c25, H⟩ : (((t729.length : Int) : Int).toNat ≤ 281474976710656) ∧ _ := mIf H
     have c25b0 := eq_true c25
     have c25b1 := decide_eq_true c25
     clear c25
     obtain ⟨y735, hy735⟩ : ∃ y_ : List Bool, y_ = (List.replicate ((t729.length : Int) : Int).toNat false) := ⟨_, rfl⟩
     rw [← hy735] at H
     have Ny735 := Aside0.mk hy735
     clear hy735
     have H' := Aside0.mk H
     clear H
     obtain ⟨Ao26, co26, eo26⟩ := Kd.R_slice HO_7.out
     subst eo26
     go_wp2_with (first | ((with_reducible refine gate_dst (N := 72) rfl ?_); (try (refine gate_guard (by rfl) ?_; dsimp only)); refine Kd.R_make Kd.bool _ 4 rfl (N := 72) rfl 48 _ _ rfl (t729.length : Int) rfl rfl Tryd.underlying48 (.bool false) 1 info4 rfl (by decide) (by omega) false (ok := fun _ => True) (okp := fun _ => True) rfl (fun _ hk => hk) trivial (of_decide_eq_true (by assumption)) (Nat.le_trans (Nat.mul_le_mul_right _ (of_decide_eq_true (by assumption) : (t729.length : Int).toNat ≤ 281474976710656)) (by omega)) (Below.refl _ _) (Nat.le_refl _) ?_; intro v736 w27 ho28 hb hg_ hnew_; clear hg_ hnew_; (first | rw [← Ny735.out] at ho28 | (simp only [Int.reduceToNat] at ho28; rw [← Ny735.out] at ho28)); replace HO_7 := Aside0.mk (Kd.R_below HO_7.out hb); have HO737 := Aside0.mk (Kd.R_lower ho28 (below_size HB.out)); replace BK3 := mBb BK3 hb; replace HB := mSt HB hb; clear hb ho28))
     go_loopg [11, 12] kj15 (fun kq v11 v12 w' => ∃ (x10_3 : List Bool) (x11_3 : Int) (x12_3 : Int), v11 = .int .i64 x11_3 ∧ v12 = .int .i64 x12_3 ∧ Aside0 (dancestudiolaw45_FormationLeast.l0 kq l1 l2 t729 t732 x10_3 x11_3 x12_3 a0_0 l0_1 = some r) ∧ Aside0 (kq ≤ kj15) ∧ Aside0 (Kd.R (Kd.int .i64) 3 w' w.heap.size (fun _ => True) (.slice Ao26 t729.length co26) t729) ∧ Aside0 (Kd.R Kd.bool 4 w' w.heap.size (fun _ => True) v736 x10_3) ∧ Aside0 (w'.heap[gb3]? = some (.cells #[.string a0_0, (.slice A0_1 l0_1.length c0_1)] 24 (0, 0))) ∧ Aside0 (Below w.heap.size w w'))
     case atStart => exact ⟨(y735), (0), (0), rfl, rfl, H', ⟨Nat.le_refl _⟩, HO_7, HO737, ⟨BK3.out⟩, ⟨HB.out⟩⟩
     case round =>
      clear H'
      try clear c1; try clear c2; try clear p2; try clear c6; try clear c6b0; try clear c6b1; try clear c8; try clear c8b0; try clear c8b1; try clear c11; try clear c13; try clear c15; try clear c15b0; try clear c15b1; try clear c19; try clear c19b0; try clear c19b1; try clear c19b2; try clear c23; try clear c24; try clear c24b0; try clear c24b1; try clear c25; try clear c25b0; try clear c25b1; try clear hcz10_0; try clear hcz10_1; try clear hcz17_0; try clear hcz17_1; try clear hcz21_0; try clear hcz21_1; try clear hcz7_0; try clear hcz7_1; try clear hcz9_0; try clear hcz9_1; try clear hfz10_0; try clear hfz10_1; try clear hfz17_0; try clear hfz17_1; try clear hfz21_0; try clear hfz21_1; try clear hfz7_0; try clear hfz7_1; try clear hfz9_0; try clear hfz9_1
      obtain ⟨x10_3, x11_3, x12_3, rfl, rfl, HA, HK3, HO_7, HO_10, BK3, HB⟩ := hrel
      cases gk with
      | zero => exact absurd HA.out (by simp [dancestudiolaw45_FormationLeast.l0])
      | succ k3 =>
       have H := HA.out
       clear HA
       simp only [dancestudiolaw45_FormationLeast.l0] at H
       by_cases c29 : x12_3 < (t729.length : Int)
       ·
        rw [if_pos c29] at H
        have c29b0 := decide_eq_true c29
        clear c29
        have HC30 := Aside0.mk H
        clear H
        go_upto_region 12 with (fail)
        go_cut [101] (fun v101 wc => ∃ (kq : Nat) (x101_29 : Bool), v101 = .bool x101_29 ∧ Aside0 (dancestudiolaw45_FormationLeast.j3 kq l1 l2 t729 t732 x10_3 x11_3 x12_3 x101_29 a0_0 l0_1 = some r) ∧ Aside0 (kq ≤ k3) ∧ Aside0 (Kd.R (Kd.int .i64) 3 wc w.heap.size (fun _ => True) (.slice Ao26 t729.length co26) t729) ∧ Aside0 (Kd.R Kd.bool 4 wc w.heap.size (fun _ => True) v736 x10_3) ∧ Aside0 (wc.heap[gb3]? = some (.cells #[.string a0_0, (.slice A0_1 l0_1.length c0_1)] 24 (0, 0))) ∧ Aside0 (Below w.heap.size w wc))
        case first =>
         have H := HC30.out
         clear HC30
         obtain ⟨c31, H⟩ : (0 ≤ x12_3) ∧ _ := mIf H
         have c31b0 := decide_eq_true c31
         clear c31
         (first | rw [c31b0] | (simp only [i64_w, i32_w]; rw [c31b0]) | skip)
         by_cases c32 : (rd t729 x12_3) < 0
         ·
          rw [if_pos c32] at H
          have c32b0 := decide_eq_true c32
          clear c32
          have H' := Aside0.mk H
          clear H
          have p738 : 0 ≤ (x12_3 : Int) := of_decide_eq_true (by assumption)
          have q738 : x12_3 < (t729.length : Int) := of_decide_eq_true (by assumption)
          obtain ⟨ad738, e738, hx738_0⟩ := Kd.at_int (Kd.R_reads' HO_7.out).2.2 x12_3 p738 q738
          cases e738
          replace p738 := eq_true p738
          replace q738 := eq_true q738
          go_wp2
          go_meet
          case rel => exact ⟨_, (true), rfl, H', ⟨by have := HJ3.out; have := HJ15.out; have := HK3.out; first | omega | exact Nat.le_refl _⟩, HO_7, HO_10, ⟨BK3.out⟩, ⟨HB.out⟩⟩
         rw [if_neg c32] at H
         have c32b0 := decide_eq_false c32
         clear c32
         by_cases c33 : (rd t729 x12_3) ≥ (t729.length : Int)
         ·
          rw [if_pos c33] at H
          have c33b0 := decide_eq_true c33
          clear c33
          have H' := Aside0.mk H
          clear H
          have p738 : 0 ≤ (x12_3 : Int) := of_decide_eq_true (by assumption)
          have q738 : x12_3 < (t729.length : Int) := of_decide_eq_true (by assumption)
          obtain ⟨ad738, e738, hx738_0⟩ := Kd.at_int (Kd.R_reads' HO_7.out).2.2 x12_3 p738 q738
          cases e738
          replace p738 := eq_true p738
          replace q738 := eq_true q738
          have p739 : 0 ≤ (x12_3 : Int) := of_decide_eq_true (by assumption)
          have q739 : x12_3 < (t729.length : Int) := of_decide_eq_true (by assumption)
          obtain ⟨ad739, e739, hx739_0⟩ := Kd.at_int (Kd.R_reads' HO_7.out).2.2 x12_3 p739 q739
          obtain rfl : ad738 = ad739 := (by injection e739)
          replace p739 := eq_true p739
          replace q739 := eq_true q739
          go_wp2
          go_meet
          case rel => exact ⟨_, (true), rfl, H', ⟨by have := HJ3.out; have := HJ15.out; have := HK3.out; first | omega | exact Nat.le_refl _⟩, HO_7, HO_10, ⟨BK3.out⟩, ⟨HB.out⟩⟩
         rw [if_neg c33] at H
         have c33b0 := decide_eq_false c33
         clear c33
         obtain ⟨c34, H⟩ : (0 ≤ (rd t729 x12_3)) ∧ _ := mIf H
         have c34b0 := decide_eq_true c34
         clear c34
         obtain ⟨c35, H⟩ : ((rd t729 x12_3) < (x10_3.length : Int)) ∧ _ := mIf H
         have c35b0 := decide_eq_true c35
         clear c35
         have H' := Aside0.mk H
         clear H
         have p738 : 0 ≤ (x12_3 : Int) := of_decide_eq_true (by assumption)
         have q738 : x12_3 < (t729.length : Int) := of_decide_eq_true (by assumption)
         obtain ⟨ad738, e738, hx738_0⟩ := Kd.at_int (Kd.R_reads' HO_7.out).2.2 x12_3 p738 q738
         cases e738
         replace p738 := eq_true p738
         replace q738 := eq_true q738
         have p739 : 0 ≤ (x12_3 : Int) := of_decide_eq_true (by assumption)
         have q739 : x12_3 < (t729.length : Int) := of_decide_eq_true (by assumption)
         obtain ⟨ad739, e739, hx739_0⟩ := Kd.at_int (Kd.R_reads' HO_7.out).2.2 x12_3 p739 q739
         obtain rfl : ad738 = ad739 := (by injection e739)
         replace p739 := eq_true p739
         replace q739 := eq_true q739
         have p740 : 0 ≤ (x12_3 : Int) := of_decide_eq_true (by assumption)
         have q740 : x12_3 < (t729.length : Int) := of_decide_eq_true (by assumption)
         obtain ⟨ad740, e740, hx740_0⟩ := Kd.at_int (Kd.R_reads' HO_7.out).2.2 x12_3 p740 q740
         obtain rfl : ad738 = ad740 := (by injection e740)
         replace p740 := eq_true p740
         replace q740 := eq_true q740
         obtain ⟨Ao36, co36, eo36⟩ := Kd.R_slice HO_10.out
         subst eo36
         have p741 : 0 ≤ ((rd t729 x12_3) : Int) := of_decide_eq_true (by assumption)
         have q741 : (rd t729 x12_3) < (x10_3.length : Int) := of_decide_eq_true (by assumption)
         obtain ⟨ad741, e741, hx741_0⟩ := Kd.at_bool (Kd.R_reads' HO_10.out).2.2 (rd t729 x12_3) p741 q741
         cases e741
         replace p741 := eq_true p741
         replace q741 := eq_true q741
         go_wp2
         go_meet
         case rel => exact ⟨_, (rdOf false x10_3 (rd t729 x12_3)), rfl, H', ⟨by have := HJ3.out; have := HJ15.out; have := HK3.out; first | omega | exact Nat.le_refl _⟩, HO_7, HO_10, ⟨BK3.out⟩, ⟨HB.out⟩⟩
        case rest =>
         clear HC30; try clear c1; try clear c2; try clear p2; try clear c3; try clear c6; try clear c6b0; try clear c6b1; try clear p7; try clear q7; try clear hx7; try clear c8; try clear c8b0; try clear c8b1; try clear c11; try clear c13; try clear c15; try clear c15b0; try clear c15b1; try clear c19; try clear c19b0; try clear c19b1; try clear c19b2; try clear c23; try clear c24; try clear c24b0; try clear c24b1; try clear c25; try clear c25b0; try clear c25b1; try clear c29; try clear c29b0; try clear c31; try clear c31b0; try clear c32; try clear c32b0; try clear c33; try clear c33b0; try clear c34; try clear c34b0; try clear c35; try clear c35b0; try clear hcz10_0; try clear hcz10_1; try clear hcz17_0; try clear hcz17_1; try clear hcz21_0; try clear hcz21_1; try clear hcz7_0; try clear hcz7_1; try clear hcz9_0; try clear hcz9_1; try clear hfz10_0; try clear hfz10_1; try clear hfz17_0; try clear hfz17_1; try clear hfz21_0; try clear hfz21_1; try clear hfz7_0; try clear hfz7_1; try clear hfz9_0; try clear hfz9_1; try clear hx738_0; try clear hx739_0; try clear hx740_0; try clear hx741_0; try clear p738; try clear p739; try clear p740; try clear p741; try clear q738; try clear q739; try clear q740; try clear q741
         obtain ⟨kq, x101_29, rfl, HA, HJ29, HO_7, HO_10, BK3, HB⟩ := hcut
         cases kq with
         | zero => exact absurd HA.out (by simp [dancestudiolaw45_FormationLeast.j3])
         | succ kj29 =>
          have H := HA.out
          clear HA
          simp only [dancestudiolaw45_FormationLeast.j3] at H
          by_cases c37 : x101_29 = true
          ·
           subst c37
           rw [if_pos rfl] at H
           exact absurd H (by simp)
          replace c37 := Bool.eq_false_iff.mpr c37
          subst c37
          rw [if_neg (show ¬ (false = true) by decide)] at H
          obtain ⟨c38, H⟩ : (0 ≤ x12_3) ∧ _ := mIf H
          have c38b0 := decide_eq_true c38
          clear c38
          obtain ⟨c39, H⟩ : (x12_3 < (t729.length : Int)) ∧ _ := mIf H
          have c39b0 := decide_eq_true c39
          clear c39
          obtain ⟨c40, H⟩ : (0 ≤ (rd t729 x12_3)) ∧ _ := mIf H
          have c40b0 := decide_eq_true c40
          clear c40
          obtain ⟨c41, H⟩ : ((rd t729 x12_3) < (x10_3.length : Int)) ∧ _ := mIf H
          have c41b0 := decide_eq_true c41
          clear c41
          obtain ⟨y743, hy743⟩ : ∃ y_ : List Bool, y_ = (x10_3.set ((rd t729 x12_3) : Int).toNat true) := ⟨_, rfl⟩
          rw [← hy743] at H
          have Ny743 := Aside0.mk hy743
          clear hy743
          obtain ⟨c43, H⟩ : (x12_3 < (l1.length : Int)) ∧ _ := mIf H
          have c43b0 := decide_eq_true c43
          clear c43
          obtain ⟨c44, H⟩ : ((rd t729 x12_3) < (l0_1.length : Int)) ∧ _ := mIf H
          have c44b0 := decide_eq_true c44
          clear c44
          replace H := Option.bind_eq_some_iff.mp H
          obtain ⟨⟨t747, t748⟩, A450, H⟩ := H
          try dsimp only at H
          have A45 := Aside0.mk A450
          clear A450
          obtain ⟨c46, H⟩ : (t748 = 0) ∧ _ := mIf H
          have c46b0 := beq_iff_eq.mpr c46
          have c46b1 := bne_eq_false_iff_eq.mpr c46
          clear c46
          have H' := Aside0.mk H
          clear H
          have p742 : 0 ≤ (x12_3 : Int) := of_decide_eq_true (by assumption)
          have q742 : x12_3 < (t729.length : Int) := of_decide_eq_true (by assumption)
          obtain ⟨ad742, e742, hx742_0⟩ := Kd.at_int (Kd.R_reads' HO_7.out).2.2 x12_3 p742 q742
          cases e742
          replace p742 := eq_true p742
          replace q742 := eq_true q742
          have p42 : 0 ≤ ((rd t729 x12_3) : Int) := of_decide_eq_true (by assumption)
          have q42 : ((rd t729 x12_3) : Int) < ((x10_3.length : Int) : Int) := of_decide_eq_true (by assumption)
          obtain ⟨go42, co42, eo42, gb1, gl42, cl42, HG42⟩ := Kd.R_form HO_10.out (by omega)
          (first | cases eo42 | (injection eo42 with ea_ en_ ec_; (first | subst ea_ | (injection ea_ with ea_; subst ea_)); subst ec_; clear en_))
          have GB42 := Aside0.mk gb1
          have GG42 := Aside0.mk HG42
          clear gb1 gl42 HG42
          obtain ⟨hx42_0, hf42_0⟩ := Kd.R_celln false HO_10.out ((rd t729 x12_3) : Int) p42 q42
          replace p42 := eq_true p42
          replace q42 := eq_true q42
          have HP47 := Kd.R_putg HO_10.out ((rd t729 x12_3) : Int) true
          try go_wp2_with (first | ((with_reducible refine gate_store (t := 4) (p := 107) rfl ?_); refine store_event (t := 4) (p := 107) (v := ?vo_w48) (w1 := (wc.setCell ⟨go42, ((rd t729 x12_3) : Int).toNat, none⟩ (.bool true))) ?hg ?ho ?hn ?hr ?_; (case ho => rfl); (case hg => rfl); (case hn => rfl); (case hr => first | (go_simp; done) | (go_simp; rfl)); intro w48 hw; have hg : wc.grownBy w48 (some go42) := (by rw [hw]; exact HP47.2); have hp_ : Kd.R Kd.bool 4 w48 w.heap.size (fun _ => True) (.slice (some ⟨go42, 0, none⟩) x10_3.length co42) y743 := (by rw [hw, Ny743.out]; exact HP47.1); clear HP47; replace HO_7 := Aside0.mk (Kd.R_over' (v := (.slice (some ⟨go42, 0, none⟩) x10_3.length co42)) HO_7.out (Kd.R_typed HO_10.out) (by decide) hg); replace BK3 := Aside0.mk (blk_grown (g := gb3) (o := .cells #[.string a0_0, .slice A0_1 l0_1.length c0_1] 24 (0, 0)) BK3.out hg (Kd.R_ne HO_10.out BK3.out (by decide))); replace HO_10 := Aside0.mk (hp_); replace HB := Aside0.mk ((by rw [hw]; exact below_set (HB.out) GB42.out : Below w.heap.size w w48)); clear hg hw hp_))
          replace HO_7 := Aside0.mk (Kd.R_drew HO_7.out); replace HO_10 := Aside0.mk (Kd.R_drew HO_10.out); replace BK3 := Aside0.mk (blk_drew BK3.out); replace HB := Aside0.mk (below_drew1 HB.out)
          have p744 : 0 ≤ (x12_3 : Int) := of_decide_eq_true (by assumption)
          have q744 : x12_3 < (l1.length : Int) := of_decide_eq_true (by assumption)
          obtain ⟨ad744, e744, hx744_0, hx744_1⟩ := at_T52 HR1.out x12_3 p744 q744
          have hw744_1 := hx744_1
          have hw744_0 := hx744_0
          cases e744
          replace hx744_0 := mHx HB hx744_0
          replace hx744_1 := mHx HB hx744_1
          replace p744 := eq_true p744
          replace q744 := eq_true q744
          have p745 : 0 ≤ (x12_3 : Int) := of_decide_eq_true (by assumption)
          have q745 : x12_3 < (t729.length : Int) := of_decide_eq_true (by assumption)
          obtain ⟨ad745, e745, hx745_0⟩ := Kd.at_int (Kd.R_reads' HO_7.out).2.2 x12_3 p745 q745
          obtain rfl : ad742 = ad745 := (by injection e745)
          replace p745 := eq_true p745
          replace q745 := eq_true q745
          have p746 : 0 ≤ ((rd t729 x12_3) : Int) := of_decide_eq_true (by assumption)
          have q746 : (rd t729 x12_3) < (l0_1.length : Int) := of_decide_eq_true (by assumption)
          obtain ⟨ad746, e746, hx746_0, hx746_1⟩ := at_T52 HR0_1.out (rd t729 x12_3) p746 q746
          have hw746_1 := hx746_1
          have hw746_0 := hx746_0
          cases e746
          replace hx746_0 := mHx HB hx746_0
          replace hx746_1 := mHx HB hx746_1
          replace p746 := eq_true p746
          replace q746 := eq_true q746
          refine start_ (n := 18) (S := fun w' => w'.cell? ⟨gb3, 0, none⟩ = some (.string a0_0) ∧ w'.cell? ⟨gb3, 1, none⟩ = some (.slice (some ad746) l0_1.length c0_1) ∧ w'.cell? (ad744.add ((x12_3).toNat * 2)) = some (.int .i64 ((rd_T52 l1 x12_3).f0)) ∧ w'.cell? ⟨(ad744.add ((x12_3).toNat * 2)).block, (ad744.add ((x12_3).toNat * 2)).off + 1, none⟩ = some (.int .i64 ((rd_T52 l1 x12_3).f1)) ∧ w'.cell? (ad742.add (x12_3).toNat) = some (.int .i64 (rd t729 x12_3)) ∧ w'.cell? (ad746.add (((rd t729 x12_3)).toNat * 2)) = some (.int .i64 ((rd_T52 l0_1 (rd t729 x12_3)).f0)) ∧ w'.cell? ⟨(ad746.add (((rd t729 x12_3)).toNat * 2)).block, (ad746.add (((rd t729 x12_3)).toNat * 2)).off + 1, none⟩ = some (.int .i64 ((rd_T52 l0_1 (rd t729 x12_3)).f1))) (ds := []) #[false, false, false, false, false, false, false, false, false, false, false, false, false, false, false, false, false, false] (by kernel_rfl) rfl rfl ⟨(blk_cell BK3.out 0).trans rfl, (blk_cell BK3.out 1).trans rfl, ((HB.out.cell (World.block_lt_of_cell? w _ hw744_0)).trans hw744_0), ((HB.out.cell (World.block_lt_of_cell? w _ hw744_1)).trans hw744_1), hx745_0, ((HB.out.cell (World.block_lt_of_cell? w _ hw746_0)).trans hw746_0), ((HB.out.cell (World.block_lt_of_cell? w _ hw746_1)).trans hw746_1)⟩ (fun hHeld => ?_); refine with_tabW dancestudiolaw45_FormationLeast.tab15 dancestudiolaw45_FormationLeast.bits15 (fun HT_ HW_ => ?_)
          generalize w48.drew = w49 at HO_7 HO_10 BK3 HB hx744_0 hx744_1 hx745_0 hx746_0 hx746_1 hHeld ⊢
          refine pM 0 109 HT_ ?_
          refine pM 1 110 HT_ ?_
          refine pM 2 111 HT_ ?_
          refine pM 4 113 HT_ ?_
          refine pM 6 115 HT_ ?_
          refine pM 7 116 HT_ ?_
          refine pM 8 117 HT_ ?_
          refine tM 3 112 rfl HT_ HW_ (by rintro w' ⟨s0, s1, s2, s3, s4, s5, s6⟩; go_simp; with_reducible rfl) hHeld ?_
          refine tM 5 114 rfl HT_ HW_ (by rintro w' ⟨s0, s1, s2, s3, s4, s5, s6⟩; go_simp; with_reducible rfl) hHeld ?_
          refine tM 9 118 rfl HT_ HW_ (by rintro w' ⟨s0, s1, s2, s3, s4, s5, s6⟩; go_simp; with_reducible rfl) hHeld ?_
          refine pM 10 119 HT_ ?_
          refine tM 11 120 rfl HT_ HW_ (by rintro w' ⟨s0, s1, s2, s3, s4, s5, s6⟩; go_simp; with_reducible rfl) hHeld ?_
          refine one_ (i := 12) (N := some 121) #[true, true, true, true, true, true, true, true, true, true, true, true, true, false, false, false, false, false] rfl rfl (one_of HT_.out (by kernel_rfl)) (by decide) (fun K hK => ?_)
          refine goes_ Tryd.func28 (by kernel_rfl) rfl #[.agg #[.int .i64 ((rd_T52 l1 x12_3).f0), .int .i64 ((rd_T52 l1 x12_3).f1)], .agg #[.int .i64 ((rd_T52 l0_1 (rd t729 x12_3)).f0), .int .i64 ((rd_T52 l0_1 (rd t729 x12_3)).f1)]] (by rfl) rfl rfl (by (try simp only [List.map_toArray, List.map_cons, List.map_nil]); first | done | rfl | (simp only [List.length_drop, List.length_take]; rfl)) ?_
          with_reducible refine (geom_Dist2.calls kj29 ((rd_T52 l1 x12_3).f0) ((rd_T52 l1 x12_3).f1) ((rd_T52 l0_1 (rd t729 x12_3)).f0) ((rd_T52 l0_1 (rd t729 x12_3)).f1) t747 t748 _ A45.out).mono ?_
          rintro e w50 ⟨rfl, hb⟩
          have HS4_ := (hb.cell (World.block_lt_of_cell? _ _ (hHeld.2.2.2.2.1))).trans (hHeld.2.2.2.2.1)
          refine ⟨_, rfl, ?_⟩
          replace HO_7 := Aside0.mk (Kd.R_below HO_7.out hb); replace HO_10 := Aside0.mk (Kd.R_below HO_10.out hb); replace BK3 := mBb BK3 hb; replace HB := mSt HB hb
          (try clear hb)
          (try clear hb2)
          (try clear hk)
          (try clear hi)
          refine hK.out _ _ ⟨blk_cell BK3.out 0, blk_cell BK3.out 1, ((HB.out.cell (World.block_lt_of_cell? w _ hw744_0)).trans hw744_0), ((HB.out.cell (World.block_lt_of_cell? w _ hw744_1)).trans hw744_1), HS4_, ((HB.out.cell (World.block_lt_of_cell? w _ hw746_0)).trans hw746_0), ((HB.out.cell (World.block_lt_of_cell? w _ hw746_1)).trans hw746_1)⟩ (fun hHeld => ?_)
          clear hK K
          refine norm_ (by show Act.put _ (some 121) _ = _; simp only [mP]; rfl) ?_
          refine pM 13 108 HT_ ?_
          refine pM 14 122 HT_ ?_
          refine pM 15 123 HT_ ?_
          refine pM 16 13 HT_ ?_
          refine pM 17 14 HT_ ?_
          refine done_ (done_of HT_.out (by kernel_rfl)) ?_
          try go_wp2
          go_roundg kj29
          case measure => have := HJ3.out; have := HJ15.out; have := HK3.out; have := HJ29.out; omega
          case rel => exact ⟨(y743), (wrap64 (x11_3 + t747)), (wrap64 (x12_3 + 1)), rfl, rfl, H', ⟨by have := HJ3.out; have := HJ15.out; have := HK3.out; have := HJ29.out; omega⟩, HO_7, HO_10, ⟨BK3.out⟩, ⟨HB.out⟩⟩
       rw [if_neg c29] at H
       have c29b0 := decide_eq_false c29
       clear c29
       obtain ⟨c51, H⟩ : (x11_3 = t732) ∧ _ := mIf H
       have c51b0 := beq_iff_eq.mpr c51
       have c51b1 := bne_eq_false_iff_eq.mpr c51
       clear c51
       obtain ⟨y749, hy749⟩ : ∃ y_ : List Int, y_ = (([] : List Int)) := ⟨_, rfl⟩
       rw [← hy749] at H
       have Ny749 := Aside0.mk hy749
       clear hy749
       obtain ⟨c52, H⟩ : (y749.length + t729.length < 17592186044416) ∧ _ := mIf H
       have LMc52 := Aside0.mk c52
       clear c52
       obtain ⟨y752, hy752⟩ : ∃ y_ : List Int, y_ = (y749 ++ t729) := ⟨_, rfl⟩
       rw [← hy752] at H
       have Ny752 := Aside0.mk hy752
       clear hy752
       have HC53 := Aside0.mk H
       clear H
       go_upto_block 2 with (first | ((with_reducible refine gate_dst (N := 132) rfl ?_); (try (refine gate_guard (by rfl) ?_; dsimp only)); refine Kd.R_lit (Kd.int .i64) _ 3 ?hg (N := 132) ?hd (xs := ([] : List Int)) (inner := []) (ok := fun _ => True) (okp := fun _ => True) ?hr ?hp (fun _ hk => hk) trivial (Below.refl _ _) (Nat.le_refl _) (by simp) ?_; (case hd => rfl); (case hg => rfl); (case hr => first | (go_simp; done) | (go_simp; rfl)); (case hp => exact (Reps.none _ _)); intro v750 w54 ho55 hb hg_ hnew_; clear hg_ hnew_; (first | rw [← Ny749.out] at ho55 | (simp only [Int.reduceToNat] at ho55; rw [← Ny749.out] at ho55)); replace HO_10 := Aside0.mk (Kd.R_below HO_10.out hb); have HO751 := Aside0.mk (Kd.R_lower (Kd.R_new' ho55 (Kd.R_lt HO_7.out)) (below_size HB.out)); replace HO_7 := Aside0.mk (Kd.R_elder' HO_7.out (Kd.R_base ho55) hb); replace BK3 := mBb BK3 hb; replace HB := mSt HB hb; clear hb ho55) | ((with_reducible refine gate_builtin (b := .append) (xs := #[.tmp 132, .tmp 133]) rfl ?_); (try (refine gate_guard (by rfl) ?_; dsimp only)); at_builtin; refine Kd.R_append_rows (Kd.int .i64) (w0 := w) w.heap.size rfl (.tmp 132) (.tmp 133) 29 3 (.int .i64 0) 8 rfl Tryd.underlying29 info3 rfl (by decide) (by omega) v750 y749 t729 _ _ _ (fun k_ => some k_ ≠ (.slice Ao26 t729.length co26 : Value).ownBlock) (fun _ => False) rfl rfl ?aO ?aR (fun _ _ h => h) (fun _ h => h.elim) ?aF ?aB ?aS ?aL ?_; (case aR => repeat (first | exact (Kd.R_reads' HO_7.out).2.2 | (with_reducible refine Kd.C_alloc ?_ _) | (with_reducible refine Kd.C_drewN ?_ _) | (with_reducible refine Kd.C_drew ?_))); (case aB => exact HB.out); (case aF => exact (fun k_ hk => Kd.fresh' (Kd.R_lt HO_7.out) k_ hk)); (case aO => exact (by exact Kd.R_mono HO751.out (fun _ hk => hk.2))); (case aS => exact (below_size HB.out)); (case aL => have := LMc52.out; omega); intro v753 w56 ho hb hg hat; rw [← Ny752.out] at ho; replace HO_7 := Aside0.mk (Kd.R_after (ok := (fun _ => True)) HO_7.out hg hat); replace HO_10 := Aside0.mk (Kd.R_over' HO_10.out (Kd.R_typed HO751.out) (by decide) hg); replace BK3 := Aside0.mk (blk_grown (g := gb3) (o := .cells #[.string a0_0, .slice A0_1 l0_1.length c0_1] 24 (0, 0)) BK3.out hg (Kd.R_ne HO751.out BK3.out (by decide))); replace HB := Aside0.mk hb; have HO754 := Aside0.mk ho; clear HO751; clear ho hb hg hat))
       (try simp only [Act.put, List.setIfInBounds_toArray, List.set_cons_zero, List.set_cons_succ])
       go_cut [] (fun wc => ∃ (kq : Nat) (x15_52 : List Int), Aside0 (dancestudiolaw45_FormationLeast.j5 kq l1 t732 x15_52 a0_0 l0_1 = some r) ∧ Aside0 (kq ≤ k3) ∧ Aside0 (Kd.R (Kd.int .i64) 3 wc w.heap.size (fun _ => True) v753 x15_52) ∧ Aside0 (wc.heap[gb3]? = some (.cells #[.string a0_0, (.slice A0_1 l0_1.length c0_1)] 24 (0, 0))) ∧ Aside0 (Below w.heap.size w wc))
       case first =>
        have H := HC53.out
        clear HC53
        have H' := Aside0.mk H
        clear H
        go_wp2
        go_loopg [16] k3 (fun kq v16 w' => ∃ (x15_4 : List Int) (x16_4 : Int), v16 = .int .i64 x16_4 ∧ Aside0 (dancestudiolaw45_FormationLeast.l1 kq l1 l2 t732 x15_4 x16_4 a0_0 l0_1 = some r) ∧ Aside0 (kq ≤ k3) ∧ Aside0 (Kd.R (Kd.int .i64) 3 w' w.heap.size (fun _ => True) v753 x15_4) ∧ Aside0 (w'.heap[gb3]? = some (.cells #[.string a0_0, (.slice A0_1 l0_1.length c0_1)] 24 (0, 0))) ∧ Aside0 (Below w.heap.size w w'))
        case atStart => exact ⟨(y752), (0), rfl, H', ⟨Nat.le_refl _⟩, ⟨Kd.R_mono HO754.out (fun _ hk => trivial)⟩, ⟨BK3.out⟩, ⟨HB.out⟩⟩
        case round =>
         clear H'
         clear c29b0 c51b0 c51b1
         obtain ⟨x15_4, x16_4, rfl, HA, HK4, HO_15, BK3, HB⟩ := hrel
         cases gk with
         | zero => exact absurd HA.out (by simp [dancestudiolaw45_FormationLeast.l1])
         | succ k4 =>
          have H := HA.out
          clear HA
          simp only [dancestudiolaw45_FormationLeast.l1] at H
          by_cases c57 : x16_4 < (l2.length : Int)
          rotate_left
          ·
           rw [if_neg c57] at H
           have c57b0 := decide_eq_false c57
           clear c57
           (first | rw [c57b0] | (simp only [i64_w, i32_w]; rw [c57b0]) | skip)
           have H' := Aside0.mk H
           clear H
           go_wp2
           go_meet
           case rel => exact ⟨_, (x15_4), H', ⟨by have := HJ3.out; have := HJ15.out; have := HK3.out; have := HK4.out; first | omega | exact Nat.le_refl _⟩, HO_15, ⟨BK3.out⟩, ⟨HB.out⟩⟩
          rw [if_pos c57] at H
          have c57b0 := decide_eq_true c57
          clear c57
          (first | rw [c57b0] | (simp only [i64_w, i32_w]; rw [c57b0]) | skip)
          by_cases c58 : x16_4 < 40
          rotate_left
          ·
           rw [if_neg c58] at H
           have c58b0 := decide_eq_false c58
           clear c58
           have H' := Aside0.mk H
           clear H
           go_wp2
           go_meet
           case rel => exact ⟨_, (x15_4), H', ⟨by have := HJ3.out; have := HJ15.out; have := HK3.out; have := HK4.out; first | omega | exact Nat.le_refl _⟩, HO_15, ⟨BK3.out⟩, ⟨HB.out⟩⟩
          rw [if_pos c58] at H
          have c58b0 := decide_eq_true c58
          clear c58
          obtain ⟨c59, H⟩ : (¬ ((x15_4.length : Int) = 0)) ∧ _ := mIfn H
          have c59b0 := beq_eq_false_iff_ne.mpr c59
          have c59b1 := bne_iff_ne.mpr c59
          have c59b2 : ¬ (x15_4 = []) := fun h_ => c59 (by rw [h_]; rfl)
          obtain ⟨c60, H⟩ : (0 ≤ x16_4) ∧ _ := mIf H
          have c60b0 := decide_eq_true c60
          clear c60
          obtain ⟨ji61, hji61⟩ : ∃ j_ : Int, (Int.tmod (wrap64 (rd l2 x16_4)) (x15_4.length : Int)) = j_ := ⟨_, rfl⟩
          replace H : (if 0 ≤ (ji61) then (if (ji61) < (x15_4.length : Int) then (if 0 ≤ (Int.tmod x16_4 (x15_4.length : Int)) then (if (Int.tmod x16_4 (x15_4.length : Int)) < (x15_4.length : Int) then (dancestudiolaw45_FormationLeast.l1 k4 l1 l2 t732 ((x15_4.set ((Int.tmod x16_4 (x15_4.length : Int)) : Int).toNat (rd x15_4 (ji61))).set ((ji61) : Int).toNat (rd x15_4 (Int.tmod x16_4 (x15_4.length : Int)))) (wrap64 (x16_4 + 1)) a0_0 l0_1) else (none)) else (none)) else (none)) else (none)) = some r := by first | (rw [hji61] at H; exact H) | (simp only [hji61] at H ⊢; exact H)
          obtain ⟨c62, H⟩ : (0 ≤ (ji61)) ∧ _ := mIf H
          have c62b0 := decide_eq_true c62
          clear c62
          obtain ⟨c63, H⟩ : ((ji61) < (x15_4.length : Int)) ∧ _ := mIf H
          have c63b0 := decide_eq_true c63
          clear c63
          obtain ⟨ji64, hji64⟩ : ∃ j_ : Int, (Int.tmod x16_4 (x15_4.length : Int)) = j_ := ⟨_, rfl⟩
          replace H : (if 0 ≤ (ji64) then (if (ji64) < (x15_4.length : Int) then (dancestudiolaw45_FormationLeast.l1 k4 l1 l2 t732 ((x15_4.set ((ji64) : Int).toNat (rd x15_4 (ji61))).set ((ji61) : Int).toNat (rd x15_4 (ji64))) (wrap64 (x16_4 + 1)) a0_0 l0_1) else (none)) else (none)) = some r := by first | (rw [hji64] at H; exact H) | (simp only [hji64] at H ⊢; exact H)
          obtain ⟨c65, H⟩ : (0 ≤ (ji64)) ∧ _ := mIf H
          have c65b0 := decide_eq_true c65
          clear c65
          obtain ⟨c66, H⟩ : ((ji64) < (x15_4.length : Int)) ∧ _ := mIf H
          have c66b0 := decide_eq_true c66
          clear c66
          obtain ⟨y758, hy758⟩ : ∃ y_ : List Int, y_ = (x15_4.set ((ji64) : Int).toNat (rd x15_4 (ji61))) := ⟨_, rfl⟩
          rw [← hy758] at H
          have Ny758 := Aside0.mk hy758
          clear hy758
          obtain ⟨y759, hy759⟩ : ∃ y_ : List Int, y_ = (y758.set ((ji61) : Int).toNat (rd x15_4 (ji64))) := ⟨_, rfl⟩
          rw [← hy759] at H
          have Ny759 := Aside0.mk hy759
          clear hy759
          have H' := Aside0.mk H
          clear H
          try go_wp2
          replace HO_15 := Aside0.mk (Kd.R_drew HO_15.out); replace BK3 := Aside0.mk (blk_drew BK3.out); replace HB := Aside0.mk (below_drew1 HB.out)
          obtain ⟨Ao70, co70, eo70⟩ := Kd.R_slice HO_15.out
          subst eo70
          have p755 : 0 ≤ (x16_4 : Int) := of_decide_eq_true (by assumption)
          have q755 : x16_4 < (l2.length : Int) := of_decide_eq_true (by assumption)
          obtain ⟨ad755, e755, hx755_0⟩ := Kd.at_int HR2.out x16_4 p755 q755
          have hw755_0 := hx755_0
          cases e755
          replace hx755_0 := mHx HB hx755_0
          replace p755 := eq_true p755
          replace q755 := eq_true q755
          refine start_ (n := 14) (S := fun w' => w'.cell? (ad755.add (x16_4).toNat) = some (.int .u8 (rd l2 x16_4))) (ds := []) #[false, false, false, false, false, false, false, false, false, false, false, false, false, false] (by kernel_rfl) rfl rfl (((HB.out.cell (World.block_lt_of_cell? w _ hw755_0)).trans hw755_0)) (fun hHeld => ?_); refine with_tabW dancestudiolaw45_FormationLeast.tab25 dancestudiolaw45_FormationLeast.bits25 (fun HT_ HW_ => ?_)
          generalize wr.drew = w69 at HO_15 BK3 HB hx755_0 hHeld ⊢
          refine pM 0 145 HT_ ?_
          refine pM 1 146 HT_ ?_
          refine pM 2 147 HT_ ?_
          refine pM 3 148 HT_ ?_
          refine pM 4 149 HT_ ?_
          refine pM 5 150 HT_ ?_
          refine pM 6 151 HT_ ?_
          refine pM 9 154 HT_ ?_
          refine pM 10 155 HT_ ?_
          refine pM 12 17 HT_ ?_
          refine take_ (i := 7) (N := some 152) (v := ?_) (a' := ?_) #[true, true, true, true, true, true, true, true, false, true, true, false, true, false] rfl rfl (take_ofW HT_.out HW_.out (by kernel_rfl)) (fun _ _ _ h => h) (Or.inl ⟨by rfl, ?_⟩) hHeld ?_ ?_
          rotate_left
          ·
           intro w' s0
           go_simp
           with_reducible rfl
          rotate_left
          ·
           simp only [mP]
           rfl
          refine pM 8 153 HT_ ?_
          refine pM 11 156 HT_ ?_
          refine pM 13 18 HT_ ?_
          refine done_ (done_of HT_.out (by kernel_rfl)) ?_
          try go_wp2
          replace HO_15 := Aside0.mk (Kd.R_drew HO_15.out); replace BK3 := Aside0.mk (blk_drew BK3.out); replace HB := Aside0.mk (below_drew1 HB.out)
          have p756 : 0 ≤ ((ji61) : Int) := of_decide_eq_true (by assumption)
          have q756 : (ji61) < (x15_4.length : Int) := of_decide_eq_true (by assumption)
          obtain ⟨ad756, e756, hx756_0⟩ := Kd.at_int (Kd.R_reads' HO_15.out).2.2 (ji61) p756 q756
          cases e756
          replace p756 := eq_true p756
          replace q756 := eq_true q756
          have p757 : 0 ≤ ((ji64) : Int) := of_decide_eq_true (by assumption)
          have q757 : (ji64) < (x15_4.length : Int) := of_decide_eq_true (by assumption)
          obtain ⟨ad757, e757, hx757_0⟩ := Kd.at_int (Kd.R_reads' HO_15.out).2.2 (ji64) p757 q757
          obtain rfl : ad756 = ad757 := (by injection e757)
          replace p757 := eq_true p757
          replace q757 := eq_true q757
          have p67 : 0 ≤ ((ji64) : Int) := of_decide_eq_true (by assumption)
          have q67 : ((ji64) : Int) < ((x15_4.length : Int) : Int) := of_decide_eq_true (by assumption)
          obtain ⟨go67, co67, eo67, gb2, gl67, cl67, HG67⟩ := Kd.R_form HO_15.out (by omega)
          (first | cases eo67 | (injection eo67 with ea_ en_ ec_; (first | subst ea_ | (injection ea_ with ea_; subst ea_)); subst ec_; clear en_))
          have GB67 := Aside0.mk gb2
          have GG67 := Aside0.mk HG67
          clear gb2 gl67 HG67
          (first | simp only [add_plain] at hx756_0 | skip)
          (first | simp only [add_plain] at hx757_0 | skip)
          obtain ⟨hx67_0, hf67_0⟩ := Kd.R_celln 0 HO_15.out ((ji64) : Int) p67 q67
          replace p67 := eq_true p67
          replace q67 := eq_true q67
          have HP72 := Kd.R_putn HO_15.out ((ji64) : Int) (rd x15_4 (ji61))
          rw [← Ny758.out] at HP72
          have HQ72 := Aside0.mk HP72
          clear HP72
          have p68 : 0 ≤ ((ji61) : Int) := of_decide_eq_true (by assumption)
          have q68 : ((ji61) : Int) < ((x15_4.length : Int) : Int) := of_decide_eq_true (by assumption)
          obtain ⟨hx68_0, hf68_0⟩ := Kd.R_celln 0 HQ72.out ((ji61) : Int) p68 q68
          replace p68 := eq_true p68
          replace q68 := eq_true q68
          have HP73 := Kd.R_putn HQ72.out ((ji61) : Int) (rd x15_4 (ji64))
          rw [← Ny759.out] at HP73
          have HQ73 := Aside0.mk HP73
          clear HP73
          refine start_ (n := 16) (S := fun w' => w'.cell? ⟨go67, ((ji61)).toNat, none⟩ = some (.int .i64 (rd x15_4 (ji61))) ∧ w'.cell? ⟨go67, ((ji64)).toNat, none⟩ = some (.int .i64 (rd x15_4 (ji64)))) (ds := [13, 15]) #[false, false, false, false, false, false, false, false, false, false, false, false, false, false, false, false] (by kernel_rfl) rfl rfl ⟨hx756_0, hx757_0⟩ (fun hHeld => ?_); refine with_tabW dancestudiolaw45_FormationLeast.tab26 dancestudiolaw45_FormationLeast.bits26 (fun HT_ HW_ => ?_)
          generalize w69.drew = w71 at HO_15 BK3 HB GG67 HQ72 HQ73 hf67_0 hf68_0 hx67_0 hx68_0 hx756_0 hx757_0 hHeld ⊢
          refine pM 0 157 HT_ ?_
          refine pM 1 158 HT_ ?_
          refine pM 2 159 HT_ ?_
          refine pM 3 160 HT_ ?_
          refine pM 4 161 HT_ ?_
          refine pM 5 162 HT_ ?_
          refine pM 6 163 HT_ ?_
          refine pM 8 165 HT_ ?_
          refine pM 9 166 HT_ ?_
          refine pM 10 167 HT_ ?_
          refine tM 7 164 rfl HT_ HW_ (by rintro w' ⟨s0, s1⟩; go_simp; with_reducible rfl) hHeld ?_
          refine tM 11 168 rfl HT_ HW_ (by rintro w' ⟨s0, s1⟩; go_simp; with_reducible rfl) hHeld ?_
          refine pM 12 169 HT_ ?_
          refine last_ (i := 13) (N := none) #[true, true, true, true, true, true, true, true, true, true, true, true, true, true, false, false] rfl rfl (one_of HT_.out (by kernel_rfl)) (by decide) (fun K hK => ?_)
          refine skip_ (w1 := ?_) (by rfl) rfl ?_ ?_
          rotate_left
          ·
           go_simp
           rfl
          refine hK.out _ _ ?_
          clear hK K
          refine pM 14 170 HT_ ?_
          refine last_ (i := 15) (N := none) #[true, true, true, true, true, true, true, true, true, true, true, true, true, true, true, true] rfl rfl (one_of HT_.out (by kernel_rfl)) (by decide) (fun K hK => ?_)
          refine skip_ (w1 := ?_) (by rfl) rfl ?_ ?_
          rotate_left
          ·
           go_simp
           rfl
          refine hK.out _ _ ?_
          clear hK K
          refine done_ (done_of HT_.out (by kernel_rfl)) ?_
          try go_wp2
          go_roundg k4
          case measure => have := HJ3.out; have := HJ15.out; have := HK3.out; have := HK4.out; omega
          case rel => exact ⟨(y759), (wrap64 (x16_4 + 1)), rfl, H', ⟨by have := HJ3.out; have := HJ15.out; have := HK3.out; have := HK4.out; omega⟩, HQ73, ⟨by refine blk_far ?_ (by have h_ := Kd.R_ne HO_15.out BK3.out (by decide); intro e_; exact h_ (by rw [e_]; rfl)) _; refine blk_far ?_ (by have h_ := Kd.R_ne HO_15.out BK3.out (by decide); intro e_; exact h_ (by rw [e_]; rfl)) _; exact BK3.out⟩, ⟨hO HB⟩⟩
       case rest =>
        clear HC53; try clear c1; try clear c2; try clear p2; try clear c3; try clear c4; try clear p4; try clear q4; try clear hx4; try clear hf4; try clear c5; try clear c6; try clear c6b0; try clear c6b1; try clear p6; try clear q6; try clear hx6; try clear hf6; try clear p7; try clear q7; try clear hx7; try clear c8; try clear c8b0; try clear c8b1; try clear c11; try clear c13; try clear c15; try clear c15b0; try clear c15b1; try clear c19; try clear c19b0; try clear c19b1; try clear c19b2; try clear c23; try clear c24; try clear c24b0; try clear c24b1; try clear c25; try clear c25b0; try clear c25b1; try clear c28; try clear c29; try clear c29b0; try clear c31; try clear c31b0; try clear c32; try clear c32b0; try clear c33; try clear c33b0; try clear c34; try clear c34b0; try clear c35; try clear c35b0; try clear c37; try clear c38; try clear c38b0; try clear c39; try clear c39b0; try clear c40; try clear c40b0; try clear c41; try clear c41b0; try clear p42; try clear q42; try clear hx42; try clear hf42; try clear c43; try clear c43b0; try clear c44; try clear c44b0; try clear c46; try clear c46b0; try clear c46b1; try clear c51; try clear c51b0; try clear c51b1; try clear c52; try clear c57; try clear c57b0; try clear c58; try clear c58b0; try clear c59; try clear c59b0; try clear c59b1; try clear c59b2; try clear c60; try clear c60b0; try clear c62; try clear c62b0; try clear c63; try clear c63b0; try clear p64; try clear c65; try clear c65b0; try clear c66; try clear c66b0; try clear p67; try clear q67; try clear hx67; try clear hf67; try clear p68; try clear q68; try clear hx68; try clear hf68; try clear p73; try clear q73; try clear hx73; try clear hcz10_0; try clear hcz10_1; try clear hcz17_0; try clear hcz17_1; try clear hcz21_0; try clear hcz21_1; try clear hcz7_0; try clear hcz7_1; try clear hcz9_0; try clear hcz9_1; try clear hfz10_0; try clear hfz10_1; try clear hfz17_0; try clear hfz17_1; try clear hfz21_0; try clear hfz21_1; try clear hfz7_0; try clear hfz7_1; try clear hfz9_0; try clear hfz9_1; try clear hx42_0; try clear hx67_0; try clear hx68_0; try clear hx738_0; try clear hx739_0; try clear hx740_0; try clear hx741_0; try clear hx742_0; try clear hx744_0; try clear hx744_1; try clear hx745_0; try clear hx746_0; try clear hx746_1; try clear hx755_0; try clear hx756_0; try clear hx757_0; try clear p738; try clear p739; try clear p740; try clear p741; try clear p742; try clear p744; try clear p745; try clear p746; try clear p755; try clear p756; try clear p757; try clear q738; try clear q739; try clear q740; try clear q741; try clear q742; try clear q744; try clear q745; try clear q746; try clear q755; try clear q756; try clear q757
        obtain ⟨kq, x15_52, HA, HJ52, HO_15, BK3, HB⟩ := hcut
        cases kq with
        | zero => exact absurd HA.out (by simp [dancestudiolaw45_FormationLeast.j5])
        | succ kj52 =>
         have H := HA.out
         clear HA
         simp only [dancestudiolaw45_FormationLeast.j5] at H
         have H' := Aside0.mk H
         clear H
         go_wp2
         go_loopg [11, 19] kj52 (fun kq v11 v19 w' => ∃ (x11_5 : Int) (x19_5 : Int), v11 = .int .i64 x11_5 ∧ v19 = .int .i64 x19_5 ∧ Aside0 (dancestudiolaw45_FormationLeast.l2 kq l1 t732 x11_5 x15_52 x19_5 a0_0 l0_1 = some r) ∧ Aside0 (kq ≤ kj52) ∧ Aside0 (Kd.R (Kd.int .i64) 3 w' w.heap.size (fun _ => True) v753 x15_52) ∧ Aside0 (w'.heap[gb3]? = some (.cells #[.string a0_0, (.slice A0_1 l0_1.length c0_1)] 24 (0, 0))) ∧ Aside0 (Below w.heap.size w w'))
         case atStart => exact ⟨(0), (0), rfl, rfl, H', ⟨Nat.le_refl _⟩, HO_15, ⟨BK3.out⟩, ⟨HB.out⟩⟩
         case round =>
          clear H'
          skip
          obtain ⟨x11_5, x19_5, rfl, rfl, HA, HK5, HO_15, BK3, HB⟩ := hrel
          cases gk with
          | zero => exact absurd HA.out (by simp [dancestudiolaw45_FormationLeast.l2])
          | succ k5 =>
           have H := HA.out
           clear HA
           simp only [dancestudiolaw45_FormationLeast.l2] at H
           by_cases c74 : x19_5 < (x15_52.length : Int)
           rotate_left
           ·
            rw [if_neg c74] at H
            have c74b0 := decide_eq_false c74
            clear c74
            obtain ⟨c84, H⟩ : (x11_5 ≥ t732) ∧ _ := mIf H
            have c84b0 := decide_eq_true c84
            clear c84
            replace H := Option.bind_eq_some_iff.mp H
            obtain ⟨t765, A850, H⟩ := H
            try dsimp only at H
            have A85 := Aside0.mk A850
            clear A850
            obtain rfl := Option.some.inj H
            obtain ⟨Ao86, co86, eo86⟩ := Kd.R_slice HO_15.out
            subst eo86
            go_wp2_with (first | (go_at_call 13; (with_reducible refine (dancestudiolaw45_awake.calls k5  t765 _ (Mx.below HMX_.out HB.out) A85.out).mono ?_); rintro e w87 ⟨rfl, hb⟩; replace HO_15 := Aside0.mk (Kd.R_below HO_15.out hb); replace BK3 := mBb BK3 hb; replace HB := mSt HB hb; (try clear hb)))
            go_ret
            exact ⟨rfl, HB.out⟩
           rw [if_pos c74] at H
           have c74b0 := decide_eq_true c74
           clear c74
           obtain ⟨c75, H⟩ : (0 ≤ x19_5) ∧ _ := mIf H
           have c75b0 := decide_eq_true c75
           clear c75
           obtain ⟨c76, H⟩ : (x19_5 < (l1.length : Int)) ∧ _ := mIf H
           have c76b0 := decide_eq_true c76
           clear c76
           obtain ⟨c77, H⟩ : (0 ≤ (rd x15_52 x19_5)) ∧ _ := mIf H
           have c77b0 := decide_eq_true c77
           clear c77
           obtain ⟨c78, H⟩ : ((rd x15_52 x19_5) < (l0_1.length : Int)) ∧ _ := mIf H
           have c78b0 := decide_eq_true c78
           clear c78
           replace H := Option.bind_eq_some_iff.mp H
           obtain ⟨⟨t763, t764⟩, A790, H⟩ := H
           try dsimp only at H
           have A79 := Aside0.mk A790
           clear A790
           obtain ⟨c80, H⟩ : (t764 = 0) ∧ _ := mIf H
           have c80b0 := beq_iff_eq.mpr c80
           have c80b1 := bne_eq_false_iff_eq.mpr c80
           clear c80
           have H' := Aside0.mk H
           clear H
           obtain ⟨Ao81, co81, eo81⟩ := Kd.R_slice HO_15.out
           subst eo81
           try go_wp2
           replace HO_15 := Aside0.mk (Kd.R_drew HO_15.out); replace BK3 := Aside0.mk (blk_drew BK3.out); replace HB := Aside0.mk (below_drew1 HB.out)
           have p760 : 0 ≤ (x19_5 : Int) := of_decide_eq_true (by assumption)
           have q760 : x19_5 < (l1.length : Int) := of_decide_eq_true (by assumption)
           obtain ⟨ad760, e760, hx760_0, hx760_1⟩ := at_T52 HR1.out x19_5 p760 q760
           have hw760_1 := hx760_1
           have hw760_0 := hx760_0
           cases e760
           replace hx760_0 := mHx HB hx760_0
           replace hx760_1 := mHx HB hx760_1
           replace p760 := eq_true p760
           replace q760 := eq_true q760
           have p761 : 0 ≤ (x19_5 : Int) := of_decide_eq_true (by assumption)
           have q761 : x19_5 < (x15_52.length : Int) := of_decide_eq_true (by assumption)
           obtain ⟨ad761, e761, hx761_0⟩ := Kd.at_int (Kd.R_reads' HO_15.out).2.2 x19_5 p761 q761
           cases e761
           replace p761 := eq_true p761
           replace q761 := eq_true q761
           have p762 : 0 ≤ ((rd x15_52 x19_5) : Int) := of_decide_eq_true (by assumption)
           have q762 : (rd x15_52 x19_5) < (l0_1.length : Int) := of_decide_eq_true (by assumption)
           obtain ⟨ad762, e762, hx762_0, hx762_1⟩ := at_T52 HR0_1.out (rd x15_52 x19_5) p762 q762
           have hw762_1 := hx762_1
           have hw762_0 := hx762_0
           cases e762
           replace hx762_0 := mHx HB hx762_0
           replace hx762_1 := mHx HB hx762_1
           replace p762 := eq_true p762
           replace q762 := eq_true q762
           refine start_ (n := 18) (S := fun w' => w'.cell? ⟨gb3, 0, none⟩ = some (.string a0_0) ∧ w'.cell? ⟨gb3, 1, none⟩ = some (.slice (some ad762) l0_1.length c0_1) ∧ w'.cell? (ad760.add ((x19_5).toNat * 2)) = some (.int .i64 ((rd_T52 l1 x19_5).f0)) ∧ w'.cell? ⟨(ad760.add ((x19_5).toNat * 2)).block, (ad760.add ((x19_5).toNat * 2)).off + 1, none⟩ = some (.int .i64 ((rd_T52 l1 x19_5).f1)) ∧ w'.cell? (ad761.add (x19_5).toNat) = some (.int .i64 (rd x15_52 x19_5)) ∧ w'.cell? (ad762.add (((rd x15_52 x19_5)).toNat * 2)) = some (.int .i64 ((rd_T52 l0_1 (rd x15_52 x19_5)).f0)) ∧ w'.cell? ⟨(ad762.add (((rd x15_52 x19_5)).toNat * 2)).block, (ad762.add (((rd x15_52 x19_5)).toNat * 2)).off + 1, none⟩ = some (.int .i64 ((rd_T52 l0_1 (rd x15_52 x19_5)).f1))) (ds := []) #[false, false, false, false, false, false, false, false, false, false, false, false, false, false, false, false, false, false] (by kernel_rfl) rfl rfl ⟨(blk_cell BK3.out 0).trans rfl, (blk_cell BK3.out 1).trans rfl, ((HB.out.cell (World.block_lt_of_cell? w _ hw760_0)).trans hw760_0), ((HB.out.cell (World.block_lt_of_cell? w _ hw760_1)).trans hw760_1), hx761_0, ((HB.out.cell (World.block_lt_of_cell? w _ hw762_0)).trans hw762_0), ((HB.out.cell (World.block_lt_of_cell? w _ hw762_1)).trans hw762_1)⟩ (fun hHeld => ?_); refine with_tabW dancestudiolaw45_FormationLeast.tab31 dancestudiolaw45_FormationLeast.bits31 (fun HT_ HW_ => ?_)
           generalize wr.drew = w82 at HO_15 BK3 HB hx760_0 hx760_1 hx761_0 hx762_0 hx762_1 hHeld ⊢
           refine pM 0 178 HT_ ?_
           refine pM 1 179 HT_ ?_
           refine pM 2 180 HT_ ?_
           refine pM 4 182 HT_ ?_
           refine pM 6 184 HT_ ?_
           refine pM 7 185 HT_ ?_
           refine pM 8 186 HT_ ?_
           refine tM 3 181 rfl HT_ HW_ (by rintro w' ⟨s0, s1, s2, s3, s4, s5, s6⟩; go_simp; with_reducible rfl) hHeld ?_
           refine tM 5 183 rfl HT_ HW_ (by rintro w' ⟨s0, s1, s2, s3, s4, s5, s6⟩; go_simp; with_reducible rfl) hHeld ?_
           refine tM 9 187 rfl HT_ HW_ (by rintro w' ⟨s0, s1, s2, s3, s4, s5, s6⟩; go_simp; with_reducible rfl) hHeld ?_
           refine pM 10 188 HT_ ?_
           refine tM 11 189 rfl HT_ HW_ (by rintro w' ⟨s0, s1, s2, s3, s4, s5, s6⟩; go_simp; with_reducible rfl) hHeld ?_
           refine one_ (i := 12) (N := some 190) #[true, true, true, true, true, true, true, true, true, true, true, true, true, false, false, false, false, false] rfl rfl (one_of HT_.out (by kernel_rfl)) (by decide) (fun K hK => ?_)
           refine goes_ Tryd.func28 (by kernel_rfl) rfl #[.agg #[.int .i64 ((rd_T52 l1 x19_5).f0), .int .i64 ((rd_T52 l1 x19_5).f1)], .agg #[.int .i64 ((rd_T52 l0_1 (rd x15_52 x19_5)).f0), .int .i64 ((rd_T52 l0_1 (rd x15_52 x19_5)).f1)]] (by rfl) rfl rfl (by (try simp only [List.map_toArray, List.map_cons, List.map_nil]); first | done | rfl | (simp only [List.length_drop, List.length_take]; rfl)) ?_
           with_reducible refine (geom_Dist2.calls k5 ((rd_T52 l1 x19_5).f0) ((rd_T52 l1 x19_5).f1) ((rd_T52 l0_1 (rd x15_52 x19_5)).f0) ((rd_T52 l0_1 (rd x15_52 x19_5)).f1) t763 t764 _ A79.out).mono ?_
           rintro e w83 ⟨rfl, hb⟩
           have HS4_ := (hb.cell (World.block_lt_of_cell? _ _ (hHeld.2.2.2.2.1))).trans (hHeld.2.2.2.2.1)
           refine ⟨_, rfl, ?_⟩
           replace HO_15 := Aside0.mk (Kd.R_below HO_15.out hb); replace BK3 := mBb BK3 hb; replace HB := mSt HB hb
           (try clear hb)
           (try clear hb2)
           (try clear hk)
           (try clear hi)
           refine hK.out _ _ ⟨blk_cell BK3.out 0, blk_cell BK3.out 1, ((HB.out.cell (World.block_lt_of_cell? w _ hw760_0)).trans hw760_0), ((HB.out.cell (World.block_lt_of_cell? w _ hw760_1)).trans hw760_1), HS4_, ((HB.out.cell (World.block_lt_of_cell? w _ hw762_0)).trans hw762_0), ((HB.out.cell (World.block_lt_of_cell? w _ hw762_1)).trans hw762_1)⟩ (fun hHeld => ?_)
           clear hK K
           refine norm_ (by show Act.put _ (some 190) _ = _; simp only [mP]; rfl) ?_
           refine pM 13 177 HT_ ?_
           refine pM 14 191 HT_ ?_
           refine pM 15 192 HT_ ?_
           refine pM 16 20 HT_ ?_
           refine pM 17 21 HT_ ?_
           refine done_ (done_of HT_.out (by kernel_rfl)) ?_
           try go_wp2
           go_roundg k5
           case measure => have := HJ3.out; have := HJ15.out; have := HK3.out; have := HJ52.out; have := HK5.out; omega
           case rel => exact ⟨(wrap64 (x11_5 + t763)), (wrap64 (x19_5 + 1)), rfl, rfl, H', ⟨by have := HJ3.out; have := HJ15.out; have := HK3.out; have := HJ52.out; have := HK5.out; omega⟩, HO_15, ⟨BK3.out⟩, ⟨HB.out⟩⟩
end Go.Proofs.YtaggccbndmmbhaaDoor.PAll
