-- Written by wip/tools/handprint.py: walks of the functions that the law reaches; Lean checks them.
import Derived.Test.YtaggccbndmmbhaaDoorBase
import Derived.Test.YtaggccbndmmbhaaDoorPAllf12
import Derived.Test.YtaggccbndmmbhaaDoorPAllf36
import Derived.Test.YtaggccbndmmbhaaDoorPAllf37
namespace Go.Proofs.YtaggccbndmmbhaaDoor.PAll
open Go.RowKit Go.Proofs.YtaggccbndmmbhaaDoorW.PrintWords Go.Proofs.YtaggccbndmmbhaaDoorW.PrintLast Go.Proofs.YtaggccbndmmbhaaDoorW.PrintMore
attribute [local go_sem] max2_int min2_int max_two min_two max_three min_three max_four min_four   -- for this text's walks alone
set_option linter.unusedVariables false
set_option linter.unusedSimpArgs false

/-! ### dancestudioref45_Fit: function 16 -/
mutual
def dancestudioref45_Fit.l0 : Nat → List (S52) → List (List Int) → Int → ByteArray → List (S52) → Option (List Int × Int × Int)
 | 0, _, _, _, _, _ => none
 | k + 1, x1, x8, x9, x550000, x550001 => if x9 < (x1.length : Int) then (if 0 ≤ x9 then ((dancestudioref03_Valid.f ((rd_T52 x1 x9).f0) ((rd_T52 x1 x9).f1)).bind fun t557 => (if t557 = true then (dancestudioref45_Fit.l1 k x1 x8 x9 ([] : List Int) 0 x550000 x550001) else (some (([] : List Int), 0, 1)))) else (none)) else ((dancestudioref11_Solve.f k x8).bind fun bt551 => (some (bt551.1, bt551.2.1, bt551.2.2)))
def dancestudioref45_Fit.l1 : Nat → List (S52) → List (List Int) → Int → List Int → Int → ByteArray → List (S52) → Option (List Int × Int × Int)
 | 0, _, _, _, _, _, _, _ => none
 | k + 1, x1, x8, x9, x10, x11, x550000, x550001 => if x11 < (x550001.length : Int) then (if 0 ≤ x9 then (if x9 < (x1.length : Int) then (if 0 ≤ x11 then ((dancestudioref03_Dist2.f ((rd_T52 x1 x9).f0) ((rd_T52 x1 x9).f1) ((rd_T52 x550001 x11).f0) ((rd_T52 x550001 x11).f1)).bind fun bt560 => (if x10.length < 17592186044416 then (dancestudioref45_Fit.l1 k x1 x8 x9 (x10 ++ [bt560.1]) (wrap64 (x11 + 1)) x550000 x550001) else (none))) else (none)) else (none)) else (none)) else (if x8.length < 5864062014805 then (dancestudioref45_Fit.l0 k x1 (x8 ++ [x10]) (wrap64 (x9 + 1)) x550000 x550001) else (none))
end
def dancestudioref45_Fit.f (k : Nat) (a0_0 : ByteArray) (l0_1 : List (S52)) (l1 : List (S52)) : Option (List Int × Int × Int) := (dancestudioref45_Check.f k a0_0 l0_1).bind fun t550 => (if t550 = 0 then (if (l1.length : Int) = (l0_1.length : Int) then (dancestudioref45_Fit.l0 k l1 ([] : List (List Int)) 0 a0_0 l0_1) else (some (([] : List Int), 0, 2))) else (some (([] : List Int), 0, t550)))
def dancestudioref45_Fit.T16 : Bool × List (List Nat × List Nat) := (true, [([], []), ([], []), ([0, 1], [0, 1]), ([2], [2]), ([], []), ([4], [4]), ([], []), ([5, 6], [5, 6]), ([7], [7]), ([3, 8], [3, 8]), ([9], [9]), ([10], [10]), ([10], [10]), ([11, 9, 0, 1, 2, 3, 4, 5, 6, 7, 8, 9, 10, 11], [11]), ([12, 13, 0, 1, 2, 3, 4, 5, 6, 7, 8, 9, 10, 11, 12, 13], [12])])
def dancestudioref45_Fit.B16 : List Nat := [0, 0, 3, 7, 0, 16, 0, 112, 240, 511, 1023, 2047, 2047, 4095, 16383]
theorem dancestudioref45_Fit.tab16 : rtab .any (opsOf Tryd.f16 16) = dancestudioref45_Fit.T16 := by kernel_rfl
theorem dancestudioref45_Fit.bits16 : waitsOk dancestudioref45_Fit.T16.2 dancestudioref45_Fit.B16 = true := by kernel_rfl
set_option maxHeartbeats 8000000 in
set_option maxRecDepth 100000 in
theorem dancestudioref45_Fit.calls (k : Nat) (a0_0 : ByteArray) (A0_1 : Option Addr) (c0_1 : Nat) (l0_1 : List (S52)) (A1 : Option Addr) (c1 : Nat) (l1 : List (S52)) (r1 : List Int) (r2 : Int) (r3 : Int) (w : World) (hr0_1 : Kd.C k52 w A0_1 l0_1.length l0_1) (hc0_1 : l0_1.length ≤ c0_1) (hr1 : Kd.C k52 w A1 l1.length l1) (hc1 : l1.length ≤ c1) (h : dancestudioref45_Fit.f k a0_0 l0_1 l1 = some (r1, r2, r3)) :
  Calls Tryd.prog 16 #[.agg #[.string a0_0, .slice A0_1 l0_1.length c0_1], .slice A1 l1.length c1] w fun e w' => ∃ v0_ : Value, e = .returned (.tuple #[v0_, .int .i64 r2, .int .i64 r3]) ∧ Kd.R (Kd.int .i64) 3 w' w.heap.size (fun _ => True) v0_ r1 ∧ Below w.heap.size w w' := by
 have hu24 := Tryd.underlying24
 have hu52 := Tryd.underlying52
 have HR0_1 := Aside0.mk hr0_1
 have HC0_1 := Aside0.mk hc0_1
 clear hr0_1 hc0_1
 have HR1 := Aside0.mk hr1
 have HC1 := Aside0.mk hc1
 clear hr1 hc1
 have HB := Aside0.mk (Below.refl w.heap.size w)
 have H := h
 unfold dancestudioref45_Fit.f at H
 clear h
 replace H := Option.bind_eq_some_iff.mp H
 obtain ⟨t550, A30, H⟩ := H
 try dsimp only at H
 have A3 := Aside0.mk A30
 clear A30
 by_cases c4 : t550 = 0
 rotate_left
 ·
  rw [if_neg c4] at H
  have c4b0 := beq_eq_false_iff_ne.mpr c4
  have c4b1 := bne_iff_ne.mpr c4
  simp only [Option.some.injEq, Prod.mk.injEq] at H
  obtain ⟨rfl, rfl, rfl⟩ := H
  go_enter Tryd.func16, Tryd.ntmps16
  go_wp2_with (first | ((with_reducible refine gate_dst (N := 2) rfl ?_); refine box_event rfl (N := 2) rfl (cs := #[.string a0_0, .slice A0_1 l0_1.length c0_1]) (t := 24) (by first | (go_simp; done) | (go_simp; rfl)) ?_; intro gb1 hg w37 hbox hb; have BK1 := Aside0.mk hbox; have GW1 := mGw HB hg; have GE1 := GW1; replace HB := mSt HB hb; clear hb hbox hg; have hcz38 := blk_cell BK1.out; have hfz38 := blk_frozen BK1.out) | ((with_reducible refine gate_callee (f := 12) rfl ?_); refine goesL_ (some 15) rfl rfl Tryd.func12 (by kernel_rfl) rfl #[.agg #[.string a0_0, .slice A0_1 l0_1.length c0_1]] rfl (mA1 rfl) ?_; (with_reducible refine (dancestudioref45_Check.calls k a0_0 _ _ l0_1 t550 _ (Kd.C_below HR0_1.out HB.out) HC0_1.out A3.out).mono ?_); rintro e w39 ⟨rfl, hb⟩; refine ⟨_, rfl, ?_⟩; replace BK1 := mBb BK1 hb; replace HB := mSt HB hb; (try clear hb)))
  go_ret3
  exact ⟨_, rfl, by first | exact Kd.R_nil _ _ _ _ _ | exact Kd.N_nil _ _ _ _ _ | exact Kd.V_nil _ _ _ _ _ | exact Kd.Q_nil _ _ _ _ _ | exact Kd.S_nil _ _ _ _ _, HB.out⟩
 rw [if_pos c4] at H
 have c4b0 := beq_iff_eq.mpr c4
 have c4b1 := bne_eq_false_iff_eq.mpr c4
 clear c4
 by_cases c5 : (l1.length : Int) = (l0_1.length : Int)
 rotate_left
 ·
  rw [if_neg c5] at H
  have c5b0 := beq_eq_false_iff_ne.mpr c5
  have c5b1 := bne_iff_ne.mpr c5
  have c5b2 : (l1.length == l0_1.length) = false := by first | simpa using c5 | (simp at c5 ⊢; omega)
  simp only [Option.some.injEq, Prod.mk.injEq] at H
  obtain ⟨rfl, rfl, rfl⟩ := H
  go_enter Tryd.func16, Tryd.ntmps16
  go_wp2_with (first | ((with_reducible refine gate_dst (N := 2) rfl ?_); refine box_event rfl (N := 2) rfl (cs := #[.string a0_0, .slice A0_1 l0_1.length c0_1]) (t := 24) (by first | (go_simp; done) | (go_simp; rfl)) ?_; intro gb1 hg w33 hbox hb; have BK1 := Aside0.mk hbox; have GW1 := mGw HB hg; have GE1 := GW1; replace HB := mSt HB hb; clear hb hbox hg; have hcz34 := blk_cell BK1.out; have hfz34 := blk_frozen BK1.out) | ((with_reducible refine gate_callee (f := 12) rfl ?_); refine goesL_ (some 15) rfl rfl Tryd.func12 (by kernel_rfl) rfl #[.agg #[.string a0_0, .slice A0_1 l0_1.length c0_1]] rfl (mA1 rfl) ?_; (with_reducible refine (dancestudioref45_Check.calls k a0_0 _ _ l0_1 t550 _ (Kd.C_below HR0_1.out HB.out) HC0_1.out A3.out).mono ?_); rintro e w35 ⟨rfl, hb⟩; refine ⟨_, rfl, ?_⟩; replace BK1 := mBb BK1 hb; replace HB := mSt HB hb; (try clear hb); have hcz36 := blk_cell BK1.out; have hfz36 := blk_frozen BK1.out))
  go_ret3
  exact ⟨_, rfl, by first | exact Kd.R_nil _ _ _ _ _ | exact Kd.N_nil _ _ _ _ _ | exact Kd.V_nil _ _ _ _ _ | exact Kd.Q_nil _ _ _ _ _ | exact Kd.S_nil _ _ _ _ _, HB.out⟩
 rw [if_pos c5] at H
 have c5b0 := beq_iff_eq.mpr c5
 have c5b1 := bne_eq_false_iff_eq.mpr c5
 have c5b2 : (l1.length == l0_1.length) = true := by first | simpa using c5 | (simp at c5 ⊢; omega)
 clear c5
 have H' := Aside0.mk H
 clear H
 go_enter Tryd.func16, Tryd.ntmps16
 go_wp2_with (first | ((with_reducible refine gate_dst (N := 2) rfl ?_); refine box_event rfl (N := 2) rfl (cs := #[.string a0_0, .slice A0_1 l0_1.length c0_1]) (t := 24) (by first | (go_simp; done) | (go_simp; rfl)) ?_; intro gb1 hg w6 hbox hb; have BK1 := Aside0.mk hbox; have GW1 := mGw HB hg; have GE1 := GW1; replace HB := mSt HB hb; clear hb hbox hg; have hcz7 := blk_cell BK1.out; have hfz7 := blk_frozen BK1.out) | ((with_reducible refine gate_callee (f := 12) rfl ?_); refine goesL_ (some 15) rfl rfl Tryd.func12 (by kernel_rfl) rfl #[.agg #[.string a0_0, .slice A0_1 l0_1.length c0_1]] rfl (mA1 rfl) ?_; (with_reducible refine (dancestudioref45_Check.calls k a0_0 _ _ l0_1 t550 _ (Kd.C_below HR0_1.out HB.out) HC0_1.out A3.out).mono ?_); rintro e w8 ⟨rfl, hb⟩; refine ⟨_, rfl, ?_⟩; replace BK1 := mBb BK1 hb; replace HB := mSt HB hb; (try clear hb); have hcz9 := blk_cell BK1.out; have hfz9 := blk_frozen BK1.out))
 go_loopg [8, 9] k (fun kq v8 v9 w' => ∃ (x8_1 : List (List Int)) (x9_1 : Int), v9 = .int .i64 x9_1 ∧ Aside0 (dancestudioref45_Fit.l0 kq l1 x8_1 x9_1 a0_0 l0_1 = some (r1, r2, r3)) ∧ Aside0 (kq ≤ k) ∧ Aside0 (Kd.S (Kd.slice 3 (Kd.int .i64)) 29 w' w.heap.size (fun _ => True) v8 x8_1) ∧ Aside0 (w'.heap[gb1]? = some (.cells #[.string a0_0, (.slice A0_1 l0_1.length c0_1)] 24 (0, 0))) ∧ Aside0 (Below w.heap.size w w'))
 case atStart => exact ⟨(([] : List (List Int))), (0), rfl, H', ⟨Nat.le_refl _⟩, ⟨by first | exact Kd.S_nil _ _ _ _ _ | exact Kd.N_nil _ _ _ _ _ | exact Kd.V_nil _ _ _ _ _ | exact Kd.Q_nil _ _ _ _ _ | exact Kd.R_nil _ _ _ _ _⟩, ⟨BK1.out⟩, ⟨HB.out⟩⟩
 case round =>
  clear H'
  clear c4b0 c4b1 c5b0 c5b1 c5b2
  obtain ⟨x8_1, x9_1, rfl, HA, HK1, HO_8, BK1, HB⟩ := hrel
  cases gk with
  | zero => exact absurd HA.out (by simp [dancestudioref45_Fit.l0])
  | succ k1 =>
   have H := HA.out
   clear HA
   simp only [dancestudioref45_Fit.l0] at H
   by_cases c10 : x9_1 < (l1.length : Int)
   rotate_left
   ·
    rw [if_neg c10] at H
    have c10b0 := decide_eq_false c10
    clear c10
    replace H := Option.bind_eq_some_iff.mp H
    obtain ⟨⟨t551, t552, t553⟩, A300, H⟩ := H
    try dsimp only at H
    have A30 := Aside0.mk A300
    clear A300
    simp only [Option.some.injEq, Prod.mk.injEq] at H
    obtain ⟨rfl, rfl, rfl⟩ := H
    obtain ⟨Ao31, co31, eo31⟩ := Kd.S_slice HO_8.out
    subst eo31
    go_wp2_with (first | ((with_reducible refine gate_callee (f := 37) rfl ?_); refine goesL_ (some 66) rfl rfl Tryd.func37 (by kernel_rfl) rfl #[.slice Ao31 x8_1.length co31] rfl (mA1 rfl) ?_; (with_reducible refine (dancestudioref11_Solve.calls k1 _ _ x8_1 t551 t552 t553 _ ((Kd.S_reads' HO_8.out).2.2) ((Kd.S_reads' HO_8.out).2.1) A30.out).mono ?_); rintro e w32 ⟨v554, rfl, ho0, hb⟩; refine ⟨_, rfl, ?_⟩; replace HO_8 := Aside0.mk (Kd.S_elder' HO_8.out (Kd.R_base ho0) hb); have HO555 := Aside0.mk (Kd.R_lower ho0 (below_size HB.out)); replace BK1 := mBb BK1 hb; replace HB := mSt HB hb; (try clear hb); (try clear ho0)))
    go_ret3
    exact ⟨_, rfl, by exact HO555.out, HB.out⟩
   rw [if_pos c10] at H
   have c10b0 := decide_eq_true c10
   clear c10
   obtain ⟨c11, H⟩ : (0 ≤ x9_1) ∧ _ := mIf H
   have c11b0 := decide_eq_true c11
   clear c11
   replace H := Option.bind_eq_some_iff.mp H
   obtain ⟨t557, A120, H⟩ := H
   try dsimp only at H
   have A12 := Aside0.mk A120
   clear A120
   by_cases c13 : t557 = true
   rotate_left
   ·
    replace c13 := Bool.eq_false_iff.mpr c13
    subst c13
    rw [if_neg (show ¬ (false = true) by decide)] at H
    simp only [Option.some.injEq, Prod.mk.injEq] at H
    obtain ⟨rfl, rfl, rfl⟩ := H
    have p556 : 0 ≤ (x9_1 : Int) := of_decide_eq_true (by assumption)
    have q556 : x9_1 < (l1.length : Int) := of_decide_eq_true (by assumption)
    obtain ⟨ad556, e556, hx556_0, hx556_1⟩ := at_T52 HR1.out x9_1 p556 q556
    cases e556
    replace hx556_0 := mHx HB hx556_0
    replace hx556_1 := mHx HB hx556_1
    replace p556 := eq_true p556
    replace q556 := eq_true q556
    go_wp2_with (first | ((with_reducible refine gate_callee (f := 33) rfl ?_); refine goesL_ (some 35) rfl rfl Tryd.func33 (by kernel_rfl) rfl #[.agg #[.int .i64 ((rd_T52 l1 x9_1).f0), .int .i64 ((rd_T52 l1 x9_1).f1)]] rfl (mA1 rfl) ?_; (with_reducible refine (dancestudioref03_Valid.calls ((rd_T52 l1 x9_1).f0) ((rd_T52 l1 x9_1).f1) false _ A12.out).mono ?_); rintro e w29 ⟨rfl, hb⟩; refine ⟨_, rfl, ?_⟩; replace HO_8 := Aside0.mk (Kd.S_below HO_8.out hb); replace BK1 := mBb BK1 hb; replace HB := mSt HB hb; (try clear hb)))
    go_ret3
    exact ⟨_, rfl, by first | exact Kd.R_nil _ _ _ _ _ | exact Kd.N_nil _ _ _ _ _ | exact Kd.V_nil _ _ _ _ _ | exact Kd.Q_nil _ _ _ _ _ | exact Kd.S_nil _ _ _ _ _, HB.out⟩
   subst c13
   rw [if_pos rfl] at H
   have H' := Aside0.mk H
   clear H
   have p556 : 0 ≤ (x9_1 : Int) := of_decide_eq_true (by assumption)
   have q556 : x9_1 < (l1.length : Int) := of_decide_eq_true (by assumption)
   obtain ⟨ad556, e556, hx556_0, hx556_1⟩ := at_T52 HR1.out x9_1 p556 q556
   cases e556
   replace hx556_0 := mHx HB hx556_0
   replace hx556_1 := mHx HB hx556_1
   replace p556 := eq_true p556
   replace q556 := eq_true q556
   go_wp2_with (first | ((with_reducible refine gate_callee (f := 33) rfl ?_); refine goesL_ (some 35) rfl rfl Tryd.func33 (by kernel_rfl) rfl #[.agg #[.int .i64 ((rd_T52 l1 x9_1).f0), .int .i64 ((rd_T52 l1 x9_1).f1)]] rfl (mA1 rfl) ?_; (with_reducible refine (dancestudioref03_Valid.calls ((rd_T52 l1 x9_1).f0) ((rd_T52 l1 x9_1).f1) true _ A12.out).mono ?_); rintro e w14 ⟨rfl, hb⟩; refine ⟨_, rfl, ?_⟩; replace HO_8 := Aside0.mk (Kd.S_below HO_8.out hb); replace BK1 := mBb BK1 hb; replace HB := mSt HB hb; (try clear hb)))
   go_loopg [10, 11] k1 (fun kq v10 v11 w' => ∃ (x10_2 : List Int) (x11_2 : Int), v11 = .int .i64 x11_2 ∧ Aside0 (dancestudioref45_Fit.l1 kq l1 x8_1 x9_1 x10_2 x11_2 a0_0 l0_1 = some (r1, r2, r3)) ∧ Aside0 (kq ≤ k1) ∧ Aside0 (Kd.S (Kd.slice 3 (Kd.int .i64)) 29 w' w.heap.size (fun k_ => some k_ ≠ (v10 : Value).ownBlock) u8 x8_1) ∧ Aside0 (Kd.R (Kd.int .i64) 3 w' w.heap.size (fun _ => True) v10 x10_2) ∧ Aside0 (w'.heap[gb1]? = some (.cells #[.string a0_0, (.slice A0_1 l0_1.length c0_1)] 24 (0, 0))) ∧ Aside0 (Below w.heap.size w w'))
   case atStart => exact ⟨(([] : List Int)), (0), rfl, H', ⟨Nat.le_refl _⟩, ⟨Kd.S_mono HO_8.out (fun _ hk => (by simp [Value.ownBlock]))⟩, ⟨by first | exact Kd.R_nil _ _ _ _ _ | exact Kd.N_nil _ _ _ _ _ | exact Kd.V_nil _ _ _ _ _ | exact Kd.Q_nil _ _ _ _ _ | exact Kd.S_nil _ _ _ _ _⟩, ⟨BK1.out⟩, ⟨HB.out⟩⟩
   case round =>
    clear H'
    try clear c1; try clear p2; try clear c3; try clear c4; try clear c4b0; try clear c4b1; try clear c5; try clear c5b0; try clear c5b1; try clear c5b2; try clear p5; try clear q5; try clear hx5; try clear c10; try clear c10b0; try clear c11; try clear c11b0; try clear c12; try clear c13; try clear hcz7_0; try clear hcz7_1; try clear hcz9_0; try clear hcz9_1; try clear hfz7_0; try clear hfz7_1; try clear hfz9_0; try clear hfz9_1; try clear hx556_0; try clear hx556_1; try clear p556; try clear q556
    obtain ⟨x10_2, x11_2, rfl, HA, HK2, HO_8, HO_10, BK1, HB⟩ := hrel
    cases gk with
    | zero => exact absurd HA.out (by simp [dancestudioref45_Fit.l1])
    | succ k2 =>
     have H := HA.out
     clear HA
     simp only [dancestudioref45_Fit.l1] at H
     by_cases c15 : x11_2 < (l0_1.length : Int)
     rotate_left
     ·
      rw [if_neg c15] at H
      have c15b0 := decide_eq_false c15
      clear c15
      obtain ⟨c25, H⟩ : (x8_1.length < 5864062014805) ∧ _ := mIf H
      have LMc25 := Aside0.mk c25
      clear c25
      obtain ⟨y565, hy565⟩ : ∃ y_ : List (List Int), y_ = (x8_1 ++ [x10_2]) := ⟨_, rfl⟩
      rw [← hy565] at H
      have Ny565 := Aside0.mk hy565
      clear hy565
      have H' := Aside0.mk H
      clear H
      have hcz26 := blk_cell BK1.out; have hfz26 := blk_frozen BK1.out
      obtain ⟨Ao28, co28, eo28⟩ := Kd.R_slice HO_10.out
      subst eo28
      go_wp2_with (first | ((with_reducible refine gate_builtin (b := .append) (xs := #[.tmp 61, .tmp 63]) rfl ?_); at_builtin; refine Kd.S_append (Kd.slice 3 (Kd.int .i64)) (w0 := w) w.heap.size rfl (.tmp 61) (.tmp 63) 62 29 (.slice none 0 0) 24 rfl Tryd.underlying62 info29 rfl (by decide) (by omega) u8 x8_1 x10_2 [.slice Ao28 x10_2.length co28] (fun _ => True) (fun k_ => some k_ = (.slice Ao28 x10_2.length co28 : Value).ownBlock) rfl rfl ?aP (fun k_ hk_ => ((Kd.R_mono (ok' := fun k_ => ((fun _ => True)) k_ ∧ some k_ ≠ (u8 : Value).ownBlock) (Kd.R_apart' (HO_10.out) (Kd.S_typed HO_8.out) (by decide)) (fun k_ hk => ⟨trivial, hk.2⟩))).1 k_ hk_.symm) ?aF ?aO ?aB ?aS ?aL ?_; (case aP => exact Kd.M_row (Kd.R_mono (Kd.R_tight rfl (Kd.R_mono (ok' := fun k_ => ((fun _ => True)) k_ ∧ some k_ ≠ (u8 : Value).ownBlock) (Kd.R_apart' (HO_10.out) (Kd.S_typed HO_8.out) (by decide)) (fun k_ hk => ⟨trivial, hk.2⟩))) (fun _ h_ => h_))); (case aB => exact HB.out); (case aF => exact (fun _ _ => trivial)); (case aO => exact (by (with_reducible repeat (first | apply Kd.S_alloc | apply Kd.S_drewN | apply Kd.S_drew)); exact Kd.S_mono HO_8.out (fun k_ hk => ⟨trivial, fun e_ => hk e_⟩))); (case aS => exact (below_size HB.out)); (case aL => have := LMc25.out; omega); intro v566 w27 ho hb hg hat; rw [← Ny565.out] at ho; replace BK1 := Aside0.mk (blk_grown (g := gb1) (o := .cells #[.string a0_0, .slice A0_1 l0_1.length c0_1] 24 (0, 0)) BK1.out hg (Kd.S_ne HO_8.out BK1.out (by decide))); replace HB := Aside0.mk hb; have HO567 := Aside0.mk ho; clear HO_8 HO_10; clear ho hb hg hat))
      go_roundg k2
      case measure => have := HK1.out; have := HK2.out; omega
      case rel => exact ⟨(y565), (wrap64 (x9_1 + 1)), rfl, H', ⟨by have := HK1.out; have := HK2.out; omega⟩, HO567, ⟨BK1.out⟩, ⟨HB.out⟩⟩
     rw [if_pos c15] at H
     have c15b0 := decide_eq_true c15
     clear c15
     obtain ⟨c16, H⟩ : (0 ≤ x9_1) ∧ _ := mIf H
     have c16b0 := decide_eq_true c16
     clear c16
     obtain ⟨c17, H⟩ : (x9_1 < (l1.length : Int)) ∧ _ := mIf H
     have c17b0 := decide_eq_true c17
     clear c17
     obtain ⟨c18, H⟩ : (0 ≤ x11_2) ∧ _ := mIf H
     have c18b0 := decide_eq_true c18
     clear c18
     replace H := Option.bind_eq_some_iff.mp H
     obtain ⟨⟨t560, t561⟩, A190, H⟩ := H
     try dsimp only at H
     have A19 := Aside0.mk A190
     clear A190
     obtain ⟨c20, H⟩ : (x10_2.length < 17592186044416) ∧ _ := mIf H
     have LMc20 := Aside0.mk c20
     clear c20
     obtain ⟨y562, hy562⟩ : ∃ y_ : List Int, y_ = (x10_2 ++ [t560]) := ⟨_, rfl⟩
     rw [← hy562] at H
     have Ny562 := Aside0.mk hy562
     clear hy562
     have H' := Aside0.mk H
     clear H
     have hcz21 := blk_cell BK1.out; have hfz21 := blk_frozen BK1.out
     try go_wp2
     replace HO_8 := Aside0.mk (Kd.S_drew HO_8.out); replace HO_10 := Aside0.mk (Kd.R_drew HO_10.out); replace BK1 := Aside0.mk (blk_drew BK1.out); replace HB := Aside0.mk (below_drew1 HB.out)
     have p558 : 0 ≤ (x9_1 : Int) := of_decide_eq_true (by assumption)
     have q558 : x9_1 < (l1.length : Int) := of_decide_eq_true (by assumption)
     obtain ⟨ad558, e558, hx558_0, hx558_1⟩ := at_T52 HR1.out x9_1 p558 q558
     have hw558_1 := hx558_1
     have hw558_0 := hx558_0
     obtain rfl : ad556 = ad558 := (by injection e558)
     replace hx558_0 := mHx HB hx558_0
     replace hx558_1 := mHx HB hx558_1
     replace p558 := eq_true p558
     replace q558 := eq_true q558
     have p559 : 0 ≤ (x11_2 : Int) := of_decide_eq_true (by assumption)
     have q559 : x11_2 < (l0_1.length : Int) := of_decide_eq_true (by assumption)
     obtain ⟨ad559, e559, hx559_0, hx559_1⟩ := at_T52 HR0_1.out x11_2 p559 q559
     have hw559_1 := hx559_1
     have hw559_0 := hx559_0
     cases e559
     replace hx559_0 := mHx HB hx559_0
     replace hx559_1 := mHx HB hx559_1
     replace p559 := eq_true p559
     replace q559 := eq_true q559
     refine start_ (n := 15) (S := fun w' => w'.cell? ⟨gb1, 0, none⟩ = some (.string a0_0) ∧ w'.cell? ⟨gb1, 1, none⟩ = some (.slice (some ad559) l0_1.length c0_1) ∧ w'.cell? (ad556.add ((x9_1).toNat * 2)) = some (.int .i64 ((rd_T52 l1 x9_1).f0)) ∧ w'.cell? ⟨(ad556.add ((x9_1).toNat * 2)).block, (ad556.add ((x9_1).toNat * 2)).off + 1, none⟩ = some (.int .i64 ((rd_T52 l1 x9_1).f1)) ∧ w'.cell? (ad559.add ((x11_2).toNat * 2)) = some (.int .i64 ((rd_T52 l0_1 x11_2).f0)) ∧ w'.cell? ⟨(ad559.add ((x11_2).toNat * 2)).block, (ad559.add ((x11_2).toNat * 2)).off + 1, none⟩ = some (.int .i64 ((rd_T52 l0_1 x11_2).f1))) (ds := []) #[false, false, false, false, false, false, false, false, false, false, false, false, false, false, false] (by kernel_rfl) rfl rfl ⟨(blk_cell BK1.out 0).trans rfl, (blk_cell BK1.out 1).trans rfl, ((HB.out.cell (World.block_lt_of_cell? w _ hw558_0)).trans hw558_0), ((HB.out.cell (World.block_lt_of_cell? w _ hw558_1)).trans hw558_1), ((HB.out.cell (World.block_lt_of_cell? w _ hw559_0)).trans hw559_0), ((HB.out.cell (World.block_lt_of_cell? w _ hw559_1)).trans hw559_1)⟩ (fun hHeld => ?_); refine with_tabW dancestudioref45_Fit.tab16 dancestudioref45_Fit.bits16 (fun HT_ HW_ => ?_)
     generalize wr.drew = w22 at HO_8 HO_10 BK1 HB hx558_0 hx558_1 hx559_0 hx559_1 hHeld ⊢
     refine pM 0 45 HT_ ?_
     refine pM 1 46 HT_ ?_
     refine pM 2 47 HT_ ?_
     refine pM 4 49 HT_ ?_
     refine pM 6 51 HT_ ?_
     refine tM 3 48 rfl HT_ HW_ (by rintro w' ⟨s0, s1, s2, s3, s4, s5⟩; go_simp; with_reducible rfl) hHeld ?_
     refine tM 5 50 rfl HT_ HW_ (by rintro w' ⟨s0, s1, s2, s3, s4, s5⟩; go_simp; with_reducible rfl) hHeld ?_
     refine pM 7 52 HT_ ?_
     refine tM 8 53 rfl HT_ HW_ (by rintro w' ⟨s0, s1, s2, s3, s4, s5⟩; go_simp; with_reducible rfl) hHeld ?_
     refine one_ (i := 9) (N := some 54) #[true, true, true, true, true, true, true, true, true, true, false, false, false, false, false] rfl rfl (one_of HT_.out (by kernel_rfl)) (by decide) (fun K hK => ?_)
     refine goes_ Tryd.func36 (by kernel_rfl) rfl #[.agg #[.int .i64 ((rd_T52 l1 x9_1).f0), .int .i64 ((rd_T52 l1 x9_1).f1)], .agg #[.int .i64 ((rd_T52 l0_1 x11_2).f0), .int .i64 ((rd_T52 l0_1 x11_2).f1)]] (by rfl) rfl rfl (by (try simp only [List.map_toArray, List.map_cons, List.map_nil]); first | done | rfl | (simp only [List.length_drop, List.length_take]; rfl)) ?_
     with_reducible refine (dancestudioref03_Dist2.calls ((rd_T52 l1 x9_1).f0) ((rd_T52 l1 x9_1).f1) ((rd_T52 l0_1 x11_2).f0) ((rd_T52 l0_1 x11_2).f1) t560 t561 _ A19.out).mono ?_
     rintro e w23 ⟨rfl, hb⟩
     refine ⟨_, rfl, ?_⟩
     replace HO_8 := Aside0.mk (Kd.S_below HO_8.out hb); replace HO_10 := Aside0.mk (Kd.R_below HO_10.out hb); replace BK1 := mBb BK1 hb; replace HB := mSt HB hb
     (try clear hb)
     (try clear hb2)
     (try clear hk)
     (try clear hi)
     refine hK.out _ _ ⟨blk_cell BK1.out 0, blk_cell BK1.out 1, ((HB.out.cell (World.block_lt_of_cell? w _ hw558_0)).trans hw558_0), ((HB.out.cell (World.block_lt_of_cell? w _ hw558_1)).trans hw558_1), ((HB.out.cell (World.block_lt_of_cell? w _ hw559_0)).trans hw559_0), ((HB.out.cell (World.block_lt_of_cell? w _ hw559_1)).trans hw559_1)⟩ (fun hHeld => ?_)
     clear hK K
     refine norm_ (by show Act.put _ (some 54) _ = _; simp only [mP]; rfl) ?_
     refine pM 10 44 HT_ ?_
     refine pM 11 55 HT_ ?_
     refine pM 12 56 HT_ ?_
     refine pM 13 12 HT_ ?_
     refine pM 14 13 HT_ ?_
     refine done_ (done_of HT_.out (by kernel_rfl)) ?_
     try go_wp2_with (first | ((with_reducible refine gate_builtin (b := .append) (xs := #[.tmp 57, .tmp 59]) rfl ?_); at_builtin; refine Kd.R_append (Kd.int .i64) (w0 := w) w.heap.size rfl (.tmp 57) (.tmp 59) 29 3 (.int .i64 0) 8 rfl Tryd.underlying29 info3 rfl (by decide) (by omega) u10 x10_2 t560 [.int .i64 t560] (fun _ => True) (fun _ => False) rfl rfl ?aP (fun _ hk => hk.elim) ?aF ?aO ?aB ?aS ?aL ?_; (case aP => exact rfl); (case aB => exact HB.out); (case aF => exact (fun _ _ => trivial)); (case aO => exact HO_10.out); (case aS => exact (below_size HB.out)); (case aL => have := LMc20.out; omega); intro v563 w24 ho hb hg hat; rw [← Ny562.out] at ho; replace HO_8 := Aside0.mk (Kd.S_after (ok := (fun _ => True)) (by (with_reducible repeat (first | apply Kd.S_alloc | apply Kd.S_drewN | apply Kd.S_drew)); exact Kd.S_mono HO_8.out (fun _ hk => ⟨trivial, hk⟩)) hg hat); replace BK1 := Aside0.mk (blk_grown (g := gb1) (o := .cells #[.string a0_0, .slice (some ad559) l0_1.length c0_1] 24 (0, 0)) BK1.out hg (Kd.R_ne HO_10.out BK1.out (by decide))); replace HB := Aside0.mk hb; have HO564 := Aside0.mk ho; clear HO_10; clear ho hb hg hat))
     go_roundg k2
     case measure => have := HK1.out; have := HK2.out; omega
     case rel => exact ⟨(y562), (wrap64 (x11_2 + 1)), rfl, H', ⟨by have := HK1.out; have := HK2.out; omega⟩, ⟨Kd.S_mono HO_8.out (fun _ hk => hk.2)⟩, HO564, ⟨BK1.out⟩, ⟨HB.out⟩⟩
end Go.Proofs.YtaggccbndmmbhaaDoor.PAll
