-- Written by wip/tools/handprint.py: walks of the functions that the law reaches; Lean checks them.
import Derived.Test.YtaggccbndmmbhaaDoorBase
import Derived.Test.YtaggccbndmmbhaaDoorPAllf32
namespace Go.Proofs.YtaggccbndmmbhaaDoor.PAll
open Go.RowKit Go.Proofs.YtaggccbndmmbhaaDoorW.PrintWords Go.Proofs.YtaggccbndmmbhaaDoorW.PrintLast Go.Proofs.YtaggccbndmmbhaaDoorW.PrintMore
attribute [local go_sem] max2_int min2_int max_two min_two max_three min_three max_four min_four   -- for this text's walks alone
set_option linter.unusedVariables false
set_option linter.unusedSimpArgs false
attribute [local go_sem high] eqA52

/-! ### dancestudioref45_Check: function 12 -/
mutual
def dancestudioref45_Check.l0 : Nat → Int → ByteArray → List (S52) → Option (Int)
 | 0, _, _, _ => none
 | k + 1, x3, x119000, x119001 => if x3 < (x119001.length : Int) then (if 0 ≤ x3 then ((dancestudioref03_Valid.f ((rd_T52 x119001 x3).f0) ((rd_T52 x119001 x3).f1)).bind fun t121 => (if t121 = true then (dancestudioref45_Check.l0 k (wrap64 (x3 + 1)) x119000 x119001) else (some 1))) else (none)) else (dancestudioref45_Check.l1 k 0 x119000 x119001)
def dancestudioref45_Check.l1 : Nat → Int → ByteArray → List (S52) → Option (Int)
 | 0, _, _, _ => none
 | k + 1, x4, x119000, x119001 => if x4 < (x119001.length : Int) then (dancestudioref45_Check.l2 k x4 0 x119000 x119001) else (some 0)
def dancestudioref45_Check.l2 : Nat → Int → Int → ByteArray → List (S52) → Option (Int)
 | 0, _, _, _, _ => none
 | k + 1, x4, x5, x119000, x119001 => if x5 < x4 then (if 0 ≤ x4 then (if x4 < (x119001.length : Int) then (if 0 ≤ x5 then (if x5 < (x119001.length : Int) then (if (((rd_T52 x119001 x4).f0) == ((rd_T52 x119001 x5).f0) && (((rd_T52 x119001 x4).f1) == ((rd_T52 x119001 x5).f1))) = true then (some 7) else (dancestudioref45_Check.l2 k x4 (wrap64 (x5 + 1)) x119000 x119001)) else (none)) else (none)) else (none)) else (none)) else (dancestudioref45_Check.l1 k (wrap64 (x4 + 1)) x119000 x119001)
end
def dancestudioref45_Check.f (k : Nat) (a0_0 : ByteArray) (l0_1 : List (S52)) : Option (Int) := (dancestudioref05_Valid.f k a0_0).bind fun t119 => (if t119 = true then (if (l0_1.length : Int) = 0 then (some 4) else (if (l0_1.length : Int) > 16 then (some 3) else (dancestudioref45_Check.l0 k 0 a0_0 l0_1))) else (some 8))
set_option maxHeartbeats 8000000 in
set_option maxRecDepth 100000 in
theorem dancestudioref45_Check.calls (k : Nat) (a0_0 : ByteArray) (A0_1 : Option Addr) (c0_1 : Nat) (l0_1 : List (S52)) (r : Int) (w : World) (hr0_1 : Kd.C k52 w A0_1 l0_1.length l0_1) (hc0_1 : l0_1.length ≤ c0_1) (h : dancestudioref45_Check.f k a0_0 l0_1 = some r) :
  Calls Tryd.prog 12 #[.agg #[.string a0_0, .slice A0_1 l0_1.length c0_1]] w fun e w' => e = .returned (.int .i64 r) ∧ Below w.heap.size w w' := by
 have hu24 := Tryd.underlying24
 have hu52 := Tryd.underlying52
 have HR0_1 := Aside0.mk hr0_1
 have HC0_1 := Aside0.mk hc0_1
 clear hr0_1 hc0_1
 have HB := Aside0.mk (Below.refl w.heap.size w)
 have H := h
 unfold dancestudioref45_Check.f at H
 clear h
 replace H := Option.bind_eq_some_iff.mp H
 obtain ⟨t119, A20, H⟩ := H
 try dsimp only at H
 have A2 := Aside0.mk A20
 clear A20
 by_cases c3 : t119 = true
 rotate_left
 ·
  replace c3 := Bool.eq_false_iff.mpr c3
  subst c3
  rw [if_neg (show ¬ (false = true) by decide)] at H
  obtain rfl := Option.some.inj H
  go_enter Tryd.func12, Tryd.ntmps12
  go_wp2_with (first | ((with_reducible refine gate_dst (N := 1) rfl ?_); refine box_event rfl (N := 1) rfl (cs := #[.string a0_0, .slice A0_1 l0_1.length c0_1]) (t := 24) (by first | (go_simp; done) | (go_simp; rfl)) ?_; intro gb1 hg w32 hbox hb; have BK1 := Aside0.mk hbox; have GW1 := mGw HB hg; have GE1 := GW1; replace HB := mSt HB hb; clear hb hbox hg; have hcz33 := blk_cell BK1.out; have hfz33 := blk_frozen BK1.out) | (go_at_call 32; (with_reducible refine (dancestudioref05_Valid.calls k a0_0 false _ A2.out).mono ?_); rintro e w' ⟨rfl, ⟨nd, rfl⟩⟩; (try first | exact ⟨rfl, _, World.drewN_drewN _ _ _⟩ | exact ⟨rfl, _, Eq.trans (World.drewN_drewN _ _ _) (congrArg (World.drewN _) (Nat.add_assoc _ _ _))⟩)))
  repeat (go_quiet (first | (go_at_call 32; (with_reducible refine (dancestudioref05_Valid.calls k a0_0 false _ A2.out).mono ?_); rintro e w' ⟨rfl, ⟨nd, rfl⟩⟩; (try first | exact ⟨rfl, _, World.drewN_drewN _ _ _⟩ | exact ⟨rfl, _, Eq.trans (World.drewN_drewN _ _ _) (congrArg (World.drewN _) (Nat.add_assoc _ _ _))⟩))); try go_wp2_with (first | (go_at_call 32; (with_reducible refine (dancestudioref05_Valid.calls k a0_0 false _ A2.out).mono ?_); rintro e w' ⟨rfl, ⟨nd, rfl⟩⟩; (try first | exact ⟨rfl, _, World.drewN_drewN _ _ _⟩ | exact ⟨rfl, _, Eq.trans (World.drewN_drewN _ _ _) (congrArg (World.drewN _) (Nat.add_assoc _ _ _))⟩))))
  go_ret
  exact ⟨rfl, hO HB⟩
 subst c3
 rw [if_pos rfl] at H
 by_cases c4 : (l0_1.length : Int) = 0
 ·
  rw [if_pos c4] at H
  have c4b0 := beq_iff_eq.mpr c4
  have c4b1 := bne_eq_false_iff_eq.mpr c4
  clear c4
  obtain rfl := Option.some.inj H
  go_enter Tryd.func12, Tryd.ntmps12
  go_wp2_with (first | ((with_reducible refine gate_dst (N := 1) rfl ?_); refine box_event rfl (N := 1) rfl (cs := #[.string a0_0, .slice A0_1 l0_1.length c0_1]) (t := 24) (by first | (go_simp; done) | (go_simp; rfl)) ?_; intro gb1 hg w5 hbox hb; have BK1 := Aside0.mk hbox; have GW1 := mGw HB hg; have GE1 := GW1; replace HB := mSt HB hb; clear hb hbox hg; have hcz6 := blk_cell BK1.out; have hfz6 := blk_frozen BK1.out) | (go_at_call 32; (with_reducible refine (dancestudioref05_Valid.calls k a0_0 true _ A2.out).mono ?_); rintro e w' ⟨rfl, ⟨nd, rfl⟩⟩; (try first | exact ⟨rfl, _, World.drewN_drewN _ _ _⟩ | exact ⟨rfl, _, Eq.trans (World.drewN_drewN _ _ _) (congrArg (World.drewN _) (Nat.add_assoc _ _ _))⟩)))
  repeat (go_quiet (first | (go_at_call 32; (with_reducible refine (dancestudioref05_Valid.calls k a0_0 true _ A2.out).mono ?_); rintro e w' ⟨rfl, ⟨nd, rfl⟩⟩; (try first | exact ⟨rfl, _, World.drewN_drewN _ _ _⟩ | exact ⟨rfl, _, Eq.trans (World.drewN_drewN _ _ _) (congrArg (World.drewN _) (Nat.add_assoc _ _ _))⟩))); try go_wp2_with (first | (go_at_call 32; (with_reducible refine (dancestudioref05_Valid.calls k a0_0 true _ A2.out).mono ?_); rintro e w' ⟨rfl, ⟨nd, rfl⟩⟩; (try first | exact ⟨rfl, _, World.drewN_drewN _ _ _⟩ | exact ⟨rfl, _, Eq.trans (World.drewN_drewN _ _ _) (congrArg (World.drewN _) (Nat.add_assoc _ _ _))⟩))))
  go_ret
  exact ⟨rfl, hO HB⟩
 rw [if_neg c4] at H
 have c4b0 := beq_eq_false_iff_ne.mpr c4
 have c4b1 := bne_iff_ne.mpr c4
 have c4b2 : ¬ (l0_1 = []) := fun h_ => c4 (by rw [h_]; rfl)
 by_cases c7 : (l0_1.length : Int) > 16
 ·
  rw [if_pos c7] at H
  have c7b0 := decide_eq_true c7
  have c7b1 : decide (16 < l0_1.length) = true := decide_eq_true (by omega)
  clear c7
  obtain rfl := Option.some.inj H
  go_enter Tryd.func12, Tryd.ntmps12
  go_wp2_with (first | ((with_reducible refine gate_dst (N := 1) rfl ?_); refine box_event rfl (N := 1) rfl (cs := #[.string a0_0, .slice A0_1 l0_1.length c0_1]) (t := 24) (by first | (go_simp; done) | (go_simp; rfl)) ?_; intro gb1 hg w8 hbox hb; have BK1 := Aside0.mk hbox; have GW1 := mGw HB hg; have GE1 := GW1; replace HB := mSt HB hb; clear hb hbox hg; have hcz9 := blk_cell BK1.out; have hfz9 := blk_frozen BK1.out) | (go_at_call 32; (with_reducible refine (dancestudioref05_Valid.calls k a0_0 true _ A2.out).mono ?_); rintro e w' ⟨rfl, ⟨nd, rfl⟩⟩; (try first | exact ⟨rfl, _, World.drewN_drewN _ _ _⟩ | exact ⟨rfl, _, Eq.trans (World.drewN_drewN _ _ _) (congrArg (World.drewN _) (Nat.add_assoc _ _ _))⟩)))
  repeat (go_quiet (first | (go_at_call 32; (with_reducible refine (dancestudioref05_Valid.calls k a0_0 true _ A2.out).mono ?_); rintro e w' ⟨rfl, ⟨nd, rfl⟩⟩; (try first | exact ⟨rfl, _, World.drewN_drewN _ _ _⟩ | exact ⟨rfl, _, Eq.trans (World.drewN_drewN _ _ _) (congrArg (World.drewN _) (Nat.add_assoc _ _ _))⟩))); try go_wp2_with (first | (go_at_call 32; (with_reducible refine (dancestudioref05_Valid.calls k a0_0 true _ A2.out).mono ?_); rintro e w' ⟨rfl, ⟨nd, rfl⟩⟩; (try first | exact ⟨rfl, _, World.drewN_drewN _ _ _⟩ | exact ⟨rfl, _, Eq.trans (World.drewN_drewN _ _ _) (congrArg (World.drewN _) (Nat.add_assoc _ _ _))⟩))))
  go_ret
  exact ⟨rfl, hO HB⟩
 rw [if_neg c7] at H
 have c7b0 := decide_eq_false c7
 have c7b1 : decide (16 < l0_1.length) = false := decide_eq_false (by omega)
 clear c7
 have H' := Aside0.mk H
 clear H
 go_enter Tryd.func12, Tryd.ntmps12
 go_wp2_with (first | ((with_reducible refine gate_dst (N := 1) rfl ?_); refine box_event rfl (N := 1) rfl (cs := #[.string a0_0, .slice A0_1 l0_1.length c0_1]) (t := 24) (by first | (go_simp; done) | (go_simp; rfl)) ?_; intro gb1 hg w10 hbox hb; have BK1 := Aside0.mk hbox; have GW1 := mGw HB hg; have GE1 := GW1; replace HB := mSt HB hb; clear hb hbox hg; have hcz11 := blk_cell BK1.out; have hfz11 := blk_frozen BK1.out) | (go_at_call 32; (with_reducible refine (dancestudioref05_Valid.calls k a0_0 true _ A2.out).mono ?_); rintro e w' ⟨rfl, ⟨nd, rfl⟩⟩; (try first | exact ⟨rfl, _, World.drewN_drewN _ _ _⟩ | exact ⟨rfl, _, Eq.trans (World.drewN_drewN _ _ _) (congrArg (World.drewN _) (Nat.add_assoc _ _ _))⟩)))
 repeat (go_quiet (first | (go_at_call 32; (with_reducible refine (dancestudioref05_Valid.calls k a0_0 true _ A2.out).mono ?_); rintro e w' ⟨rfl, ⟨nd, rfl⟩⟩; (try first | exact ⟨rfl, _, World.drewN_drewN _ _ _⟩ | exact ⟨rfl, _, Eq.trans (World.drewN_drewN _ _ _) (congrArg (World.drewN _) (Nat.add_assoc _ _ _))⟩))); try go_wp2_with (first | (go_at_call 32; (with_reducible refine (dancestudioref05_Valid.calls k a0_0 true _ A2.out).mono ?_); rintro e w' ⟨rfl, ⟨nd, rfl⟩⟩; (try first | exact ⟨rfl, _, World.drewN_drewN _ _ _⟩ | exact ⟨rfl, _, Eq.trans (World.drewN_drewN _ _ _) (congrArg (World.drewN _) (Nat.add_assoc _ _ _))⟩))))
 go_loopg [3] k (fun kq v3 w' => ∃ (x3_1 : Int), v3 = .int .i64 x3_1 ∧ Aside0 (dancestudioref45_Check.l0 kq x3_1 a0_0 l0_1 = some r) ∧ Aside0 (kq ≤ k) ∧ Aside0 (w'.heap[gb1]? = some (.cells #[.string a0_0, (.slice A0_1 l0_1.length c0_1)] 24 (0, 0))) ∧ Aside0 (Below w.heap.size w w'))
 case atStart => exact ⟨(0), rfl, H', ⟨Nat.le_refl _⟩, ⟨BK1.out⟩, ⟨hO HB⟩⟩
 case round =>
  clear H'
  try clear c1; try clear p2; try clear c3; try clear c4; try clear c4b0; try clear c4b1; try clear c4b2; try clear c7; try clear c7b0; try clear c7b1; try clear hcz11_0; try clear hcz11_1; try clear hcz6_0; try clear hcz6_1; try clear hcz9_0; try clear hcz9_1; try clear hfz11_0; try clear hfz11_1; try clear hfz6_0; try clear hfz6_1; try clear hfz9_0; try clear hfz9_1
  obtain ⟨x3_1, rfl, HA, HK1, BK1, HB⟩ := hrel
  cases gk with
  | zero => exact absurd HA.out (by simp [dancestudioref45_Check.l0])
  | succ k1 =>
   have H := HA.out
   clear HA
   simp only [dancestudioref45_Check.l0] at H
   by_cases c12 : x3_1 < (l0_1.length : Int)
   ·
    rw [if_pos c12] at H
    have c12b0 := decide_eq_true c12
    clear c12
    obtain ⟨c13, H⟩ : (0 ≤ x3_1) ∧ _ := mIf H
    have c13b0 := decide_eq_true c13
    clear c13
    replace H := Option.bind_eq_some_iff.mp H
    obtain ⟨t121, A140, H⟩ := H
    try dsimp only at H
    have A14 := Aside0.mk A140
    clear A140
    by_cases c15 : t121 = true
    rotate_left
    ·
     replace c15 := Bool.eq_false_iff.mpr c15
     subst c15
     rw [if_neg (show ¬ (false = true) by decide)] at H
     obtain rfl := Option.some.inj H
     have hcz18 := blk_cell BK1.out; have hfz18 := blk_frozen BK1.out
     have p120 : 0 ≤ (x3_1 : Int) := of_decide_eq_true (by assumption)
     have q120 : x3_1 < (l0_1.length : Int) := of_decide_eq_true (by assumption)
     obtain ⟨ad120, e120, hx120_0, hx120_1⟩ := at_T52 HR0_1.out x3_1 p120 q120
     cases e120
     replace hx120_0 := mHx HB hx120_0
     replace hx120_1 := mHx HB hx120_1
     replace p120 := eq_true p120
     replace q120 := eq_true q120
     go_wp2_with (first | (go_at_call 33; (with_reducible refine (dancestudioref03_Valid.calls ((rd_T52 l0_1 x3_1).f0) ((rd_T52 l0_1 x3_1).f1) false _ A14.out).mono ?_); rintro e w19 ⟨rfl, hb⟩; replace BK1 := mBb BK1 hb; replace HB := mSt HB hb; (try clear hb)))
     repeat (go_quiet (first | (go_at_call 33; (with_reducible refine (dancestudioref03_Valid.calls ((rd_T52 l0_1 x3_1).f0) ((rd_T52 l0_1 x3_1).f1) false _ A14.out).mono ?_); rintro e w19 ⟨rfl, hb⟩; replace BK1 := mBb BK1 hb; replace HB := mSt HB hb; (try clear hb))); try go_wp2_with (first | (go_at_call 33; (with_reducible refine (dancestudioref03_Valid.calls ((rd_T52 l0_1 x3_1).f0) ((rd_T52 l0_1 x3_1).f1) false _ A14.out).mono ?_); rintro e w19 ⟨rfl, hb⟩; replace BK1 := mBb BK1 hb; replace HB := mSt HB hb; (try clear hb))))
     go_ret
     exact ⟨rfl, HB.out⟩
    subst c15
    rw [if_pos rfl] at H
    have H' := Aside0.mk H
    clear H
    have hcz16 := blk_cell BK1.out; have hfz16 := blk_frozen BK1.out
    have p120 : 0 ≤ (x3_1 : Int) := of_decide_eq_true (by assumption)
    have q120 : x3_1 < (l0_1.length : Int) := of_decide_eq_true (by assumption)
    obtain ⟨ad120, e120, hx120_0, hx120_1⟩ := at_T52 HR0_1.out x3_1 p120 q120
    cases e120
    replace hx120_0 := mHx HB hx120_0
    replace hx120_1 := mHx HB hx120_1
    replace p120 := eq_true p120
    replace q120 := eq_true q120
    go_wp2_with (first | (go_at_call 33; (with_reducible refine (dancestudioref03_Valid.calls ((rd_T52 l0_1 x3_1).f0) ((rd_T52 l0_1 x3_1).f1) true _ A14.out).mono ?_); rintro e w17 ⟨rfl, hb⟩; replace BK1 := mBb BK1 hb; replace HB := mSt HB hb; (try clear hb)))
    repeat (go_quiet (first | (go_at_call 33; (with_reducible refine (dancestudioref03_Valid.calls ((rd_T52 l0_1 x3_1).f0) ((rd_T52 l0_1 x3_1).f1) true _ A14.out).mono ?_); rintro e w17 ⟨rfl, hb⟩; replace BK1 := mBb BK1 hb; replace HB := mSt HB hb; (try clear hb))); try go_wp2_with (first | (go_at_call 33; (with_reducible refine (dancestudioref03_Valid.calls ((rd_T52 l0_1 x3_1).f0) ((rd_T52 l0_1 x3_1).f1) true _ A14.out).mono ?_); rintro e w17 ⟨rfl, hb⟩; replace BK1 := mBb BK1 hb; replace HB := mSt HB hb; (try clear hb))))
    go_roundg k1
    case measure => have := HK1.out; omega
    case rel => exact ⟨(wrap64 (x3_1 + 1)), rfl, H', ⟨by have := HK1.out; omega⟩, ⟨BK1.out⟩, ⟨HB.out⟩⟩
   rw [if_neg c12] at H
   have c12b0 := decide_eq_false c12
   clear c12
   have H' := Aside0.mk H
   clear H
   have hcz20 := blk_cell BK1.out; have hfz20 := blk_frozen BK1.out
   go_wp2
   repeat (go_quiet (fail); try go_wp2)
   go_loopg [4] k1 (fun kq v4 w' => ∃ (x4_2 : Int), v4 = .int .i64 x4_2 ∧ Aside0 (dancestudioref45_Check.l1 kq x4_2 a0_0 l0_1 = some r) ∧ Aside0 (kq ≤ k1) ∧ Aside0 (w'.heap[gb1]? = some (.cells #[.string a0_0, (.slice A0_1 l0_1.length c0_1)] 24 (0, 0))) ∧ Aside0 (Below w.heap.size w w'))
   case atStart => exact ⟨(0), rfl, H', ⟨Nat.le_refl _⟩, ⟨BK1.out⟩, ⟨HB.out⟩⟩
   case round =>
    clear H'
    clear c12b0
    obtain ⟨x4_2, rfl, HA, HK2, BK1, HB⟩ := hrel
    cases gk with
    | zero => exact absurd HA.out (by simp [dancestudioref45_Check.l1])
    | succ k2 =>
     have H := HA.out
     clear HA
     simp only [dancestudioref45_Check.l1] at H
     by_cases c21 : x4_2 < (l0_1.length : Int)
     rotate_left
     ·
      rw [if_neg c21] at H
      have c21b0 := decide_eq_false c21
      clear c21
      obtain rfl := Option.some.inj H
      have hcz31 := blk_cell BK1.out; have hfz31 := blk_frozen BK1.out
      go_wp2
      repeat (go_quiet (fail); try go_wp2)
      go_ret
      exact ⟨rfl, HB.out⟩
     rw [if_pos c21] at H
     have c21b0 := decide_eq_true c21
     clear c21
     have H' := Aside0.mk H
     clear H
     have hcz22 := blk_cell BK1.out; have hfz22 := blk_frozen BK1.out
     go_wp2
     repeat (go_quiet (fail); try go_wp2)
     go_loopg [5] k2 (fun kq v5 w' => ∃ (x5_3 : Int), v5 = .int .i64 x5_3 ∧ Aside0 (dancestudioref45_Check.l2 kq x4_2 x5_3 a0_0 l0_1 = some r) ∧ Aside0 (kq ≤ k2) ∧ Aside0 (w'.heap[gb1]? = some (.cells #[.string a0_0, (.slice A0_1 l0_1.length c0_1)] 24 (0, 0))) ∧ Aside0 (Below w.heap.size w w'))
     case atStart => exact ⟨(0), rfl, H', ⟨Nat.le_refl _⟩, ⟨BK1.out⟩, ⟨HB.out⟩⟩
     case round =>
      clear H'
      clear c21b0
      obtain ⟨x5_3, rfl, HA, HK3, BK1, HB⟩ := hrel
      cases gk with
      | zero => exact absurd HA.out (by simp [dancestudioref45_Check.l2])
      | succ k3 =>
       have H := HA.out
       clear HA
       simp only [dancestudioref45_Check.l2] at H
       by_cases c23 : x5_3 < x4_2
       rotate_left
       ·
        rw [if_neg c23] at H
        have c23b0 := decide_eq_false c23
        clear c23
        have H' := Aside0.mk H
        clear H
        go_wp2
        repeat (go_quiet (fail); try go_wp2)
        go_roundg k3
        case measure => have := HK1.out; have := HK2.out; have := HK3.out; omega
        case rel => exact ⟨(wrap64 (x4_2 + 1)), rfl, H', ⟨by have := HK1.out; have := HK2.out; have := HK3.out; omega⟩, ⟨BK1.out⟩, ⟨HB.out⟩⟩
       rw [if_pos c23] at H
       have c23b0 := decide_eq_true c23
       clear c23
       obtain ⟨c24, H⟩ : (0 ≤ x4_2) ∧ _ := mIf H
       have c24b0 := decide_eq_true c24
       clear c24
       obtain ⟨c25, H⟩ : (x4_2 < (l0_1.length : Int)) ∧ _ := mIf H
       have c25b0 := decide_eq_true c25
       clear c25
       obtain ⟨c26, H⟩ : (0 ≤ x5_3) ∧ _ := mIf H
       have c26b0 := decide_eq_true c26
       clear c26
       obtain ⟨c27, H⟩ : (x5_3 < (l0_1.length : Int)) ∧ _ := mIf H
       have c27b0 := decide_eq_true c27
       clear c27
       by_cases c28 : (((rd_T52 l0_1 x4_2).f0) == ((rd_T52 l0_1 x5_3).f0) && (((rd_T52 l0_1 x4_2).f1) == ((rd_T52 l0_1 x5_3).f1))) = true
       ·
        rw [if_pos c28] at H
        have c28b0 : (((rd_T52 l0_1 x4_2).f0) == ((rd_T52 l0_1 x5_3).f0) && (((rd_T52 l0_1 x4_2).f1) == ((rd_T52 l0_1 x5_3).f1))) = true := c28
        (try (have c28b1 : decide (((rd_T52 l0_1 x4_2).f0) = ((rd_T52 l0_1 x5_3).f0) && (((rd_T52 l0_1 x4_2).f1) == ((rd_T52 l0_1 x5_3).f1))) = true := by simpa using c28))
        (try (have c28b2 : (((rd_T52 l0_1 x4_2).f0) == ((rd_T52 l0_1 x5_3).f0) && (((rd_T52 l0_1 x4_2).f1) == ((rd_T52 l0_1 x5_3).f1))) = true := by simpa using c28))
        clear c28
        obtain rfl := Option.some.inj H
        have hcz29 := blk_cell BK1.out; have hfz29 := blk_frozen BK1.out
        have p122 : 0 ≤ (x4_2 : Int) := of_decide_eq_true (by assumption)
        have q122 : x4_2 < (l0_1.length : Int) := of_decide_eq_true (by assumption)
        obtain ⟨ad122, e122, hx122_0, hx122_1⟩ := at_T52 HR0_1.out x4_2 p122 q122
        cases e122
        replace hx122_0 := mHx HB hx122_0
        replace hx122_1 := mHx HB hx122_1
        replace p122 := eq_true p122
        replace q122 := eq_true q122
        have p123 : 0 ≤ (x5_3 : Int) := of_decide_eq_true (by assumption)
        have q123 : x5_3 < (l0_1.length : Int) := of_decide_eq_true (by assumption)
        obtain ⟨ad123, e123, hx123_0, hx123_1⟩ := at_T52 HR0_1.out x5_3 p123 q123
        obtain rfl : ad122 = ad123 := (by injection e123)
        replace hx123_0 := mHx HB hx123_0
        replace hx123_1 := mHx HB hx123_1
        replace p123 := eq_true p123
        replace q123 := eq_true q123
        go_wp2
        repeat (go_quiet (fail); try go_wp2)
        go_ret
        exact ⟨rfl, hO HB⟩
       rw [if_neg c28] at H
       have c28b0 : (((rd_T52 l0_1 x4_2).f0) == ((rd_T52 l0_1 x5_3).f0) && (((rd_T52 l0_1 x4_2).f1) == ((rd_T52 l0_1 x5_3).f1))) = false := by simpa using c28
       (try (have c28b1 : decide (((rd_T52 l0_1 x4_2).f0) = ((rd_T52 l0_1 x5_3).f0) && (((rd_T52 l0_1 x4_2).f1) == ((rd_T52 l0_1 x5_3).f1))) = false := by simpa using c28))
       (try (have c28b2 : (((rd_T52 l0_1 x4_2).f0) == ((rd_T52 l0_1 x5_3).f0) && (((rd_T52 l0_1 x4_2).f1) == ((rd_T52 l0_1 x5_3).f1))) = false := by simpa using c28))
       (try (have c28b3 : ¬ (((rd_T52 l0_1 x4_2).f0) = ((rd_T52 l0_1 x5_3).f0) && (((rd_T52 l0_1 x4_2).f1) == ((rd_T52 l0_1 x5_3).f1))) := by simpa using c28))
       clear c28
       have H' := Aside0.mk H
       clear H
       have hcz30 := blk_cell BK1.out; have hfz30 := blk_frozen BK1.out
       have p122 : 0 ≤ (x4_2 : Int) := of_decide_eq_true (by assumption)
       have q122 : x4_2 < (l0_1.length : Int) := of_decide_eq_true (by assumption)
       obtain ⟨ad122, e122, hx122_0, hx122_1⟩ := at_T52 HR0_1.out x4_2 p122 q122
       cases e122
       replace hx122_0 := mHx HB hx122_0
       replace hx122_1 := mHx HB hx122_1
       replace p122 := eq_true p122
       replace q122 := eq_true q122
       have p123 : 0 ≤ (x5_3 : Int) := of_decide_eq_true (by assumption)
       have q123 : x5_3 < (l0_1.length : Int) := of_decide_eq_true (by assumption)
       obtain ⟨ad123, e123, hx123_0, hx123_1⟩ := at_T52 HR0_1.out x5_3 p123 q123
       obtain rfl : ad122 = ad123 := (by injection e123)
       replace hx123_0 := mHx HB hx123_0
       replace hx123_1 := mHx HB hx123_1
       replace p123 := eq_true p123
       replace q123 := eq_true q123
       go_wp2
       repeat (go_quiet (fail); try go_wp2)
       go_roundg k3
       case measure => have := HK1.out; have := HK2.out; have := HK3.out; omega
       case rel => exact ⟨(wrap64 (x5_3 + 1)), rfl, H', ⟨by have := HK1.out; have := HK2.out; have := HK3.out; omega⟩, ⟨BK1.out⟩, ⟨hO HB⟩⟩
end Go.Proofs.YtaggccbndmmbhaaDoor.PAll
