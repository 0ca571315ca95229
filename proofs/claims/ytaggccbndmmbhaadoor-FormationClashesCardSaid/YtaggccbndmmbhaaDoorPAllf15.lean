-- Written by wip/tools/handprint.py: walks of the functions that the law reaches; Lean checks them.
import Derived.Test.YtaggccbndmmbhaaDoorBase
import Derived.Test.YtaggccbndmmbhaaDoorPAllf11
import Derived.Test.YtaggccbndmmbhaaDoorPAllf28
import Derived.Test.YtaggccbndmmbhaaDoorPAllf35
namespace Go.Proofs.YtaggccbndmmbhaaDoor.PAll
open Go.RowKit Go.Proofs.YtaggccbndmmbhaaDoorW.PrintWords Go.Proofs.YtaggccbndmmbhaaDoorW.PrintLast Go.Proofs.YtaggccbndmmbhaaDoorW.PrintMore
attribute [local go_sem] max2_int min2_int max_two min_two max_three min_three max_four min_four   -- for this text's walks alone
set_option linter.unusedVariables false
set_option linter.unusedSimpArgs false

/-! ### formation_Fit: function 15 -/
mutual
def formation_Fit.l0 : Nat → List (List Int) → List (S52) → Int → Int → ByteArray → List (S52) → Option (List Int × Int × Int)
 | 0, _, _, _, _, _, _ => none
 | k + 1, x8, x29, x30, x31, x259000, x259001 => if x31 < x30 then (if 0 ≤ x31 then (if x31 < (x29.length : Int) then (formation_Fit.l1 k x8 ([] : List Int) x29 x30 x31 x259001 (x259001.length : Int) 0 x259000 x259001 ((rd_T52 x29 x31).f0) ((rd_T52 x29 x31).f1)) else (none)) else (none)) else ((assign_Solve.f k x8).bind fun bt261 => (some (bt261.1, bt261.2.1, bt261.2.2)))
def formation_Fit.l1 : Nat → List (List Int) → List Int → List (S52) → Int → Int → List (S52) → Int → Int → ByteArray → List (S52) → Int → Int → Option (List Int × Int × Int)
 | 0, _, _, _, _, _, _, _, _, _, _, _, _ => none
 | k + 1, x8, x11, x29, x30, x31, x36, x37, x38, x259000, x259001, x268000, x268001 => if x38 < x37 then (if 0 ≤ x38 then (if x38 < (x36.length : Int) then ((geom_Dist2.f k x268000 x268001 ((rd_T52 x36 x38).f0) ((rd_T52 x36 x38).f1)).bind fun bt270 => (if x11.length < 17592186044416 then (formation_Fit.l1 k x8 (x11 ++ [bt270.1]) x29 x30 x31 x36 x37 (wrap64 (x38 + 1)) x259000 x259001 x268000 x268001) else (none))) else (none)) else (none)) else (if x8.length < 5864062014805 then (formation_Fit.l0 k (x8 ++ [x11]) x29 x30 (wrap64 (x31 + 1)) x259000 x259001) else (none))
end
def formation_Fit.f (k : Nat) (a0_0 : ByteArray) (l0_1 : List (S52)) (l1 : List (S52)) : Option (List Int × Int × Int) := (formation_Check.f k a0_0 l0_1).bind fun t259 => (if t259 = 0 then (if (l1.length : Int) = (l0_1.length : Int) then ((api_Point_30.f k l1).bind fun t260 => (if t260 = true then (some (([] : List Int), 0, 1)) else (formation_Fit.l0 k ([] : List (List Int)) l1 (l1.length : Int) 0 a0_0 l0_1))) else (some (([] : List Int), 0, 2))) else (some (([] : List Int), 0, t259)))
set_option maxHeartbeats 8000000 in
set_option maxRecDepth 100000 in
theorem formation_Fit.calls (k : Nat) (a0_0 : ByteArray) (A0_1 : Option Addr) (c0_1 : Nat) (l0_1 : List (S52)) (A1 : Option Addr) (c1 : Nat) (l1 : List (S52)) (r1 : List Int) (r2 : Int) (r3 : Int) (w : World) (hr0_1 : Kd.C k52 w A0_1 l0_1.length l0_1) (hc0_1 : l0_1.length ≤ c0_1) (hr1 : Kd.C k52 w A1 l1.length l1) (hc1 : l1.length ≤ c1) (hmx : Mx w) (h : formation_Fit.f k a0_0 l0_1 l1 = some (r1, r2, r3)) :
  Calls Tryd.prog 15 #[.agg #[.string a0_0, .slice A0_1 l0_1.length c0_1], .slice A1 l1.length c1] w fun e w' => ∃ v0_ : Value, e = .returned (.tuple #[v0_, .int .i64 r2, .int .i64 r3]) ∧ Kd.R (Kd.int .i64) 3 w' w.heap.size (fun _ => True) v0_ r1 ∧ Below w.heap.size w w' := by
 have HMX_ := Aside0.mk hmx
 clear hmx
 have hu24 := Tryd.underlying24
 have hu52 := Tryd.underlying52
 have HR0_1 := Aside0.mk hr0_1
 have HC0_1 := Aside0.mk hc0_1
 clear hr0_1 hc0_1
 have HR1 := Aside0.mk hr1
 have HC1 := Aside0.mk hc1
 clear hr1 hc1
 have HB := Aside0.mk (Below.refl w.heap.size w)
 have H := h
 unfold formation_Fit.f at H
 clear h
 replace H := Option.bind_eq_some_iff.mp H
 obtain ⟨t259, A30, H⟩ := H
 try dsimp only at H
 have A3 := Aside0.mk A30
 clear A30
 by_cases c4 : t259 = 0
 rotate_left
 ·
  rw [if_neg c4] at H
  have c4b0 := beq_eq_false_iff_ne.mpr c4
  have c4b1 := bne_iff_ne.mpr c4
  simp only [Option.some.injEq, Prod.mk.injEq] at H
  obtain ⟨rfl, rfl, rfl⟩ := H
  go_enter Tryd.func15, Tryd.ntmps15
  go_wp2_with (first | ((with_reducible refine gate_dst (N := 2) rfl ?_); refine box_event rfl (N := 2) rfl (cs := #[.string a0_0, .slice A0_1 l0_1.length c0_1]) (t := 24) (by first | (go_simp; done) | (go_simp; rfl)) ?_; intro gb1 hg w48 hbox hb; have BK1 := Aside0.mk hbox; have GW1 := mGw HB hg; have GE1 := GW1; replace HB := mSt HB hb; clear hb hbox hg; have hcz49 := blk_cell BK1.out; have hfz49 := blk_frozen BK1.out) | ((with_reducible refine gate_callee (f := 11) rfl ?_); refine goesL_ (some 17) rfl rfl Tryd.func11 (by kernel_rfl) rfl #[.agg #[.string a0_0, .slice A0_1 l0_1.length c0_1]] rfl (mA1 rfl) ?_; (with_reducible refine (formation_Check.calls k a0_0 _ _ l0_1 t259 _ (Kd.C_below HR0_1.out HB.out) HC0_1.out (Mx.below HMX_.out HB.out) A3.out).mono ?_); rintro e w50 ⟨rfl, hb⟩; refine ⟨_, rfl, ?_⟩; replace BK1 := mBb BK1 hb; replace HB := mSt HB hb; (try clear hb)))
  go_ret3
  exact ⟨_, rfl, by first | exact Kd.R_nil _ _ _ _ _ | exact Kd.N_nil _ _ _ _ _ | exact Kd.V_nil _ _ _ _ _ | exact Kd.Q_nil _ _ _ _ _ | exact Kd.S_nil _ _ _ _ _, HB.out⟩
 rw [if_pos c4] at H
 have c4b0 := beq_iff_eq.mpr c4
 have c4b1 := bne_eq_false_iff_eq.mpr c4
 clear c4
 by_cases c5 : (l1.length : Int) = (l0_1.length : Int)
 rotate_left
 ·
  rw [if_neg c5] at H
  have c5b0 := beq_eq_false_iff_ne.mpr c5
  have c5b1 := bne_iff_ne.mpr c5
  have c5b2 : (l1.length == l0_1.length) = false := by first | simpa using c5 | (simp at c5 ⊢; omega)
  simp only [Option.some.injEq, Prod.mk.injEq] at H
  obtain ⟨rfl, rfl, rfl⟩ := H
  go_enter Tryd.func15, Tryd.ntmps15
  go_wp2_with (first | ((with_reducible refine gate_dst (N := 2) rfl ?_); refine box_event rfl (N := 2) rfl (cs := #[.string a0_0, .slice A0_1 l0_1.length c0_1]) (t := 24) (by first | (go_simp; done) | (go_simp; rfl)) ?_; intro gb1 hg w44 hbox hb; have BK1 := Aside0.mk hbox; have GW1 := mGw HB hg; have GE1 := GW1; replace HB := mSt HB hb; clear hb hbox hg; have hcz45 := blk_cell BK1.out; have hfz45 := blk_frozen BK1.out) | ((with_reducible refine gate_callee (f := 11) rfl ?_); refine goesL_ (some 17) rfl rfl Tryd.func11 (by kernel_rfl) rfl #[.agg #[.string a0_0, .slice A0_1 l0_1.length c0_1]] rfl (mA1 rfl) ?_; (with_reducible refine (formation_Check.calls k a0_0 _ _ l0_1 t259 _ (Kd.C_below HR0_1.out HB.out) HC0_1.out (Mx.below HMX_.out HB.out) A3.out).mono ?_); rintro e w46 ⟨rfl, hb⟩; refine ⟨_, rfl, ?_⟩; replace BK1 := mBb BK1 hb; replace HB := mSt HB hb; (try clear hb); have hcz47 := blk_cell BK1.out; have hfz47 := blk_frozen BK1.out))
  go_ret3
  exact ⟨_, rfl, by first | exact Kd.R_nil _ _ _ _ _ | exact Kd.N_nil _ _ _ _ _ | exact Kd.V_nil _ _ _ _ _ | exact Kd.Q_nil _ _ _ _ _ | exact Kd.S_nil _ _ _ _ _, HB.out⟩
 rw [if_pos c5] at H
 have c5b0 := beq_iff_eq.mpr c5
 have c5b1 := bne_eq_false_iff_eq.mpr c5
 have c5b2 : (l1.length == l0_1.length) = true := by first | simpa using c5 | (simp at c5 ⊢; omega)
 clear c5
 replace H := Option.bind_eq_some_iff.mp H
 obtain ⟨t260, A60, H⟩ := H
 try dsimp only at H
 have A6 := Aside0.mk A60
 clear A60
 by_cases c7 : t260 = true
 ·
  subst c7
  rw [if_pos rfl] at H
  simp only [Option.some.injEq, Prod.mk.injEq] at H
  obtain ⟨rfl, rfl, rfl⟩ := H
  go_enter Tryd.func15, Tryd.ntmps15
  go_wp2_with (first | ((with_reducible refine gate_dst (N := 2) rfl ?_); refine box_event rfl (N := 2) rfl (cs := #[.string a0_0, .slice A0_1 l0_1.length c0_1]) (t := 24) (by first | (go_simp; done) | (go_simp; rfl)) ?_; intro gb1 hg w8 hbox hb; have BK1 := Aside0.mk hbox; have GW1 := mGw HB hg; have GE1 := GW1; replace HB := mSt HB hb; clear hb hbox hg; have hcz9 := blk_cell BK1.out; have hfz9 := blk_frozen BK1.out) | ((with_reducible refine gate_callee (f := 11) rfl ?_); refine goesL_ (some 17) rfl rfl Tryd.func11 (by kernel_rfl) rfl #[.agg #[.string a0_0, .slice A0_1 l0_1.length c0_1]] rfl (mA1 rfl) ?_; (with_reducible refine (formation_Check.calls k a0_0 _ _ l0_1 t259 _ (Kd.C_below HR0_1.out HB.out) HC0_1.out (Mx.below HMX_.out HB.out) A3.out).mono ?_); rintro e w10 ⟨rfl, hb⟩; refine ⟨_, rfl, ?_⟩; replace BK1 := mBb BK1 hb; replace HB := mSt HB hb; (try clear hb); have hcz11 := blk_cell BK1.out; have hfz11 := blk_frozen BK1.out) | ((with_reducible refine gate_callee (f := 30) rfl ?_); refine goesL_ (some 28) rfl rfl Tryd.func30 (by kernel_rfl) rfl #[.slice A1 l1.length c1, .func (.func 31) #[] #[]] rfl (mA2 rfl rfl) ?_; (with_reducible refine (api_Point_30.calls k _ _ l1 true _ (Kd.C_below HR1.out HB.out) HC1.out A6.out).mono ?_); rintro e w12 ⟨rfl, hb⟩; refine ⟨_, rfl, ?_⟩; replace BK1 := mBb BK1 hb; replace HB := mSt HB hb; (try clear hb)))
  go_ret3
  exact ⟨_, rfl, by first | exact Kd.R_nil _ _ _ _ _ | exact Kd.N_nil _ _ _ _ _ | exact Kd.V_nil _ _ _ _ _ | exact Kd.Q_nil _ _ _ _ _ | exact Kd.S_nil _ _ _ _ _, HB.out⟩
 replace c7 := Bool.eq_false_iff.mpr c7
 subst c7
 rw [if_neg (show ¬ (false = true) by decide)] at H
 have H' := Aside0.mk H
 clear H
 go_enter Tryd.func15, Tryd.ntmps15
 go_wp2_with (first | ((with_reducible refine gate_dst (N := 2) rfl ?_); refine box_event rfl (N := 2) rfl (cs := #[.string a0_0, .slice A0_1 l0_1.length c0_1]) (t := 24) (by first | (go_simp; done) | (go_simp; rfl)) ?_; intro gb1 hg w13 hbox hb; have BK1 := Aside0.mk hbox; have GW1 := mGw HB hg; have GE1 := GW1; replace HB := mSt HB hb; clear hb hbox hg; have hcz14 := blk_cell BK1.out; have hfz14 := blk_frozen BK1.out) | ((with_reducible refine gate_callee (f := 11) rfl ?_); refine goesL_ (some 17) rfl rfl Tryd.func11 (by kernel_rfl) rfl #[.agg #[.string a0_0, .slice A0_1 l0_1.length c0_1]] rfl (mA1 rfl) ?_; (with_reducible refine (formation_Check.calls k a0_0 _ _ l0_1 t259 _ (Kd.C_below HR0_1.out HB.out) HC0_1.out (Mx.below HMX_.out HB.out) A3.out).mono ?_); rintro e w15 ⟨rfl, hb⟩; refine ⟨_, rfl, ?_⟩; replace BK1 := mBb BK1 hb; replace HB := mSt HB hb; (try clear hb); have hcz16 := blk_cell BK1.out; have hfz16 := blk_frozen BK1.out) | ((with_reducible refine gate_callee (f := 30) rfl ?_); refine goesL_ (some 28) rfl rfl Tryd.func30 (by kernel_rfl) rfl #[.slice A1 l1.length c1, .func (.func 31) #[] #[]] rfl (mA2 rfl rfl) ?_; (with_reducible refine (api_Point_30.calls k _ _ l1 false _ (Kd.C_below HR1.out HB.out) HC1.out A6.out).mono ?_); rintro e w17 ⟨rfl, hb⟩; refine ⟨_, rfl, ?_⟩; replace BK1 := mBb BK1 hb; replace HB := mSt HB hb; (try clear hb)))
 go_loopg [8, 31] k (fun kq v8 v31 w' => ∃ (x8_1 : List (List Int)) (x31_1 : Int), v31 = .int .i64 x31_1 ∧ Aside0 (formation_Fit.l0 kq x8_1 l1 (l1.length : Int) x31_1 a0_0 l0_1 = some (r1, r2, r3)) ∧ Aside0 (kq ≤ k) ∧ Aside0 (Kd.S (Kd.slice 3 (Kd.int .i64)) 29 w' w.heap.size (fun _ => True) v8 x8_1) ∧ Aside0 (w'.heap[gb1]? = some (.cells #[.string a0_0, (.slice A0_1 l0_1.length c0_1)] 24 (0, 0))) ∧ Aside0 (Below w.heap.size w w'))
 case atStart => exact ⟨(([] : List (List Int))), (0), rfl, H', ⟨Nat.le_refl _⟩, ⟨by first | exact Kd.S_nil _ _ _ _ _ | exact Kd.N_nil _ _ _ _ _ | exact Kd.V_nil _ _ _ _ _ | exact Kd.Q_nil _ _ _ _ _ | exact Kd.R_nil _ _ _ _ _⟩, ⟨BK1.out⟩, ⟨HB.out⟩⟩
 case round =>
  clear H'
  try clear c1; try clear p2; try clear c3; try clear c4; try clear c4b0; try clear c4b1; try clear c5; try clear c5b0; try clear c5b1; try clear c5b2; try clear c7; try clear c11; try clear c15; try clear hcz11_0; try clear hcz11_1; try clear hcz14_0; try clear hcz14_1; try clear hcz16_0; try clear hcz16_1; try clear hcz9_0; try clear hcz9_1; try clear hfz11_0; try clear hfz11_1; try clear hfz14_0; try clear hfz14_1; try clear hfz16_0; try clear hfz16_1; try clear hfz9_0; try clear hfz9_1
  obtain ⟨x8_1, x31_1, rfl, HA, HK1, HO_8, BK1, HB⟩ := hrel
  cases gk with
  | zero => exact absurd HA.out (by simp [formation_Fit.l0])
  | succ k1 =>
   have H := HA.out
   clear HA
   simp only [formation_Fit.l0] at H
   by_cases c18 : x31_1 < (l1.length : Int)
   rotate_left
   ·
    rw [if_neg c18] at H
    have c18b0 := decide_eq_false c18
    clear c18
    replace H := Option.bind_eq_some_iff.mp H
    obtain ⟨⟨t261, t264, t265⟩, A410, H⟩ := H
    try dsimp only at H
    have A41 := Aside0.mk A410
    clear A410
    simp only [Option.some.injEq, Prod.mk.injEq] at H
    obtain ⟨rfl, rfl, rfl⟩ := H
    obtain ⟨Ao42, co42, eo42⟩ := Kd.S_slice HO_8.out
    subst eo42
    go_wp2_with (first | ((with_reducible refine gate_callee (f := 35) rfl ?_); refine goesL_ (some 59) rfl rfl Tryd.func35 (by kernel_rfl) rfl #[.slice Ao42 x8_1.length co42] rfl (mA1 rfl) ?_; (with_reducible refine (assign_Solve.calls k1 (fun k_ => (True ∧ k_ ≠ gb1)) _ _ x8_1 t261 t264 t265 _ (Kd.S_V (Kd.S_types (HO_8.out) BK1.out (by decide))) A41.out).mono ?_); rintro e w43 ⟨v262, rfl, ho0, hb⟩; refine ⟨_, rfl, ?_⟩; replace HO_8 := Aside0.mk (Kd.S_elder' HO_8.out (Kd.R_base ho0) hb); have HO263 := Aside0.mk (Kd.R_lower (Kd.R_mono (ok' := fun k_ => True) ho0 (fun _ hk_ => trivial)) (below_size HB.out)); replace BK1 := mBb BK1 hb; replace HB := mSt HB hb; (try clear hb); (try clear ho0)))
    go_ret3
    exact ⟨_, rfl, by exact HO263.out, HB.out⟩
   rw [if_pos c18] at H
   have c18b0 := decide_eq_true c18
   clear c18
   obtain ⟨c19, H⟩ : (0 ≤ x31_1) ∧ _ := mIf H
   have c19b0 := decide_eq_true c19
   clear c19
   obtain ⟨c20, H⟩ : (x31_1 < (l1.length : Int)) ∧ _ := mIf H
   have c20b0 := decide_eq_true c20
   clear c20
   have H' := Aside0.mk H
   clear H
   have p266 : 0 ≤ (x31_1 : Int) := of_decide_eq_true (by assumption)
   have q266 : x31_1 < (l1.length : Int) := of_decide_eq_true (by assumption)
   obtain ⟨ad266, e266, hx266_0, hx266_1⟩ := at_T52 HR1.out x31_1 p266 q266
   cases e266
   replace hx266_0 := mHx HB hx266_0
   replace hx266_1 := mHx HB hx266_1
   replace p266 := eq_true p266
   replace q266 := eq_true q266
   go_wp2_with (first | ((with_reducible refine gate_dst (N := 10) rfl ?_); refine box_event rfl (N := 10) rfl (cs := #[.int .i64 0, .int .i64 0]) (t := 52) (by first | (go_simp; done) | (go_simp; rfl)) ?_; intro gb2 hg w21 hbox hb; replace HO_8 := Aside0.mk (Kd.S_below HO_8.out hb); have BK2 := Aside0.mk hbox; have GW2 := mGw HB hg; have GE2 := GW2; replace HB := mSt HB hb; have NB1_2 := mNe BK1 hg; have NB2_1 := mSy NB1_2; replace BK1 := mBb BK1 hb; clear hb hbox hg; have hnb22 := NB2_1.out; have hnc22 := NB1_2.out; have hcz23 := blk_cell BK2.out; have hfz23 := blk_frozen BK2.out; have hcz24 := blk_cell BK1.out; have hfz24 := blk_frozen BK1.out))
   go_loopg [11, 38] k1 (fun kq v11 v38 w' => ∃ (x11_2 : List Int) (x38_2 : Int), v38 = .int .i64 x38_2 ∧ Aside0 (formation_Fit.l1 kq x8_1 x11_2 l1 (l1.length : Int) x31_1 l0_1 (l0_1.length : Int) x38_2 a0_0 l0_1 ((rd_T52 l1 x31_1).f0) ((rd_T52 l1 x31_1).f1) = some (r1, r2, r3)) ∧ Aside0 (kq ≤ k1) ∧ Aside0 (Kd.S (Kd.slice 3 (Kd.int .i64)) 29 w' w.heap.size (fun k_ => some k_ ≠ (v11 : Value).ownBlock) u8 x8_1) ∧ Aside0 (Kd.R (Kd.int .i64) 3 w' w.heap.size (fun _ => True) v11 x11_2) ∧ Aside0 (w'.heap[gb1]? = some (.cells #[.string a0_0, (.slice A0_1 l0_1.length c0_1)] 24 (0, 0))) ∧ Aside0 (w'.heap[gb2]? = some (.cells #[.int .i64 ((rd_T52 l1 x31_1).f0), .int .i64 ((rd_T52 l1 x31_1).f1)] 52 (0, 0))) ∧ Aside0 (Below w.heap.size w w'))
   case atStart => exact ⟨(([] : List Int)), (0), rfl, H', ⟨Nat.le_refl _⟩, ⟨Kd.S_mono (Kd.S_far (p := ⟨gb2, 1, none⟩) (Kd.S_far (p := ⟨gb2, 0, none⟩) (Kd.S_types HO_8.out BK2.out (by decide)) (fun _ hk => hk.2) (.int .i64 ((rd_T52 l1 x31_1).f0))) (fun _ hk => hk.2) (.int .i64 ((rd_T52 l1 x31_1).f1))) (fun _ hk => (by simp [Value.ownBlock]))⟩, ⟨by first | exact Kd.R_nil _ _ _ _ _ | exact Kd.N_nil _ _ _ _ _ | exact Kd.V_nil _ _ _ _ _ | exact Kd.Q_nil _ _ _ _ _ | exact Kd.S_nil _ _ _ _ _⟩, ⟨by refine blk_far ?_ NB1_2.out _; refine blk_far ?_ NB1_2.out _; exact BK1.out⟩, ⟨by refine blk_put (cs := #[.int .i64 ((rd_T52 l1 x31_1).f0), .int .i64 0]) ?_ 1 _ rfl; refine blk_put (cs := #[.int .i64 0, .int .i64 0]) ?_ 0 _ rfl; exact BK2.out⟩, ⟨hO HB⟩⟩
   case round =>
    clear H'
    clear c18b0 c19b0 c20b0 hx266_0 hx266_1 p266 q266
    obtain ⟨x11_2, x38_2, rfl, HA, HK2, HO_8, HO_11, BK1, BK2, HB⟩ := hrel
    cases gk with
    | zero => exact absurd HA.out (by simp [formation_Fit.l1])
    | succ k2 =>
     have H := HA.out
     clear HA
     simp only [formation_Fit.l1] at H
     by_cases c25 : x38_2 < (l0_1.length : Int)
     rotate_left
     ·
      rw [if_neg c25] at H
      have c25b0 := decide_eq_false c25
      clear c25
      obtain ⟨c38, H⟩ : (x8_1.length < 5864062014805) ∧ _ := mIf H
      have LMc38 := Aside0.mk c38
      clear c38
      obtain ⟨y275, hy275⟩ : ∃ y_ : List (List Int), y_ = (x8_1 ++ [x11_2]) := ⟨_, rfl⟩
      rw [← hy275] at H
      have Ny275 := Aside0.mk hy275
      clear hy275
      have H' := Aside0.mk H
      clear H
      obtain ⟨Ao40, co40, eo40⟩ := Kd.R_slice HO_11.out
      subst eo40
      go_wp2_with (first | ((with_reducible refine gate_builtin (b := .append) (xs := #[.tmp 53, .tmp 55]) rfl ?_); at_builtin; refine Kd.S_append (Kd.slice 3 (Kd.int .i64)) (w0 := w) w.heap.size rfl (.tmp 53) (.tmp 55) 62 29 (.slice none 0 0) 24 rfl Tryd.underlying62 info29 rfl (by decide) (by omega) u8 x8_1 x11_2 [.slice Ao40 x11_2.length co40] (fun _ => True) (fun k_ => some k_ = (.slice Ao40 x11_2.length co40 : Value).ownBlock) rfl rfl ?aP (fun k_ hk_ => ((Kd.R_mono (ok' := fun k_ => ((fun _ => True)) k_ ∧ some k_ ≠ (u8 : Value).ownBlock) (Kd.R_apart' (HO_11.out) (Kd.S_typed HO_8.out) (by decide)) (fun k_ hk => ⟨trivial, hk.2⟩))).1 k_ hk_.symm) ?aF ?aO ?aB ?aS ?aL ?_; (case aP => exact Kd.M_row (Kd.R_mono (Kd.R_tight rfl (Kd.R_mono (ok' := fun k_ => ((fun _ => True)) k_ ∧ some k_ ≠ (u8 : Value).ownBlock) (Kd.R_apart' (HO_11.out) (Kd.S_typed HO_8.out) (by decide)) (fun k_ hk => ⟨trivial, hk.2⟩))) (fun _ h_ => h_))); (case aB => exact HB.out); (case aF => exact (fun _ _ => trivial)); (case aO => exact (by (with_reducible repeat (first | apply Kd.S_alloc | apply Kd.S_drewN | apply Kd.S_drew)); exact Kd.S_mono HO_8.out (fun k_ hk => ⟨trivial, fun e_ => hk e_⟩))); (case aS => exact (below_size HB.out)); (case aL => have := LMc38.out; omega); intro v276 w39 ho hb hg hat; rw [← Ny275.out] at ho; replace BK1 := Aside0.mk (blk_grown (g := gb1) (o := .cells #[.string a0_0, .slice A0_1 l0_1.length c0_1] 24 (0, 0)) BK1.out hg (Kd.S_ne HO_8.out BK1.out (by decide))); replace BK2 := Aside0.mk (blk_grown (g := gb2) (o := .cells #[.int .i64 ((rd_T52 l1 x31_1).f0), .int .i64 ((rd_T52 l1 x31_1).f1)] 52 (0, 0)) BK2.out hg (Kd.S_ne HO_8.out BK2.out (by decide))); replace HB := Aside0.mk hb; have HO277 := Aside0.mk ho; clear HO_8 HO_11; clear ho hb hg hat))
      go_roundg k2
      case measure => have := HK1.out; have := HK2.out; omega
      case rel => exact ⟨(y275), (wrap64 (x31_1 + 1)), rfl, H', ⟨by have := HK1.out; have := HK2.out; omega⟩, HO277, ⟨BK1.out⟩, ⟨HB.out⟩⟩
     rw [if_pos c25] at H
     have c25b0 := decide_eq_true c25
     clear c25
     obtain ⟨c26, H⟩ : (0 ≤ x38_2) ∧ _ := mIf H
     have c26b0 := decide_eq_true c26
     clear c26
     obtain ⟨c27, H⟩ : (x38_2 < (l0_1.length : Int)) ∧ _ := mIf H
     have c27b0 := decide_eq_true c27
     clear c27
     replace H := Option.bind_eq_some_iff.mp H
     obtain ⟨⟨t270, t271⟩, A280, H⟩ := H
     try dsimp only at H
     have A28 := Aside0.mk A280
     clear A280
     obtain ⟨c29, H⟩ : (x11_2.length < 17592186044416) ∧ _ := mIf H
     have LMc29 := Aside0.mk c29
     clear c29
     obtain ⟨y272, hy272⟩ : ∃ y_ : List Int, y_ = (x11_2 ++ [t270]) := ⟨_, rfl⟩
     rw [← hy272] at H
     have Ny272 := Aside0.mk hy272
     clear hy272
     have H' := Aside0.mk H
     clear H
     have p268 : 0 ≤ (x38_2 : Int) := of_decide_eq_true (by assumption)
     have q268 : x38_2 < (l0_1.length : Int) := of_decide_eq_true (by assumption)
     obtain ⟨ad268, e268, hx268_0, hx268_1⟩ := at_T52 HR0_1.out x38_2 p268 q268
     cases e268
     replace hx268_0 := mHx HB hx268_0
     replace hx268_1 := mHx HB hx268_1
     replace p268 := eq_true p268
     replace q268 := eq_true q268
     go_wp2_with (first | ((with_reducible refine gate_dst (N := 13) rfl ?_); refine box_event rfl (N := 13) rfl (cs := #[.int .i64 0, .int .i64 0]) (t := 52) (by first | (go_simp; done) | (go_simp; rfl)) ?_; intro gb3 hg w30 hbox hb; replace HO_8 := Aside0.mk (Kd.S_below HO_8.out hb); replace HO_11 := Aside0.mk (Kd.R_below (rO HO_11) hb); have BK3 := Aside0.mk hbox; have GW3 := Aside0.mk ((by rw [hg]; exact (below_size (hO HB)) : w.heap.size ≤ gb3)); have GE3 := GW3; replace HB := mSx HB hb; have NB1_3 := mNe BK1 hg; have NB3_1 := mSy NB1_3; replace BK1 := mBb BK1 hb; have NB2_3 := mNe BK2 hg; have NB3_2 := mSy NB2_3; replace BK2 := mBb BK2 hb; clear hb hbox hg; have hnb31 := NB3_1.out; have hnc31 := NB1_3.out; have hnb32 := NB3_2.out; have hnc32 := NB2_3.out; have hcz33 := blk_cell BK3.out; have hfz33 := blk_frozen BK3.out; have hnb34 := NB2_1.out; have hnc34 := NB1_2.out; have hcz35 := blk_cell BK2.out; have hfz35 := blk_frozen BK2.out) | ((with_reducible refine gate_callee (f := 28) rfl ?_); refine goesL_ (some 45) rfl rfl Tryd.func28 (by kernel_rfl) rfl #[.agg #[.int .i64 ((rd_T52 l1 x31_1).f0), .int .i64 ((rd_T52 l1 x31_1).f1)], .agg #[.int .i64 ((rd_T52 l0_1 x38_2).f0), .int .i64 ((rd_T52 l0_1 x38_2).f1)]] rfl (mA2 rfl rfl) ?_; (with_reducible refine (geom_Dist2.calls k2 ((rd_T52 l1 x31_1).f0) ((rd_T52 l1 x31_1).f1) ((rd_T52 l0_1 x38_2).f0) ((rd_T52 l0_1 x38_2).f1) t270 t271 _ A28.out).mono ?_); rintro e w36 ⟨rfl, hb⟩; refine ⟨_, rfl, ?_⟩; replace HO_8 := Aside0.mk (Kd.S_below (by (with_reducible repeat (first | apply Kd.S_alloc | apply Kd.S_drewN | apply Kd.S_drew)); exact (Kd.S_mono (Kd.S_far (p := ⟨gb3, 1, none⟩) (Kd.S_far (p := ⟨gb3, 0, none⟩) (Kd.S_types HO_8.out BK3.out (by decide)) (fun _ hk => hk.2) (.int .i64 ((rd_T52 l0_1 x38_2).f0))) (fun _ hk => hk.2) (.int .i64 ((rd_T52 l0_1 x38_2).f1))) (fun _ h_ => h_.1))) hb); replace HO_11 := Aside0.mk (Kd.R_below (by exact (Kd.R_mono (Kd.R_far (p := ⟨gb3, 1, none⟩) (Kd.R_far (p := ⟨gb3, 0, none⟩) (Kd.R_types HO_11.out BK3.out (by decide)) (fun _ hk => hk.2) (.int .i64 ((rd_T52 l0_1 x38_2).f0))) (fun _ hk => hk.2) (.int .i64 ((rd_T52 l0_1 x38_2).f1))) (fun _ h_ => h_.1))) hb); replace BK1 := Aside0.mk (blk_below (g := gb1) (o := .cells #[.string a0_0, .slice (some ad268) l0_1.length c0_1] 24 (0, 0)) (by refine blk_far ?_ NB1_3.out _; refine blk_far ?_ NB1_3.out _; exact BK1.out) hb); replace BK2 := Aside0.mk (blk_below (g := gb2) (o := .cells #[.int .i64 ((rd_T52 l1 x31_1).f0), .int .i64 ((rd_T52 l1 x31_1).f1)] 52 (0, 0)) (by refine blk_far ?_ NB2_3.out _; refine blk_far ?_ NB2_3.out _; exact BK2.out) hb); replace BK3 := Aside0.mk (blk_below (g := gb3) (o := .cells #[.int .i64 ((rd_T52 l0_1 x38_2).f0), .int .i64 ((rd_T52 l0_1 x38_2).f1)] 52 (0, 0)) (by refine blk_put (cs := #[.int .i64 ((rd_T52 l0_1 x38_2).f0), .int .i64 0]) ?_ 1 _ rfl; refine blk_put (cs := #[.int .i64 0, .int .i64 0]) ?_ 0 _ rfl; exact BK3.out) hb); replace HB := mSx HB hb; (try clear hb)) | ((with_reducible refine gate_builtin (b := .append) (xs := #[.tmp 48, .tmp 50]) rfl ?_); at_builtin; refine Kd.R_append (Kd.int .i64) (w0 := w) w.heap.size rfl (.tmp 48) (.tmp 50) 29 3 (.int .i64 0) 8 rfl Tryd.underlying29 info3 rfl (by decide) (by omega) u11 x11_2 t270 [.int .i64 t270] (fun _ => True) (fun _ => False) rfl rfl ?aP (fun _ hk => hk.elim) ?aF ?aO ?aB ?aS ?aL ?_; (case aP => exact rfl); (case aB => exact (hO HB)); (case aF => exact (fun _ _ => trivial)); (case aO => exact (rO HO_11)); (case aS => exact (below_size (hO HB))); (case aL => have := LMc29.out; omega); intro v273 w37 ho hb hg hat; rw [← Ny272.out] at ho; replace HO_8 := Aside0.mk (Kd.S_after (ok := (fun _ => True)) (by (with_reducible repeat (first | apply Kd.S_alloc | apply Kd.S_drewN | apply Kd.S_drew)); exact Kd.S_mono HO_8.out (fun _ hk => ⟨trivial, hk⟩)) hg hat); replace BK1 := Aside0.mk (blk_grown (g := gb1) (o := .cells #[.string a0_0, .slice (some ad268) l0_1.length c0_1] 24 (0, 0)) BK1.out hg (Kd.R_ne HO_11.out BK1.out (by decide))); replace BK2 := Aside0.mk (blk_grown (g := gb2) (o := .cells #[.int .i64 ((rd_T52 l1 x31_1).f0), .int .i64 ((rd_T52 l1 x31_1).f1)] 52 (0, 0)) BK2.out hg (Kd.R_ne HO_11.out BK2.out (by decide))); replace BK3 := Aside0.mk (blk_grown (g := gb3) (o := .cells #[.int .i64 ((rd_T52 l0_1 x38_2).f0), .int .i64 ((rd_T52 l0_1 x38_2).f1)] 52 (0, 0)) BK3.out hg (Kd.R_ne HO_11.out BK3.out (by decide))); replace HB := Aside0.mk hb; have HO274 := Aside0.mk ho; clear HO_11; clear ho hb hg hat))
     go_roundg k2
     case measure => have := HK1.out; have := HK2.out; omega
     case rel => exact ⟨(y272), (wrap64 (x38_2 + 1)), rfl, H', ⟨by have := HK1.out; have := HK2.out; omega⟩, ⟨Kd.S_mono HO_8.out (fun _ hk => hk.2)⟩, HO274, ⟨BK1.out⟩, ⟨BK2.out⟩, ⟨HB.out⟩⟩
end Go.Proofs.YtaggccbndmmbhaaDoor.PAll
