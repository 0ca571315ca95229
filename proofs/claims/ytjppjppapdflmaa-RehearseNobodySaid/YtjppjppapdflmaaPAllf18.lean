-- Written by wip/tools/handprint.py: walks of the functions that the law reaches; Lean checks them.
import Derived.Test.YtjppjppapdflmaaRMi
import Derived.Test.YtjppjppapdflmaaPAllx0
import Derived.Test.YtjppjppapdflmaaRPg
namespace Go.Proofs.Ytjppjppapdflmaa.PAll
open Go.RowKit Go.Proofs.YtjppjppapdflmaaW.PrintWords Go.Proofs.YtjppjppapdflmaaW.PrintLast Go.Proofs.YtjppjppapdflmaaW.PrintMore
attribute [local go_sem] max2_int min2_int max_two min_two max_three min_three max_four min_four   -- for this text's walks alone
set_option linter.unusedVariables false
set_option linter.unusedSimpArgs false

/-! ### rehearse_Valid: function 18 -/
mutual
def rehearse_Valid.l0 : Nat → List (S48) → List (S48) → Int → Int → List (S53) → List (S55) → List (S59) → Int → Option (Int)
 | 0, _, _, _, _, _, _, _, _ => none
 | k + 1, x1, x27, x28, x29, x189000, x189001, x189002, x189003 => if x29 < x28 then (if 0 ≤ x29 then (if x29 < (x27.length : Int) then (if ((rd_T48 x27 x29).f0) = x29 then (rehearse_Valid.l0 k x1 x27 x28 (wrap64 (x29 + 1)) x189000 x189001 x189002 x189003) else (some 2)) else (none)) else (none)) else (rehearse_Valid.l1 k x1 x1 (x1.length : Int) 0 x189000 x189001 x189002 x189003)
def rehearse_Valid.l1 : Nat → List (S48) → List (S48) → Int → Int → List (S53) → List (S55) → List (S59) → Int → Option (Int)
 | 0, _, _, _, _, _, _, _, _ => none
 | k + 1, x1, x39, x40, x41, x189000, x189001, x189002, x189003 => if x41 < x40 then (if 0 ≤ x41 then (if x41 < (x39.length : Int) then ((rehearse_Task_session.f k x189000 x189001 x189002 x189003 x41 ((rd_T48 x39 x41).f0) ((rd_T48 x39 x41).f1) ((rd_T48 x39 x41).f2)).bind fun t194 => (if t194 = 0 then (rehearse_Valid.l1 k x1 x39 x40 (wrap64 (x41 + 1)) x189000 x189001 x189002 x189003) else (some t194))) else (none)) else (none)) else (rehearse_Valid.l2 k x1 false x1 (x1.length : Int) 0 x189000 x189001 x189002 x189003)
def rehearse_Valid.l2 : Nat → List (S48) → Bool → List (S48) → Int → Int → List (S53) → List (S55) → List (S59) → Int → Option (Int)
 | 0, _, _, _, _, _, _, _, _, _ => none
 | k + 1, x1, x11, x54, x55, x56, x189000, x189001, x189002, x189003 => if x56 < x55 then (if 0 ≤ x56 then (if x56 < (x54.length : Int) then (if x56 ≤ (x1.length : Int) then ((some (x1.take (x56 : Int).toNat : List (S48))).bind fun y197 => (rehearse_Valid.l3 k x1 x11 x56 x54 x55 x56 y197 (y197.length : Int) 0 x189000 x189001 x189002 x189003 ((rd_T48 x54 x56).f0) ((rd_T48 x54 x56).f1) ((rd_T48 x54 x56).f2))) else (none)) else (none)) else (none)) else (if x11 = true then (some 40) else (some 0))
def rehearse_Valid.l3 : Nat → List (S48) → Bool → Int → List (S48) → Int → Int → List (S48) → Int → Int → List (S53) → List (S55) → List (S59) → Int → Int → Int → Int → Option (Int)
 | 0, _, _, _, _, _, _, _, _, _, _, _, _, _, _, _, _ => none
 | k + 1, x1, x11, x12, x54, x55, x56, x63, x64, x65, x189000, x189001, x189002, x189003, x197000, x197001, x197002 => if x65 < x64 then (if 0 ≤ x65 then (if x65 < (x63.length : Int) then ((rehearse_Task_meet.f x189000 x189001 x189002 x189003 x12 x197002 x65 ((rd_T48 x63 x65).f2)).bind fun t203 => (if t203 = true then (if x197001 = ((rd_T48 x63 x65).f1) then (some 41) else (if x11 = true then (rehearse_Valid.l3 k x1 true x12 x54 x55 x56 x63 x64 (wrap64 (x65 + 1)) x189000 x189001 x189002 x189003 x197000 x197001 x197002) else ((rehearse_Task_share.f k x189000 x189001 x189002 x189003 x12 x65).bind fun t204 => (rehearse_Valid.l3 k x1 t204 x12 x54 x55 x56 x63 x64 (wrap64 (x65 + 1)) x189000 x189001 x189002 x189003 x197000 x197001 x197002)))) else (rehearse_Valid.l3 k x1 x11 x12 x54 x55 x56 x63 x64 (wrap64 (x65 + 1)) x189000 x189001 x189002 x189003 x197000 x197001 x197002))) else (none)) else (none)) else (rehearse_Valid.l2 k x1 x11 x54 x55 (wrap64 (x56 + 1)) x189000 x189001 x189002 x189003)
end
def rehearse_Valid.f (k : Nat) (l0_0 : List (S53)) (l0_1 : List (S55)) (l0_2 : List (S59)) (a0_3 : Int) (l1 : List (S48)) : Option (Int) := (rehearse_Check.f k l0_0 l0_1 l0_2 a0_3).bind fun t189 => (if t189 = 0 then (if (l1.length : Int) = (l0_0.length : Int) then (rehearse_Valid.l0 k l1 l1 (l1.length : Int) 0 l0_0 l0_1 l0_2 a0_3) else (some 2)) else (some t189))
set_option maxHeartbeats 8000000 in
set_option maxRecDepth 100000 in
theorem rehearse_Valid.calls (k : Nat) (A0_0 : Option Addr) (c0_0 : Nat) (l0_0 : List (S53)) (A0_1 : Option Addr) (c0_1 : Nat) (l0_1 : List (S55)) (A0_2 : Option Addr) (c0_2 : Nat) (l0_2 : List (S59)) (a0_3 : Int) (A1 : Option Addr) (c1 : Nat) (l1 : List (S48)) (r : Int) (w : World) (hr0_0 : Kd.C k53 w A0_0 l0_0.length l0_0) (hc0_0 : l0_0.length ≤ c0_0) (hr0_1 : Kd.C k55 w A0_1 l0_1.length l0_1) (hc0_1 : l0_1.length ≤ c0_1) (hr0_2 : Kd.C k59 w A0_2 l0_2.length l0_2) (hc0_2 : l0_2.length ≤ c0_2) (hr1 : Kd.C k48 w A1 l1.length l1) (hc1 : l1.length ≤ c1) (hmx : Mx w) (h : rehearse_Valid.f k l0_0 l0_1 l0_2 a0_3 l1 = some r) :
  Calls Try.prog 18 #[.agg #[.slice A0_0 l0_0.length c0_0, .slice A0_1 l0_1.length c0_1, .slice A0_2 l0_2.length c0_2, .int .i64 a0_3], .slice A1 l1.length c1] w fun e w' => e = .returned (.int .i64 r) ∧ Below w.heap.size w w' := by
 have HMX_ := Aside0.mk hmx
 clear hmx
 have hu30 := Try.underlying30
 have hu48 := Try.underlying48
 have HR0_0 := Aside0.mk hr0_0
 have HC0_0 := Aside0.mk hc0_0
 clear hr0_0 hc0_0
 have HR0_1 := Aside0.mk hr0_1
 have HC0_1 := Aside0.mk hc0_1
 clear hr0_1 hc0_1
 have HR0_2 := Aside0.mk hr0_2
 have HC0_2 := Aside0.mk hc0_2
 clear hr0_2 hc0_2
 have HR1 := Aside0.mk hr1
 have HC1 := Aside0.mk hc1
 clear hr1 hc1
 have HB := Aside0.mk (Below.refl w.heap.size w)
 have H := h
 unfold rehearse_Valid.f at H
 clear h
 replace H := Option.bind_eq_some_iff.mp H
 obtain ⟨t189, A30, H⟩ := H
 try dsimp only at H
 have A3 := Aside0.mk A30
 clear A30
 by_cases c4 : t189 = 0
 rotate_left
 ·
  rw [if_neg c4] at H
  have c4b0 := beq_eq_false_iff_ne.mpr c4
  have c4b1 := bne_iff_ne.mpr c4
  obtain rfl := Option.some.inj H
  go_enter Try.func18, Try.ntmps18
  go_wp2_with (first | ((with_reducible refine gate_dst (N := 2) rfl ?_); refine box_event rfl (N := 2) rfl (cs := #[.slice A0_0 l0_0.length c0_0, .slice A0_1 l0_1.length c0_1, .slice A0_2 l0_2.length c0_2, .int .i64 a0_3]) (t := 30) (by first | (go_simp; done) | (go_simp; rfl)) ?_; intro gb1 hg w98 hbox hb; have BK1 := Aside0.mk hbox; have GW1 := mGw HB hg; have GE1 := GW1; replace HB := mSt HB hb; clear hb hbox hg; have hcz99 := blk_cell BK1.out; have hfz99 := blk_frozen BK1.out) | ((with_reducible refine gate_callee (f := 13) rfl ?_); refine goesL_ (some 17) rfl rfl Try.func13 (by kernel_rfl) rfl #[.agg #[.slice A0_0 l0_0.length c0_0, .slice A0_1 l0_1.length c0_1, .slice A0_2 l0_2.length c0_2, .int .i64 a0_3]] rfl (mA1 rfl) ?_; (with_reducible refine (rehearse_Check.calls k _ _ l0_0 _ _ l0_1 _ _ l0_2 a0_3 t189 _ (Kd.C_below HR0_0.out HB.out) HC0_0.out (Kd.C_below HR0_1.out HB.out) HC0_1.out (Kd.C_below HR0_2.out HB.out) HC0_2.out (Mx.below HMX_.out HB.out) A3.out).mono ?_); rintro e w100 ⟨rfl, hb⟩; refine ⟨_, rfl, ?_⟩; replace BK1 := mBb BK1 hb; replace HB := mSt HB hb; (try clear hb)))
  go_ret
  exact ⟨rfl, HB.out⟩
 rw [if_pos c4] at H
 have c4b0 := beq_iff_eq.mpr c4
 have c4b1 := bne_eq_false_iff_eq.mpr c4
 clear c4
 by_cases c5 : (l1.length : Int) = (l0_0.length : Int)
 rotate_left
 ·
  rw [if_neg c5] at H
  have c5b0 := beq_eq_false_iff_ne.mpr c5
  have c5b1 := bne_iff_ne.mpr c5
  have c5b2 : (l1.length == l0_0.length) = false := by first | simpa using c5 | (simp at c5 ⊢; omega)
  obtain rfl := Option.some.inj H
  go_enter Try.func18, Try.ntmps18
  go_wp2_with (first | ((with_reducible refine gate_dst (N := 2) rfl ?_); refine box_event rfl (N := 2) rfl (cs := #[.slice A0_0 l0_0.length c0_0, .slice A0_1 l0_1.length c0_1, .slice A0_2 l0_2.length c0_2, .int .i64 a0_3]) (t := 30) (by first | (go_simp; done) | (go_simp; rfl)) ?_; intro gb1 hg w94 hbox hb; have BK1 := Aside0.mk hbox; have GW1 := mGw HB hg; have GE1 := GW1; replace HB := mSt HB hb; clear hb hbox hg; have hcz95 := blk_cell BK1.out; have hfz95 := blk_frozen BK1.out) | ((with_reducible refine gate_callee (f := 13) rfl ?_); refine goesL_ (some 17) rfl rfl Try.func13 (by kernel_rfl) rfl #[.agg #[.slice A0_0 l0_0.length c0_0, .slice A0_1 l0_1.length c0_1, .slice A0_2 l0_2.length c0_2, .int .i64 a0_3]] rfl (mA1 rfl) ?_; (with_reducible refine (rehearse_Check.calls k _ _ l0_0 _ _ l0_1 _ _ l0_2 a0_3 t189 _ (Kd.C_below HR0_0.out HB.out) HC0_0.out (Kd.C_below HR0_1.out HB.out) HC0_1.out (Kd.C_below HR0_2.out HB.out) HC0_2.out (Mx.below HMX_.out HB.out) A3.out).mono ?_); rintro e w96 ⟨rfl, hb⟩; refine ⟨_, rfl, ?_⟩; replace BK1 := mBb BK1 hb; replace HB := mSt HB hb; (try clear hb); have hcz97 := blk_cell BK1.out; have hfz97 := blk_frozen BK1.out))
  go_ret
  exact ⟨rfl, HB.out⟩
 rw [if_pos c5] at H
 have c5b0 := beq_iff_eq.mpr c5
 have c5b1 := bne_eq_false_iff_eq.mpr c5
 have c5b2 : (l1.length == l0_0.length) = true := by first | simpa using c5 | (simp at c5 ⊢; omega)
 clear c5
 have H' := Aside0.mk H
 clear H
 go_enter Try.func18, Try.ntmps18
 go_wp2_with (first | ((with_reducible refine gate_dst (N := 2) rfl ?_); refine box_event rfl (N := 2) rfl (cs := #[.slice A0_0 l0_0.length c0_0, .slice A0_1 l0_1.length c0_1, .slice A0_2 l0_2.length c0_2, .int .i64 a0_3]) (t := 30) (by first | (go_simp; done) | (go_simp; rfl)) ?_; intro gb1 hg w6 hbox hb; have BK1 := Aside0.mk hbox; have GW1 := mGw HB hg; have GE1 := GW1; replace HB := mSt HB hb; clear hb hbox hg; have hcz7 := blk_cell BK1.out; have hfz7 := blk_frozen BK1.out) | ((with_reducible refine gate_callee (f := 13) rfl ?_); refine goesL_ (some 17) rfl rfl Try.func13 (by kernel_rfl) rfl #[.agg #[.slice A0_0 l0_0.length c0_0, .slice A0_1 l0_1.length c0_1, .slice A0_2 l0_2.length c0_2, .int .i64 a0_3]] rfl (mA1 rfl) ?_; (with_reducible refine (rehearse_Check.calls k _ _ l0_0 _ _ l0_1 _ _ l0_2 a0_3 t189 _ (Kd.C_below HR0_0.out HB.out) HC0_0.out (Kd.C_below HR0_1.out HB.out) HC0_1.out (Kd.C_below HR0_2.out HB.out) HC0_2.out (Mx.below HMX_.out HB.out) A3.out).mono ?_); rintro e w8 ⟨rfl, hb⟩; refine ⟨_, rfl, ?_⟩; replace BK1 := mBb BK1 hb; replace HB := mSt HB hb; (try clear hb); have hcz9 := blk_cell BK1.out; have hfz9 := blk_frozen BK1.out))
 go_loopg [29] k (fun kq v29 w' => ∃ (x29_1 : Int), v29 = .int .i64 x29_1 ∧ Aside0 (rehearse_Valid.l0 kq l1 l1 (l1.length : Int) x29_1 l0_0 l0_1 l0_2 a0_3 = some r) ∧ Aside0 (kq ≤ k) ∧ Aside0 (w'.heap[gb1]? = some (.cells #[(.slice A0_0 l0_0.length c0_0), (.slice A0_1 l0_1.length c0_1), (.slice A0_2 l0_2.length c0_2), .int .i64 a0_3] 30 (0, 0))) ∧ Aside0 (Below w.heap.size w w'))
 case atStart => exact ⟨(0), rfl, H', ⟨Nat.le_refl _⟩, ⟨BK1.out⟩, ⟨HB.out⟩⟩
 case round =>
  clear H'
  clear c4b0 c4b1 c5b0 c5b1 c5b2
  obtain ⟨x29_1, rfl, HA, HK1, BK1, HB⟩ := hrel
  cases gk with
  | zero => exact absurd HA.out (by simp [rehearse_Valid.l0])
  | succ k1 =>
   have H := HA.out
   clear HA
   simp only [rehearse_Valid.l0] at H
   by_cases c10 : x29_1 < (l1.length : Int)
   ·
    rw [if_pos c10] at H
    have c10b0 := decide_eq_true c10
    clear c10
    obtain ⟨c11, H⟩ : (0 ≤ x29_1) ∧ _ := mIf H
    have c11b0 := decide_eq_true c11
    clear c11
    obtain ⟨c12, H⟩ : (x29_1 < (l1.length : Int)) ∧ _ := mIf H
    have c12b0 := decide_eq_true c12
    clear c12
    by_cases c13 : ((rd_T48 l1 x29_1).f0) = x29_1
    rotate_left
    ·
     rw [if_neg c13] at H
     have c13b0 := beq_eq_false_iff_ne.mpr c13
     have c13b1 := bne_iff_ne.mpr c13
     obtain rfl := Option.some.inj H
     have p190 : 0 ≤ (x29_1 : Int) := of_decide_eq_true (by assumption)
     have q190 : x29_1 < (l1.length : Int) := of_decide_eq_true (by assumption)
     obtain ⟨ad190, e190, hx190_0, hx190_1, hx190_2⟩ := at_T48 HR1.out x29_1 p190 q190
     cases e190
     replace hx190_0 := mHx HB hx190_0
     replace hx190_1 := mHx HB hx190_1
     replace hx190_2 := mHx HB hx190_2
     replace p190 := eq_true p190
     replace q190 := eq_true q190
     go_wp2_with (first | ((with_reducible refine gate_dst (N := 7) rfl ?_); refine box_event rfl (N := 7) rfl (cs := #[.int .i64 0, .int .i64 0, .int .i64 0]) (t := 48) (by first | (go_simp; done) | (go_simp; rfl)) ?_; intro gb2 hg w17 hbox hb; have BK2 := Aside0.mk hbox; have GW2 := mGw HB hg; have GE2 := GW2; replace HB := mSt HB hb; have NB1_2 := mNe BK1 hg; have NB2_1 := mSy NB1_2; replace BK1 := mBb BK1 hb; clear hb hbox hg; have hnb18 := NB2_1.out; have hnc18 := NB1_2.out; have hcz19 := blk_cell BK2.out; have hfz19 := blk_frozen BK2.out))
     go_ret
     exact ⟨rfl, hO HB⟩
    rw [if_pos c13] at H
    have c13b0 := beq_iff_eq.mpr c13
    have c13b1 := bne_eq_false_iff_eq.mpr c13
    clear c13
    have H' := Aside0.mk H
    clear H
    have p190 : 0 ≤ (x29_1 : Int) := of_decide_eq_true (by assumption)
    have q190 : x29_1 < (l1.length : Int) := of_decide_eq_true (by assumption)
    obtain ⟨ad190, e190, hx190_0, hx190_1, hx190_2⟩ := at_T48 HR1.out x29_1 p190 q190
    cases e190
    replace hx190_0 := mHx HB hx190_0
    replace hx190_1 := mHx HB hx190_1
    replace hx190_2 := mHx HB hx190_2
    replace p190 := eq_true p190
    replace q190 := eq_true q190
    go_wp2_with (first | ((with_reducible refine gate_dst (N := 7) rfl ?_); refine box_event rfl (N := 7) rfl (cs := #[.int .i64 0, .int .i64 0, .int .i64 0]) (t := 48) (by first | (go_simp; done) | (go_simp; rfl)) ?_; intro gb2 hg w14 hbox hb; have BK2 := Aside0.mk hbox; have GW2 := mGw HB hg; have GE2 := GW2; replace HB := mSt HB hb; have NB1_2 := mNe BK1 hg; have NB2_1 := mSy NB1_2; replace BK1 := mBb BK1 hb; clear hb hbox hg; have hnb15 := NB2_1.out; have hnc15 := NB1_2.out; have hcz16 := blk_cell BK2.out; have hfz16 := blk_frozen BK2.out))
    go_roundg k1
    case measure => have := HK1.out; omega
    case rel => exact ⟨(wrap64 (x29_1 + 1)), rfl, H', ⟨by have := HK1.out; omega⟩, ⟨by refine blk_far ?_ NB1_2.out _; refine blk_far ?_ NB1_2.out _; refine blk_far ?_ NB1_2.out _; exact BK1.out⟩, ⟨hO HB⟩⟩
   rw [if_neg c10] at H
   have c10b0 := decide_eq_false c10
   clear c10
   have H' := Aside0.mk H
   clear H
   go_wp2
   go_loopg [41] k1 (fun kq v41 w' => ∃ (x41_2 : Int), v41 = .int .i64 x41_2 ∧ Aside0 (rehearse_Valid.l1 kq l1 l1 (l1.length : Int) x41_2 l0_0 l0_1 l0_2 a0_3 = some r) ∧ Aside0 (kq ≤ k1) ∧ Aside0 (w'.heap[gb1]? = some (.cells #[(.slice A0_0 l0_0.length c0_0), (.slice A0_1 l0_1.length c0_1), (.slice A0_2 l0_2.length c0_2), .int .i64 a0_3] 30 (0, 0))) ∧ Aside0 (Below w.heap.size w w'))
   case atStart => exact ⟨(0), rfl, H', ⟨Nat.le_refl _⟩, ⟨BK1.out⟩, ⟨HB.out⟩⟩
   case round =>
    clear H'
    clear c10b0
    obtain ⟨x41_2, rfl, HA, HK2, BK1, HB⟩ := hrel
    cases gk with
    | zero => exact absurd HA.out (by simp [rehearse_Valid.l1])
    | succ k2 =>
     have H := HA.out
     clear HA
     simp only [rehearse_Valid.l1] at H
     by_cases c20 : x41_2 < (l1.length : Int)
     ·
      rw [if_pos c20] at H
      have c20b0 := decide_eq_true c20
      clear c20
      obtain ⟨c21, H⟩ : (0 ≤ x41_2) ∧ _ := mIf H
      have c21b0 := decide_eq_true c21
      clear c21
      obtain ⟨c22, H⟩ : (x41_2 < (l1.length : Int)) ∧ _ := mIf H
      have c22b0 := decide_eq_true c22
      clear c22
      replace H := Option.bind_eq_some_iff.mp H
      obtain ⟨t194, A230, H⟩ := H
      try dsimp only at H
      have A23 := Aside0.mk A230
      clear A230
      by_cases c24 : t194 = 0
      rotate_left
      ·
       rw [if_neg c24] at H
       have c24b0 := beq_eq_false_iff_ne.mpr c24
       have c24b1 := bne_iff_ne.mpr c24
       obtain rfl := Option.some.inj H
       have p192 : 0 ≤ (x41_2 : Int) := of_decide_eq_true (by assumption)
       have q192 : x41_2 < (l1.length : Int) := of_decide_eq_true (by assumption)
       obtain ⟨ad192, e192, hx192_0, hx192_1, hx192_2⟩ := at_T48 HR1.out x41_2 p192 q192
       cases e192
       replace hx192_0 := mHx HB hx192_0
       replace hx192_1 := mHx HB hx192_1
       replace hx192_2 := mHx HB hx192_2
       replace p192 := eq_true p192
       replace q192 := eq_true q192
       go_wp2_with (first | ((with_reducible refine gate_dst (N := 9) rfl ?_); refine box_event rfl (N := 9) rfl (cs := #[.int .i64 0, .int .i64 0, .int .i64 0]) (t := 48) (by first | (go_simp; done) | (go_simp; rfl)) ?_; intro gb3 hg w30 hbox hb; have BK3 := Aside0.mk hbox; have GW3 := Aside0.mk ((by rw [hg]; exact (below_size (hO HB)) : w.heap.size ≤ gb3)); have GE3 := GW3; replace HB := mSx HB hb; have NB1_3 := mNe BK1 hg; have NB3_1 := mSy NB1_3; replace BK1 := mBb BK1 hb; clear hb hbox hg; have hnb31 := NB3_1.out; have hnc31 := NB1_3.out; have hcz32 := blk_cell BK3.out; have hfz32 := blk_frozen BK3.out; have hcz33 := blk_cell BK1.out; have hfz33 := blk_frozen BK1.out) | ((with_reducible refine gate_callee (f := 34) rfl ?_); refine goesL_ (some 49) rfl rfl Try.func34 (by kernel_rfl) rfl #[.agg #[.slice A0_0 l0_0.length c0_0, .slice A0_1 l0_1.length c0_1, .slice A0_2 l0_2.length c0_2, .int .i64 a0_3], .int .i64 x41_2, .agg #[.int .i64 ((rd_T48 l1 x41_2).f0), .int .i64 ((rd_T48 l1 x41_2).f1), .int .i64 ((rd_T48 l1 x41_2).f2)]] rfl (mA3 rfl rfl rfl) ?_; (with_reducible refine (rehearse_Task_session.calls k2 _ _ l0_0 _ _ l0_1 _ _ l0_2 a0_3 x41_2 ((rd_T48 l1 x41_2).f0) ((rd_T48 l1 x41_2).f1) ((rd_T48 l1 x41_2).f2) t194 _ (Kd.C_below HR0_0.out (hO HB)) HC0_0.out (Kd.C_below HR0_1.out (hO HB)) HC0_1.out (Kd.C_below HR0_2.out (hO HB)) HC0_2.out A23.out).mono ?_); rintro e w34 ⟨rfl, hb⟩; refine ⟨_, rfl, ?_⟩; replace BK1 := Aside0.mk (blk_below (g := gb1) (o := .cells #[.slice A0_0 l0_0.length c0_0, .slice A0_1 l0_1.length c0_1, .slice A0_2 l0_2.length c0_2, .int .i64 a0_3] 30 (0, 0)) (by refine blk_far ?_ NB1_3.out _; refine blk_far ?_ NB1_3.out _; refine blk_far ?_ NB1_3.out _; exact BK1.out) hb); replace BK3 := Aside0.mk (blk_below (g := gb3) (o := .cells #[.int .i64 ((rd_T48 l1 x41_2).f0), .int .i64 ((rd_T48 l1 x41_2).f1), .int .i64 ((rd_T48 l1 x41_2).f2)] 48 (0, 0)) (by refine blk_put (cs := #[.int .i64 ((rd_T48 l1 x41_2).f0), .int .i64 ((rd_T48 l1 x41_2).f1), .int .i64 0]) ?_ 2 _ rfl; refine blk_put (cs := #[.int .i64 ((rd_T48 l1 x41_2).f0), .int .i64 0, .int .i64 0]) ?_ 1 _ rfl; refine blk_put (cs := #[.int .i64 0, .int .i64 0, .int .i64 0]) ?_ 0 _ rfl; exact BK3.out) hb); replace HB := mSx HB hb; (try clear hb)))
       go_ret
       exact ⟨rfl, HB.out⟩
      rw [if_pos c24] at H
      have c24b0 := beq_iff_eq.mpr c24
      have c24b1 := bne_eq_false_iff_eq.mpr c24
      clear c24
      have H' := Aside0.mk H
      clear H
      have p192 : 0 ≤ (x41_2 : Int) := of_decide_eq_true (by assumption)
      have q192 : x41_2 < (l1.length : Int) := of_decide_eq_true (by assumption)
      obtain ⟨ad192, e192, hx192_0, hx192_1, hx192_2⟩ := at_T48 HR1.out x41_2 p192 q192
      cases e192
      replace hx192_0 := mHx HB hx192_0
      replace hx192_1 := mHx HB hx192_1
      replace hx192_2 := mHx HB hx192_2
      replace p192 := eq_true p192
      replace q192 := eq_true q192
      go_wp2_with (first | ((with_reducible refine gate_dst (N := 9) rfl ?_); refine box_event rfl (N := 9) rfl (cs := #[.int .i64 0, .int .i64 0, .int .i64 0]) (t := 48) (by first | (go_simp; done) | (go_simp; rfl)) ?_; intro gb3 hg w25 hbox hb; have BK3 := Aside0.mk hbox; have GW3 := Aside0.mk ((by rw [hg]; exact (below_size (hO HB)) : w.heap.size ≤ gb3)); have GE3 := GW3; replace HB := mSx HB hb; have NB1_3 := mNe BK1 hg; have NB3_1 := mSy NB1_3; replace BK1 := mBb BK1 hb; clear hb hbox hg; have hnb26 := NB3_1.out; have hnc26 := NB1_3.out; have hcz27 := blk_cell BK3.out; have hfz27 := blk_frozen BK3.out; have hcz28 := blk_cell BK1.out; have hfz28 := blk_frozen BK1.out) | ((with_reducible refine gate_callee (f := 34) rfl ?_); refine goesL_ (some 49) rfl rfl Try.func34 (by kernel_rfl) rfl #[.agg #[.slice A0_0 l0_0.length c0_0, .slice A0_1 l0_1.length c0_1, .slice A0_2 l0_2.length c0_2, .int .i64 a0_3], .int .i64 x41_2, .agg #[.int .i64 ((rd_T48 l1 x41_2).f0), .int .i64 ((rd_T48 l1 x41_2).f1), .int .i64 ((rd_T48 l1 x41_2).f2)]] rfl (mA3 rfl rfl rfl) ?_; (with_reducible refine (rehearse_Task_session.calls k2 _ _ l0_0 _ _ l0_1 _ _ l0_2 a0_3 x41_2 ((rd_T48 l1 x41_2).f0) ((rd_T48 l1 x41_2).f1) ((rd_T48 l1 x41_2).f2) t194 _ (Kd.C_below HR0_0.out (hO HB)) HC0_0.out (Kd.C_below HR0_1.out (hO HB)) HC0_1.out (Kd.C_below HR0_2.out (hO HB)) HC0_2.out A23.out).mono ?_); rintro e w29 ⟨rfl, hb⟩; refine ⟨_, rfl, ?_⟩; replace BK1 := Aside0.mk (blk_below (g := gb1) (o := .cells #[.slice A0_0 l0_0.length c0_0, .slice A0_1 l0_1.length c0_1, .slice A0_2 l0_2.length c0_2, .int .i64 a0_3] 30 (0, 0)) (by refine blk_far ?_ NB1_3.out _; refine blk_far ?_ NB1_3.out _; refine blk_far ?_ NB1_3.out _; exact BK1.out) hb); replace BK3 := Aside0.mk (blk_below (g := gb3) (o := .cells #[.int .i64 ((rd_T48 l1 x41_2).f0), .int .i64 ((rd_T48 l1 x41_2).f1), .int .i64 ((rd_T48 l1 x41_2).f2)] 48 (0, 0)) (by refine blk_put (cs := #[.int .i64 ((rd_T48 l1 x41_2).f0), .int .i64 ((rd_T48 l1 x41_2).f1), .int .i64 0]) ?_ 2 _ rfl; refine blk_put (cs := #[.int .i64 ((rd_T48 l1 x41_2).f0), .int .i64 0, .int .i64 0]) ?_ 1 _ rfl; refine blk_put (cs := #[.int .i64 0, .int .i64 0, .int .i64 0]) ?_ 0 _ rfl; exact BK3.out) hb); replace HB := mSx HB hb; (try clear hb)))
      go_roundg k2
      case measure => have := HK1.out; have := HK2.out; omega
      case rel => exact ⟨(wrap64 (x41_2 + 1)), rfl, H', ⟨by have := HK1.out; have := HK2.out; omega⟩, ⟨BK1.out⟩, ⟨HB.out⟩⟩
     rw [if_neg c20] at H
     have c20b0 := decide_eq_false c20
     clear c20
     have H' := Aside0.mk H
     clear H
     go_wp2
     go_loopg [11, 56] k2 (fun kq v11 v56 w' => ∃ (x11_3 : Bool) (x56_3 : Int), v11 = .bool x11_3 ∧ v56 = .int .i64 x56_3 ∧ Aside0 (rehearse_Valid.l2 kq l1 x11_3 l1 (l1.length : Int) x56_3 l0_0 l0_1 l0_2 a0_3 = some r) ∧ Aside0 (kq ≤ k2) ∧ Aside0 (w'.heap[gb1]? = some (.cells #[(.slice A0_0 l0_0.length c0_0), (.slice A0_1 l0_1.length c0_1), (.slice A0_2 l0_2.length c0_2), .int .i64 a0_3] 30 (0, 0))) ∧ Aside0 (Below w.heap.size w w'))
     case atStart => exact ⟨(false), (0), rfl, rfl, H', ⟨Nat.le_refl _⟩, ⟨BK1.out⟩, ⟨HB.out⟩⟩
     case round =>
      clear H'
      clear c20b0
      obtain ⟨x11_3, x56_3, rfl, rfl, HA, HK3, BK1, HB⟩ := hrel
      cases gk with
      | zero => exact absurd HA.out (by simp [rehearse_Valid.l2])
      | succ k3 =>
       have H := HA.out
       clear HA
       simp only [rehearse_Valid.l2] at H
       by_cases c35 : x56_3 < (l1.length : Int)
       rotate_left
       ·
        rw [if_neg c35] at H
        have c35b0 := decide_eq_false c35
        clear c35
        by_cases c93 : x11_3 = true
        ·
         subst c93
         rw [if_pos rfl] at H
         obtain rfl := Option.some.inj H
         go_wp2
         go_ret
         exact ⟨rfl, HB.out⟩
        replace c93 := Bool.eq_false_iff.mpr c93
        subst c93
        rw [if_neg (show ¬ (false = true) by decide)] at H
        obtain rfl := Option.some.inj H
        go_wp2
        go_ret
        exact ⟨rfl, HB.out⟩
       rw [if_pos c35] at H
       have c35b0 := decide_eq_true c35
       clear c35
       obtain ⟨c36, H⟩ : (0 ≤ x56_3) ∧ _ := mIf H
       have c36b0 := decide_eq_true c36
       clear c36
       obtain ⟨c37, H⟩ : (x56_3 < (l1.length : Int)) ∧ _ := mIf H
       have c37b0 := decide_eq_true c37
       clear c37
       have c38b0 := eq_true (of_decide_eq_true (by assumption) : 0 ≤ x56_3)
       obtain ⟨c39, H⟩ : (x56_3 ≤ (l1.length : Int)) ∧ _ := mIf H
       have c39b0 := eq_true c39
       have c39b1 := decide_eq_true c39
       clear c39
       obtain ⟨y197, hy197⟩ : ∃ y_ : List (S48), y_ = (l1.take (x56_3 : Int).toNat) := ⟨_, rfl⟩
       rw [← hy197] at H
       have Ny197 := Aside0.mk hy197
       clear hy197
       have H' := Aside0.mk H
       clear H
       have p195 : 0 ≤ (x56_3 : Int) := of_decide_eq_true (by assumption)
       have q195 : x56_3 < (l1.length : Int) := of_decide_eq_true (by assumption)
       obtain ⟨ad195, e195, hx195_0, hx195_1, hx195_2⟩ := at_T48 HR1.out x56_3 p195 q195
       cases e195
       replace hx195_0 := mHx HB hx195_0
       replace hx195_1 := mHx HB hx195_1
       replace hx195_2 := mHx HB hx195_2
       replace p195 := eq_true p195
       replace q195 := eq_true q195
       go_wp2_with (first | ((with_reducible refine gate_dst (N := 13) rfl ?_); refine box_event rfl (N := 13) rfl (cs := #[.int .i64 0, .int .i64 0, .int .i64 0]) (t := 48) (by first | (go_simp; done) | (go_simp; rfl)) ?_; intro gb4 hg w40 hbox hb; have BK4 := Aside0.mk hbox; have GW4 := Aside0.mk ((by rw [hg]; exact (below_size (hO HB)) : w.heap.size ≤ gb4)); have GE4 := GW4; replace HB := mSx HB hb; have NB1_4 := mNe BK1 hg; have NB4_1 := mSy NB1_4; replace BK1 := mBb BK1 hb; clear hb hbox hg; have hnb41 := NB4_1.out; have hnc41 := NB1_4.out; have hcz42 := blk_cell BK4.out; have hfz42 := blk_frozen BK4.out) | ((with_reducible refine gate_store (t := 48) (p := 13) rfl ?_); refine store_event (t := 48) (p := 13) (v := ?vo_w43) (w1 := (((w40.setCell ⟨gb4, 0, none⟩ (.int .i64 ((rd_T48 l1 x56_3).f0))).setCell ⟨gb4, 1, none⟩ (.int .i64 ((rd_T48 l1 x56_3).f1))).setCell ⟨gb4, 2, none⟩ (.int .i64 ((rd_T48 l1 x56_3).f2)))) ?hg ?ho ?hn ?hr ?_; (case ho => rfl); (case hg => rfl); (case hn => rfl); (case hr => first | (go_simp; done) | (go_simp; rfl)); intro w43 hw; have n0_ : Aside0 (w43.heap[gb1]? = some (.cells #[.slice A0_0 l0_0.length c0_0, .slice A0_1 l0_1.length c0_1, .slice A0_2 l0_2.length c0_2, .int .i64 a0_3] 30 (0, 0))) := ⟨(by rw [hw]; exact (by refine blk_far ?_ NB1_4.out _; refine blk_far ?_ NB1_4.out _; refine blk_far ?_ NB1_4.out _; exact BK1.out))⟩; have n1_ : Aside0 (w43.heap[gb4]? = some (.cells #[.int .i64 ((rd_T48 l1 x56_3).f0), .int .i64 ((rd_T48 l1 x56_3).f1), .int .i64 ((rd_T48 l1 x56_3).f2)] 48 (0, 0))) := ⟨(by rw [hw]; exact (by refine blk_put (cs := #[.int .i64 ((rd_T48 l1 x56_3).f0), .int .i64 ((rd_T48 l1 x56_3).f1), .int .i64 0]) ?_ 2 _ rfl; refine blk_put (cs := #[.int .i64 ((rd_T48 l1 x56_3).f0), .int .i64 0, .int .i64 0]) ?_ 1 _ rfl; refine blk_put (cs := #[.int .i64 0, .int .i64 0, .int .i64 0]) ?_ 0 _ rfl; exact BK4.out))⟩; have n2_ : Aside0 (Below w.heap.size w w43) := ⟨(by rw [hw]; exact (hO HB))⟩; clear hw; clear BK1; clear BK4; clear HB; have BK1 := n0_; have BK4 := n1_; have HB := n2_; clear n0_ n1_ n2_; have q44 : (x56_3 : Int) ≤ ((l1.length : Int) : Int) := of_decide_eq_true (by assumption); obtain ⟨i044, hi044, _, hsz44, _⟩ := info_parts info48; have hroom44 : l1.length ≤ c1 := HC1.out; have hC44 : Kd.C k48 _ (some ad195) l1.length l1 := HR1.out; have hcut44 := cut_to (P := Try.prog) 37 48 .i64 Try.underlying37 hi044 (some ad195) l1.length c1 x56_3 (of_decide_eq_true (by assumption)) q44 hroom44; have hr44 := Kd.C_take (m := (x56_3 : Int).toNat) hC44 (by omega); have hy44 : y197.length = (x56_3 : Int).toNat := (by rw [Ny197.out, List.length_take]; omega); rw [← Ny197.out] at hr44; rw [← hy44] at hcut44; have HR200 := Aside0.mk hr44; have HC200 := Aside0.mk (show y197.length ≤ c1 from by omega); clear hr44 hC44 hroom44 hi044 hsz44; have KY44 := Aside0.mk hy44; clear hy44; replace q44 := eq_true q44))
       go_loopg [11, 65] k3 (fun kq v11 v65 w' => ∃ (x11_4 : Bool) (x65_4 : Int), v11 = .bool x11_4 ∧ v65 = .int .i64 x65_4 ∧ Aside0 (rehearse_Valid.l3 kq l1 x11_4 x56_3 l1 (l1.length : Int) x56_3 y197 (y197.length : Int) x65_4 l0_0 l0_1 l0_2 a0_3 ((rd_T48 l1 x56_3).f0) ((rd_T48 l1 x56_3).f1) ((rd_T48 l1 x56_3).f2) = some r) ∧ Aside0 (kq ≤ k3) ∧ Aside0 (w'.heap[gb1]? = some (.cells #[(.slice A0_0 l0_0.length c0_0), (.slice A0_1 l0_1.length c0_1), (.slice A0_2 l0_2.length c0_2), .int .i64 a0_3] 30 (0, 0))) ∧ Aside0 (w'.heap[gb4]? = some (.cells #[.int .i64 ((rd_T48 l1 x56_3).f0), .int .i64 ((rd_T48 l1 x56_3).f1), .int .i64 ((rd_T48 l1 x56_3).f2)] 48 (0, 0))) ∧ Aside0 (Below w.heap.size w w'))
       case atStart => exact ⟨(x11_3), (0), rfl, rfl, H', ⟨Nat.le_refl _⟩, ⟨BK1.out⟩, ⟨BK4.out⟩, ⟨HB.out⟩⟩
       case round =>
        clear H'
        clear c35b0 c36b0 c37b0 c38b0 c39b0 c39b1 q44 hx195_0 hx195_1 hx195_2 p195 q195
        obtain ⟨x11_4, x65_4, rfl, rfl, HA, HK4, BK1, BK4, HB⟩ := hrel
        cases gk with
        | zero => exact absurd HA.out (by simp [rehearse_Valid.l3])
        | succ k4 =>
         have H := HA.out
         clear HA
         simp only [rehearse_Valid.l3] at H
         by_cases c45 : x65_4 < (y197.length : Int)
         rotate_left
         ·
          rw [if_neg c45] at H
          have c45b0 := decide_eq_false c45
          clear c45
          have H' := Aside0.mk H
          clear H
          go_wp2
          go_roundg k4
          case measure => have := HK1.out; have := HK2.out; have := HK3.out; have := HK4.out; omega
          case rel => exact ⟨(x11_4), (wrap64 (x56_3 + 1)), rfl, rfl, H', ⟨by have := HK1.out; have := HK2.out; have := HK3.out; have := HK4.out; omega⟩, ⟨BK1.out⟩, ⟨HB.out⟩⟩
         rw [if_pos c45] at H
         have c45b0 := decide_eq_true c45
         clear c45
         obtain ⟨c46, H⟩ : (0 ≤ x65_4) ∧ _ := mIf H
         have c46b0 := decide_eq_true c46
         clear c46
         obtain ⟨c47, H⟩ : (x65_4 < (y197.length : Int)) ∧ _ := mIf H
         have c47b0 := decide_eq_true c47
         clear c47
         replace H := Option.bind_eq_some_iff.mp H
         obtain ⟨t203, A480, H⟩ := H
         try dsimp only at H
         have A48 := Aside0.mk A480
         clear A480
         by_cases c49 : t203 = true
         rotate_left
         ·
          replace c49 := Bool.eq_false_iff.mpr c49
          subst c49
          rw [if_neg (show ¬ (false = true) by decide)] at H
          have H' := Aside0.mk H
          clear H
          have p201 : 0 ≤ (x65_4 : Int) := of_decide_eq_true (by assumption)
          have q201 : x65_4 < (y197.length : Int) := of_decide_eq_true (by assumption)
          obtain ⟨ad201, e201, hx201_0, hx201_1, hx201_2⟩ := at_T48 HR200.out x65_4 p201 q201
          obtain rfl : ad195 = ad201 := (by injection e201)
          replace hx201_0 := mHx HB hx201_0
          replace hx201_1 := mHx HB hx201_1
          replace hx201_2 := mHx HB hx201_2
          replace p201 := eq_true p201
          replace q201 := eq_true q201
          go_wp2_with (first | ((with_reducible refine gate_dst (N := 15) rfl ?_); refine box_event rfl (N := 15) rfl (cs := #[.int .i64 0, .int .i64 0, .int .i64 0]) (t := 48) (by first | (go_simp; done) | (go_simp; rfl)) ?_; intro gb5 hg w85 hbox hb; have BK5 := Aside0.mk hbox; have GW5 := Aside0.mk ((by rw [hg]; exact (below_size (hO HB)) : w.heap.size ≤ gb5)); have GE5 := GW5; replace HB := mSx HB hb; have NB1_5 := mNe BK1 hg; have NB5_1 := mSy NB1_5; replace BK1 := mBb BK1 hb; have NB4_5 := mNe BK4 hg; have NB5_4 := mSy NB4_5; replace BK4 := mBb BK4 hb; clear hb hbox hg; have hnb86 := NB5_1.out; have hnc86 := NB1_5.out; have hnb87 := NB5_4.out; have hnc87 := NB4_5.out; have hcz88 := blk_cell BK5.out; have hfz88 := blk_frozen BK5.out; have hnb89 := NB1_4.out; have hnc89 := NB4_1.out; have hcz90 := blk_cell BK1.out; have hfz90 := blk_frozen BK1.out; have hcz91 := blk_cell BK4.out; have hfz91 := blk_frozen BK4.out) | ((with_reducible refine gate_callee (f := 35) rfl ?_); refine goesL_ (some 77) rfl rfl Try.func35 (by kernel_rfl) rfl #[.agg #[.slice A0_0 l0_0.length c0_0, .slice A0_1 l0_1.length c0_1, .slice A0_2 l0_2.length c0_2, .int .i64 a0_3], .int .i64 x56_3, .int .i64 ((rd_T48 l1 x56_3).f2), .int .i64 x65_4, .int .i64 ((rd_T48 y197 x65_4).f2)] rfl (mA5 rfl rfl rfl rfl rfl) ?_; (with_reducible refine (rehearse_Task_meet.calls _ _ l0_0 _ _ l0_1 _ _ l0_2 a0_3 x56_3 ((rd_T48 l1 x56_3).f2) x65_4 ((rd_T48 y197 x65_4).f2) false _ (Kd.C_below HR0_0.out (hO HB)) HC0_0.out (Kd.C_below HR0_1.out (hO HB)) HC0_1.out (Kd.C_below HR0_2.out (hO HB)) HC0_2.out A48.out).mono ?_); rintro e w92 ⟨rfl, hb⟩; refine ⟨_, rfl, ?_⟩; replace BK1 := Aside0.mk (blk_below (g := gb1) (o := .cells #[.slice A0_0 l0_0.length c0_0, .slice A0_1 l0_1.length c0_1, .slice A0_2 l0_2.length c0_2, .int .i64 a0_3] 30 (0, 0)) (by refine blk_far ?_ NB1_5.out _; refine blk_far ?_ NB1_5.out _; refine blk_far ?_ NB1_5.out _; exact BK1.out) hb); replace BK4 := Aside0.mk (blk_below (g := gb4) (o := .cells #[.int .i64 ((rd_T48 l1 x56_3).f0), .int .i64 ((rd_T48 l1 x56_3).f1), .int .i64 ((rd_T48 l1 x56_3).f2)] 48 (0, 0)) (by refine blk_far ?_ NB4_5.out _; refine blk_far ?_ NB4_5.out _; refine blk_far ?_ NB4_5.out _; exact BK4.out) hb); replace BK5 := Aside0.mk (blk_below (g := gb5) (o := .cells #[.int .i64 ((rd_T48 y197 x65_4).f0), .int .i64 ((rd_T48 y197 x65_4).f1), .int .i64 ((rd_T48 y197 x65_4).f2)] 48 (0, 0)) (by refine blk_put (cs := #[.int .i64 ((rd_T48 y197 x65_4).f0), .int .i64 ((rd_T48 y197 x65_4).f1), .int .i64 0]) ?_ 2 _ rfl; refine blk_put (cs := #[.int .i64 ((rd_T48 y197 x65_4).f0), .int .i64 0, .int .i64 0]) ?_ 1 _ rfl; refine blk_put (cs := #[.int .i64 0, .int .i64 0, .int .i64 0]) ?_ 0 _ rfl; exact BK5.out) hb); replace HB := mSx HB hb; (try clear hb)))
          go_roundg k4
          case measure => have := HK1.out; have := HK2.out; have := HK3.out; have := HK4.out; omega
          case rel => exact ⟨(x11_4), (wrap64 (x65_4 + 1)), rfl, rfl, H', ⟨by have := HK1.out; have := HK2.out; have := HK3.out; have := HK4.out; omega⟩, ⟨BK1.out⟩, ⟨BK4.out⟩, ⟨HB.out⟩⟩
         subst c49
         rw [if_pos rfl] at H
         by_cases c50 : ((rd_T48 l1 x56_3).f1) = ((rd_T48 y197 x65_4).f1)
         ·
          rw [if_pos c50] at H
          have c50b0 := beq_iff_eq.mpr c50
          have c50b1 := bne_eq_false_iff_eq.mpr c50
          clear c50
          obtain rfl := Option.some.inj H
          have p201 : 0 ≤ (x65_4 : Int) := of_decide_eq_true (by assumption)
          have q201 : x65_4 < (y197.length : Int) := of_decide_eq_true (by assumption)
          obtain ⟨ad201, e201, hx201_0, hx201_1, hx201_2⟩ := at_T48 HR200.out x65_4 p201 q201
          obtain rfl : ad195 = ad201 := (by injection e201)
          replace hx201_0 := mHx HB hx201_0
          replace hx201_1 := mHx HB hx201_1
          replace hx201_2 := mHx HB hx201_2
          replace p201 := eq_true p201
          replace q201 := eq_true q201
          go_wp2_with (first | ((with_reducible refine gate_dst (N := 15) rfl ?_); refine box_event rfl (N := 15) rfl (cs := #[.int .i64 0, .int .i64 0, .int .i64 0]) (t := 48) (by first | (go_simp; done) | (go_simp; rfl)) ?_; intro gb5 hg w51 hbox hb; have BK5 := Aside0.mk hbox; have GW5 := Aside0.mk ((by rw [hg]; exact (below_size (hO HB)) : w.heap.size ≤ gb5)); have GE5 := GW5; replace HB := mSx HB hb; have NB1_5 := mNe BK1 hg; have NB5_1 := mSy NB1_5; replace BK1 := mBb BK1 hb; have NB4_5 := mNe BK4 hg; have NB5_4 := mSy NB4_5; replace BK4 := mBb BK4 hb; clear hb hbox hg; have hnb52 := NB5_1.out; have hnc52 := NB1_5.out; have hnb53 := NB5_4.out; have hnc53 := NB4_5.out; have hcz54 := blk_cell BK5.out; have hfz54 := blk_frozen BK5.out; have hnb55 := NB1_4.out; have hnc55 := NB4_1.out; have hcz56 := blk_cell BK1.out; have hfz56 := blk_frozen BK1.out; have hcz57 := blk_cell BK4.out; have hfz57 := blk_frozen BK4.out) | ((with_reducible refine gate_callee (f := 35) rfl ?_); refine goesL_ (some 77) rfl rfl Try.func35 (by kernel_rfl) rfl #[.agg #[.slice A0_0 l0_0.length c0_0, .slice A0_1 l0_1.length c0_1, .slice A0_2 l0_2.length c0_2, .int .i64 a0_3], .int .i64 x56_3, .int .i64 ((rd_T48 l1 x56_3).f2), .int .i64 x65_4, .int .i64 ((rd_T48 y197 x65_4).f2)] rfl (mA5 rfl rfl rfl rfl rfl) ?_; (with_reducible refine (rehearse_Task_meet.calls _ _ l0_0 _ _ l0_1 _ _ l0_2 a0_3 x56_3 ((rd_T48 l1 x56_3).f2) x65_4 ((rd_T48 y197 x65_4).f2) true _ (Kd.C_below HR0_0.out (hO HB)) HC0_0.out (Kd.C_below HR0_1.out (hO HB)) HC0_1.out (Kd.C_below HR0_2.out (hO HB)) HC0_2.out A48.out).mono ?_); rintro e w58 ⟨rfl, hb⟩; refine ⟨_, rfl, ?_⟩; replace BK1 := Aside0.mk (blk_below (g := gb1) (o := .cells #[.slice A0_0 l0_0.length c0_0, .slice A0_1 l0_1.length c0_1, .slice A0_2 l0_2.length c0_2, .int .i64 a0_3] 30 (0, 0)) (by refine blk_far ?_ NB1_5.out _; refine blk_far ?_ NB1_5.out _; refine blk_far ?_ NB1_5.out _; exact BK1.out) hb); replace BK4 := Aside0.mk (blk_below (g := gb4) (o := .cells #[.int .i64 ((rd_T48 l1 x56_3).f0), .int .i64 ((rd_T48 l1 x56_3).f1), .int .i64 ((rd_T48 l1 x56_3).f2)] 48 (0, 0)) (by refine blk_far ?_ NB4_5.out _; refine blk_far ?_ NB4_5.out _; refine blk_far ?_ NB4_5.out _; exact BK4.out) hb); replace BK5 := Aside0.mk (blk_below (g := gb5) (o := .cells #[.int .i64 ((rd_T48 y197 x65_4).f0), .int .i64 ((rd_T48 y197 x65_4).f1), .int .i64 ((rd_T48 y197 x65_4).f2)] 48 (0, 0)) (by refine blk_put (cs := #[.int .i64 ((rd_T48 y197 x65_4).f0), .int .i64 ((rd_T48 y197 x65_4).f1), .int .i64 0]) ?_ 2 _ rfl; refine blk_put (cs := #[.int .i64 ((rd_T48 y197 x65_4).f0), .int .i64 0, .int .i64 0]) ?_ 1 _ rfl; refine blk_put (cs := #[.int .i64 0, .int .i64 0, .int .i64 0]) ?_ 0 _ rfl; exact BK5.out) hb); replace HB := mSx HB hb; (try clear hb); have hcz59 := blk_cell BK4.out; have hfz59 := blk_frozen BK4.out; have hcz60 := blk_cell BK5.out; have hfz60 := blk_frozen BK5.out))
          go_ret
          exact ⟨rfl, HB.out⟩
         rw [if_neg c50] at H
         have c50b0 := beq_eq_false_iff_ne.mpr c50
         have c50b1 := bne_iff_ne.mpr c50
         by_cases c61 : x11_4 = true
         ·
          subst c61
          rw [if_pos rfl] at H
          have H' := Aside0.mk H
          clear H
          have p201 : 0 ≤ (x65_4 : Int) := of_decide_eq_true (by assumption)
          have q201 : x65_4 < (y197.length : Int) := of_decide_eq_true (by assumption)
          obtain ⟨ad201, e201, hx201_0, hx201_1, hx201_2⟩ := at_T48 HR200.out x65_4 p201 q201
          obtain rfl : ad195 = ad201 := (by injection e201)
          replace hx201_0 := mHx HB hx201_0
          replace hx201_1 := mHx HB hx201_1
          replace hx201_2 := mHx HB hx201_2
          replace p201 := eq_true p201
          replace q201 := eq_true q201
          go_wp2_with (first | ((with_reducible refine gate_dst (N := 15) rfl ?_); refine box_event rfl (N := 15) rfl (cs := #[.int .i64 0, .int .i64 0, .int .i64 0]) (t := 48) (by first | (go_simp; done) | (go_simp; rfl)) ?_; intro gb5 hg w62 hbox hb; have BK5 := Aside0.mk hbox; have GW5 := Aside0.mk ((by rw [hg]; exact (below_size (hO HB)) : w.heap.size ≤ gb5)); have GE5 := GW5; replace HB := mSx HB hb; have NB1_5 := mNe BK1 hg; have NB5_1 := mSy NB1_5; replace BK1 := mBb BK1 hb; have NB4_5 := mNe BK4 hg; have NB5_4 := mSy NB4_5; replace BK4 := mBb BK4 hb; clear hb hbox hg; have hnb63 := NB5_1.out; have hnc63 := NB1_5.out; have hnb64 := NB5_4.out; have hnc64 := NB4_5.out; have hcz65 := blk_cell BK5.out; have hfz65 := blk_frozen BK5.out; have hnb66 := NB1_4.out; have hnc66 := NB4_1.out; have hcz67 := blk_cell BK1.out; have hfz67 := blk_frozen BK1.out; have hcz68 := blk_cell BK4.out; have hfz68 := blk_frozen BK4.out) | ((with_reducible refine gate_callee (f := 35) rfl ?_); refine goesL_ (some 77) rfl rfl Try.func35 (by kernel_rfl) rfl #[.agg #[.slice A0_0 l0_0.length c0_0, .slice A0_1 l0_1.length c0_1, .slice A0_2 l0_2.length c0_2, .int .i64 a0_3], .int .i64 x56_3, .int .i64 ((rd_T48 l1 x56_3).f2), .int .i64 x65_4, .int .i64 ((rd_T48 y197 x65_4).f2)] rfl (mA5 rfl rfl rfl rfl rfl) ?_; (with_reducible refine (rehearse_Task_meet.calls _ _ l0_0 _ _ l0_1 _ _ l0_2 a0_3 x56_3 ((rd_T48 l1 x56_3).f2) x65_4 ((rd_T48 y197 x65_4).f2) true _ (Kd.C_below HR0_0.out (hO HB)) HC0_0.out (Kd.C_below HR0_1.out (hO HB)) HC0_1.out (Kd.C_below HR0_2.out (hO HB)) HC0_2.out A48.out).mono ?_); rintro e w69 ⟨rfl, hb⟩; refine ⟨_, rfl, ?_⟩; replace BK1 := Aside0.mk (blk_below (g := gb1) (o := .cells #[.slice A0_0 l0_0.length c0_0, .slice A0_1 l0_1.length c0_1, .slice A0_2 l0_2.length c0_2, .int .i64 a0_3] 30 (0, 0)) (by refine blk_far ?_ NB1_5.out _; refine blk_far ?_ NB1_5.out _; refine blk_far ?_ NB1_5.out _; exact BK1.out) hb); replace BK4 := Aside0.mk (blk_below (g := gb4) (o := .cells #[.int .i64 ((rd_T48 l1 x56_3).f0), .int .i64 ((rd_T48 l1 x56_3).f1), .int .i64 ((rd_T48 l1 x56_3).f2)] 48 (0, 0)) (by refine blk_far ?_ NB4_5.out _; refine blk_far ?_ NB4_5.out _; refine blk_far ?_ NB4_5.out _; exact BK4.out) hb); replace BK5 := Aside0.mk (blk_below (g := gb5) (o := .cells #[.int .i64 ((rd_T48 y197 x65_4).f0), .int .i64 ((rd_T48 y197 x65_4).f1), .int .i64 ((rd_T48 y197 x65_4).f2)] 48 (0, 0)) (by refine blk_put (cs := #[.int .i64 ((rd_T48 y197 x65_4).f0), .int .i64 ((rd_T48 y197 x65_4).f1), .int .i64 0]) ?_ 2 _ rfl; refine blk_put (cs := #[.int .i64 ((rd_T48 y197 x65_4).f0), .int .i64 0, .int .i64 0]) ?_ 1 _ rfl; refine blk_put (cs := #[.int .i64 0, .int .i64 0, .int .i64 0]) ?_ 0 _ rfl; exact BK5.out) hb); replace HB := mSx HB hb; (try clear hb); have hcz70 := blk_cell BK4.out; have hfz70 := blk_frozen BK4.out; have hcz71 := blk_cell BK5.out; have hfz71 := blk_frozen BK5.out))
          go_roundg k4
          case measure => have := HK1.out; have := HK2.out; have := HK3.out; have := HK4.out; omega
          case rel => exact ⟨(true), (wrap64 (x65_4 + 1)), rfl, rfl, H', ⟨by have := HK1.out; have := HK2.out; have := HK3.out; have := HK4.out; omega⟩, ⟨BK1.out⟩, ⟨BK4.out⟩, ⟨HB.out⟩⟩
         replace c61 := Bool.eq_false_iff.mpr c61
         subst c61
         rw [if_neg (show ¬ (false = true) by decide)] at H
         replace H := Option.bind_eq_some_iff.mp H
         obtain ⟨t204, A720, H⟩ := H
         try dsimp only at H
         have A72 := Aside0.mk A720
         clear A720
         have H' := Aside0.mk H
         clear H
         have p201 : 0 ≤ (x65_4 : Int) := of_decide_eq_true (by assumption)
         have q201 : x65_4 < (y197.length : Int) := of_decide_eq_true (by assumption)
         obtain ⟨ad201, e201, hx201_0, hx201_1, hx201_2⟩ := at_T48 HR200.out x65_4 p201 q201
         obtain rfl : ad195 = ad201 := (by injection e201)
         replace hx201_0 := mHx HB hx201_0
         replace hx201_1 := mHx HB hx201_1
         replace hx201_2 := mHx HB hx201_2
         replace p201 := eq_true p201
         replace q201 := eq_true q201
         go_wp2_with (first | ((with_reducible refine gate_dst (N := 15) rfl ?_); refine box_event rfl (N := 15) rfl (cs := #[.int .i64 0, .int .i64 0, .int .i64 0]) (t := 48) (by first | (go_simp; done) | (go_simp; rfl)) ?_; intro gb5 hg w73 hbox hb; have BK5 := Aside0.mk hbox; have GW5 := Aside0.mk ((by rw [hg]; exact (below_size (hO HB)) : w.heap.size ≤ gb5)); have GE5 := GW5; replace HB := mSx HB hb; have NB1_5 := mNe BK1 hg; have NB5_1 := mSy NB1_5; replace BK1 := mBb BK1 hb; have NB4_5 := mNe BK4 hg; have NB5_4 := mSy NB4_5; replace BK4 := mBb BK4 hb; clear hb hbox hg; have hnb74 := NB5_1.out; have hnc74 := NB1_5.out; have hnb75 := NB5_4.out; have hnc75 := NB4_5.out; have hcz76 := blk_cell BK5.out; have hfz76 := blk_frozen BK5.out; have hnb77 := NB1_4.out; have hnc77 := NB4_1.out; have hcz78 := blk_cell BK1.out; have hfz78 := blk_frozen BK1.out; have hcz79 := blk_cell BK4.out; have hfz79 := blk_frozen BK4.out) | ((with_reducible refine gate_callee (f := 35) rfl ?_); refine goesL_ (some 77) rfl rfl Try.func35 (by kernel_rfl) rfl #[.agg #[.slice A0_0 l0_0.length c0_0, .slice A0_1 l0_1.length c0_1, .slice A0_2 l0_2.length c0_2, .int .i64 a0_3], .int .i64 x56_3, .int .i64 ((rd_T48 l1 x56_3).f2), .int .i64 x65_4, .int .i64 ((rd_T48 y197 x65_4).f2)] rfl (mA5 rfl rfl rfl rfl rfl) ?_; (with_reducible refine (rehearse_Task_meet.calls _ _ l0_0 _ _ l0_1 _ _ l0_2 a0_3 x56_3 ((rd_T48 l1 x56_3).f2) x65_4 ((rd_T48 y197 x65_4).f2) true _ (Kd.C_below HR0_0.out (hO HB)) HC0_0.out (Kd.C_below HR0_1.out (hO HB)) HC0_1.out (Kd.C_below HR0_2.out (hO HB)) HC0_2.out A48.out).mono ?_); rintro e w80 ⟨rfl, hb⟩; refine ⟨_, rfl, ?_⟩; replace BK1 := Aside0.mk (blk_below (g := gb1) (o := .cells #[.slice A0_0 l0_0.length c0_0, .slice A0_1 l0_1.length c0_1, .slice A0_2 l0_2.length c0_2, .int .i64 a0_3] 30 (0, 0)) (by refine blk_far ?_ NB1_5.out _; refine blk_far ?_ NB1_5.out _; refine blk_far ?_ NB1_5.out _; exact BK1.out) hb); replace BK4 := Aside0.mk (blk_below (g := gb4) (o := .cells #[.int .i64 ((rd_T48 l1 x56_3).f0), .int .i64 ((rd_T48 l1 x56_3).f1), .int .i64 ((rd_T48 l1 x56_3).f2)] 48 (0, 0)) (by refine blk_far ?_ NB4_5.out _; refine blk_far ?_ NB4_5.out _; refine blk_far ?_ NB4_5.out _; exact BK4.out) hb); replace BK5 := Aside0.mk (blk_below (g := gb5) (o := .cells #[.int .i64 ((rd_T48 y197 x65_4).f0), .int .i64 ((rd_T48 y197 x65_4).f1), .int .i64 ((rd_T48 y197 x65_4).f2)] 48 (0, 0)) (by refine blk_put (cs := #[.int .i64 ((rd_T48 y197 x65_4).f0), .int .i64 ((rd_T48 y197 x65_4).f1), .int .i64 0]) ?_ 2 _ rfl; refine blk_put (cs := #[.int .i64 ((rd_T48 y197 x65_4).f0), .int .i64 0, .int .i64 0]) ?_ 1 _ rfl; refine blk_put (cs := #[.int .i64 0, .int .i64 0, .int .i64 0]) ?_ 0 _ rfl; exact BK5.out) hb); replace HB := mSx HB hb; (try clear hb); have hcz81 := blk_cell BK4.out; have hfz81 := blk_frozen BK4.out; have hcz82 := blk_cell BK5.out; have hfz82 := blk_frozen BK5.out; have hcz83 := blk_cell BK1.out; have hfz83 := blk_frozen BK1.out) | (go_at_call 36; (with_reducible refine (rehearse_Task_share.calls k4 _ _ l0_0 _ _ l0_1 _ _ l0_2 a0_3 x56_3 x65_4 t204 _ (Kd.C_below HR0_0.out HB.out) HC0_0.out (Kd.C_below HR0_1.out HB.out) HC0_1.out (Kd.C_below HR0_2.out HB.out) HC0_2.out A72.out).mono ?_); rintro e w84 ⟨rfl, hb⟩; replace BK1 := mBb BK1 hb; replace BK4 := mBb BK4 hb; replace BK5 := mBb BK5 hb; replace HB := mSx HB hb; (try clear hb)))
         go_roundg k4
         case measure => have := HK1.out; have := HK2.out; have := HK3.out; have := HK4.out; omega
         case rel => exact ⟨(t204), (wrap64 (x65_4 + 1)), rfl, rfl, H', ⟨by have := HK1.out; have := HK2.out; have := HK3.out; have := HK4.out; omega⟩, ⟨BK1.out⟩, ⟨BK4.out⟩, ⟨HB.out⟩⟩
end Go.Proofs.Ytjppjppapdflmaa.PAll
