-- Written by wip/tools/handprint.py: walks of the functions that the law reaches; Lean checks them.
import Derived.Test.YtjppjppapdflmaaRMi
import Derived.Test.YtjppjppapdflmaaPAllx0
import Derived.Test.YtjppjppapdflmaaPAllf14
import Derived.Test.YtjppjppapdflmaaRRf
namespace Go.Proofs.Ytjppjppapdflmaa.PAll
open Go.RowKit Go.Proofs.YtjppjppapdflmaaW.PrintWords Go.Proofs.YtjppjppapdflmaaW.PrintLast Go.Proofs.YtjppjppapdflmaaW.PrintMore
attribute [local go_sem] max2_int min2_int max_two min_two max_three min_three max_four min_four   -- for this text's walks alone
set_option linter.unusedVariables false
set_option linter.unusedSimpArgs false

/-! ### dancestudioref50_Valid: function 19 -/
mutual
def dancestudioref50_Valid.l0 : Nat → List (S48) → Int → List (S53) → List (S55) → List (S59) → Int → Option (Int)
 | 0, _, _, _, _, _, _ => none
 | k + 1, x1, x6, x456000, x456001, x456002, x456003 => if x6 < (x1.length : Int) then (if 0 ≤ x6 then (if ((rd_T48 x1 x6).f0) = x6 then (dancestudioref50_Valid.l0 k x1 (wrap64 (x6 + 1)) x456000 x456001 x456002 x456003) else (some 2)) else (none)) else (dancestudioref50_Valid.l1 k x1 0 x456000 x456001 x456002 x456003)
def dancestudioref50_Valid.l1 : Nat → List (S48) → Int → List (S53) → List (S55) → List (S59) → Int → Option (Int)
 | 0, _, _, _, _, _, _ => none
 | k + 1, x1, x7, x456000, x456001, x456002, x456003 => if x7 < (x1.length : Int) then (if 0 ≤ x7 then ((dancestudioref50_alone.f k x456000 x456001 x456002 x456003 ((rd_T48 x1 x7).f0) ((rd_T48 x1 x7).f1) ((rd_T48 x1 x7).f2)).bind fun t459 => (if t459 = 0 then (dancestudioref50_Valid.l1 k x1 (wrap64 (x7 + 1)) x456000 x456001 x456002 x456003) else (some t459))) else (none)) else (dancestudioref50_Valid.l2 k x1 0 x456000 x456001 x456002 x456003)
def dancestudioref50_Valid.l2 : Nat → List (S48) → Int → List (S53) → List (S55) → List (S59) → Int → Option (Int)
 | 0, _, _, _, _, _, _ => none
 | k + 1, x1, x9, x456000, x456001, x456002, x456003 => if x9 < (x1.length : Int) then (dancestudioref50_Valid.l3 k x1 x9 0 x456000 x456001 x456002 x456003) else (dancestudioref50_Valid.l4 k x1 0 x456000 x456001 x456002 x456003)
def dancestudioref50_Valid.l3 : Nat → List (S48) → Int → Int → List (S53) → List (S55) → List (S59) → Int → Option (Int)
 | 0, _, _, _, _, _, _, _ => none
 | k + 1, x1, x9, x10, x456000, x456001, x456002, x456003 => if x10 < x9 then (if 0 ≤ x9 then (if x9 < (x1.length : Int) then (if 0 ≤ x10 then (if x10 < (x1.length : Int) then ((dancestudioref50_meet.f x456000 x456001 x456002 x456003 ((rd_T48 x1 x9).f0) ((rd_T48 x1 x9).f1) ((rd_T48 x1 x9).f2) ((rd_T48 x1 x10).f0) ((rd_T48 x1 x10).f1) ((rd_T48 x1 x10).f2)).bind fun t462 => (if t462 = true then (if ((rd_T48 x1 x9).f1) = ((rd_T48 x1 x10).f1) then (some 41) else (dancestudioref50_Valid.l3 k x1 x9 (wrap64 (x10 + 1)) x456000 x456001 x456002 x456003)) else (dancestudioref50_Valid.l3 k x1 x9 (wrap64 (x10 + 1)) x456000 x456001 x456002 x456003))) else (none)) else (none)) else (none)) else (none)) else (dancestudioref50_Valid.l2 k x1 (wrap64 (x9 + 1)) x456000 x456001 x456002 x456003)
def dancestudioref50_Valid.l4 : Nat → List (S48) → Int → List (S53) → List (S55) → List (S59) → Int → Option (Int)
 | 0, _, _, _, _, _, _ => none
 | k + 1, x1, x11, x456000, x456001, x456002, x456003 => if x11 < (x1.length : Int) then (dancestudioref50_Valid.l5 k x1 x11 0 x456000 x456001 x456002 x456003) else (some 0)
def dancestudioref50_Valid.l5 : Nat → List (S48) → Int → Int → List (S53) → List (S55) → List (S59) → Int → Option (Int)
 | 0, _, _, _, _, _, _, _ => none
 | k + 1, x1, x11, x12, x456000, x456001, x456002, x456003 => if x12 < x11 then (if 0 ≤ x11 then (if x11 < (x1.length : Int) then (if 0 ≤ x12 then (if x12 < (x1.length : Int) then ((dancestudioref50_meet.f x456000 x456001 x456002 x456003 ((rd_T48 x1 x11).f0) ((rd_T48 x1 x11).f1) ((rd_T48 x1 x11).f2) ((rd_T48 x1 x12).f0) ((rd_T48 x1 x12).f1) ((rd_T48 x1 x12).f2)).bind fun t467 => (if t467 = true then (if x11 < (x456000.length : Int) then (if x12 < (x456000.length : Int) then ((dancestudioref50_common.f k ((rd_T53 x456000 x11).f0) ((rd_T53 x456000 x11).f1) ((rd_T53 x456000 x11).f2) ((rd_T53 x456000 x12).f0) ((rd_T53 x456000 x12).f1) ((rd_T53 x456000 x12).f2)).bind fun t470 => (if t470 = true then (some 40) else (dancestudioref50_Valid.l5 k x1 x11 (wrap64 (x12 + 1)) x456000 x456001 x456002 x456003))) else (none)) else (none)) else (dancestudioref50_Valid.l5 k x1 x11 (wrap64 (x12 + 1)) x456000 x456001 x456002 x456003))) else (none)) else (none)) else (none)) else (none)) else (dancestudioref50_Valid.l4 k x1 (wrap64 (x11 + 1)) x456000 x456001 x456002 x456003)
end
def dancestudioref50_Valid.f (k : Nat) (l0_0 : List (S53)) (l0_1 : List (S55)) (l0_2 : List (S59)) (a0_3 : Int) (l1 : List (S48)) : Option (Int) := (dancestudioref50_Check.f k l0_0 l0_1 l0_2 a0_3).bind fun t456 => (if t456 = 0 then (if (l1.length : Int) = (l0_0.length : Int) then (dancestudioref50_Valid.l0 k l1 0 l0_0 l0_1 l0_2 a0_3) else (some 2)) else (some t456))
def dancestudioref50_Valid.T23 : Bool × List (List Nat × List Nat) := (true, [([], []), ([], []), ([], []), ([1, 2], [1, 2]), ([3], [3]), ([], []), ([], []), ([5, 6], [5, 6]), ([7], [7]), ([0, 4, 8], [0, 4, 8]), ([9, 9], [9]), ([10], [10]), ([10], [10]), ([11, 12, 10], [10, 11, 12]), ([13, 10], [10, 13]), ([14, 10], [10, 14]), ([10], [10]), ([10], [10]), ([16, 17, 10], [10, 16, 17]), ([18, 10], [10, 18]), ([19, 10], [10, 19]), ([15, 20, 10], [10, 15, 20]), ([10, 21], [10, 21])])
def dancestudioref50_Valid.B23 : List Nat := [0, 0, 0, 6, 14, 0, 0, 96, 224, 511, 1023, 2047, 2047, 8191, 16383, 32767, 2047, 2047, 198655, 460799, 985087, 2097151, 4194303]
theorem dancestudioref50_Valid.tab23 : rtab .any (opsOf Try.f19 23) = dancestudioref50_Valid.T23 := by kernel_rfl
theorem dancestudioref50_Valid.bits23 : waitsOk dancestudioref50_Valid.T23.2 dancestudioref50_Valid.B23 = true := by kernel_rfl
def dancestudioref50_Valid.T31 : Bool × List (List Nat × List Nat) := (true, [([], []), ([], []), ([], []), ([1, 2], [1, 2]), ([3], [3]), ([], []), ([], []), ([5, 6], [5, 6]), ([7], [7]), ([0, 4, 8], [0, 4, 8]), ([9, 9], [9]), ([10], [10]), ([11, 10], [10, 11]), ([10], [10]), ([12, 13, 10], [10, 12, 13]), ([14, 10], [10, 14]), ([10], [10]), ([16, 10], [10, 16]), ([10], [10]), ([17, 18, 10], [10, 17, 18]), ([19, 10], [10, 19]), ([15, 20, 10, 10], [10, 15, 20]), ([10, 21], [10, 21])])
def dancestudioref50_Valid.B31 : List Nat := [0, 0, 0, 6, 14, 0, 0, 96, 224, 511, 1023, 2047, 4095, 2047, 16383, 32767, 2047, 67583, 2047, 460799, 985087, 2097151, 4194303]
theorem dancestudioref50_Valid.tab31 : rtab .any (opsOf Try.f19 31) = dancestudioref50_Valid.T31 := by kernel_rfl
theorem dancestudioref50_Valid.bits31 : waitsOk dancestudioref50_Valid.T31.2 dancestudioref50_Valid.B31 = true := by kernel_rfl
set_option maxHeartbeats 8000000 in
set_option maxRecDepth 100000 in
theorem dancestudioref50_Valid.calls (k : Nat) (A0_0 : Option Addr) (c0_0 : Nat) (l0_0 : List (S53)) (A0_1 : Option Addr) (c0_1 : Nat) (l0_1 : List (S55)) (A0_2 : Option Addr) (c0_2 : Nat) (l0_2 : List (S59)) (a0_3 : Int) (A1 : Option Addr) (c1 : Nat) (l1 : List (S48)) (r : Int) (w : World) (hr0_0 : Kd.C k53 w A0_0 l0_0.length l0_0) (hc0_0 : l0_0.length ≤ c0_0) (hr0_1 : Kd.C k55 w A0_1 l0_1.length l0_1) (hc0_1 : l0_1.length ≤ c0_1) (hr0_2 : Kd.C k59 w A0_2 l0_2.length l0_2) (hc0_2 : l0_2.length ≤ c0_2) (hr1 : Kd.C k48 w A1 l1.length l1) (hc1 : l1.length ≤ c1) (h : dancestudioref50_Valid.f k l0_0 l0_1 l0_2 a0_3 l1 = some r) :
  Calls Try.prog 19 #[.agg #[.slice A0_0 l0_0.length c0_0, .slice A0_1 l0_1.length c0_1, .slice A0_2 l0_2.length c0_2, .int .i64 a0_3], .slice A1 l1.length c1] w fun e w' => e = .returned (.int .i64 r) ∧ Below w.heap.size w w' := by
 have hu30 := Try.underlying26
 have hu48 := Try.underlying48
 have hu53 := Try.underlying53
 have HR0_0 := Aside0.mk hr0_0
 have HC0_0 := Aside0.mk hc0_0
 clear hr0_0 hc0_0
 have HR0_1 := Aside0.mk hr0_1
 have HC0_1 := Aside0.mk hc0_1
 clear hr0_1 hc0_1
 have HR0_2 := Aside0.mk hr0_2
 have HC0_2 := Aside0.mk hc0_2
 clear hr0_2 hc0_2
 have HR1 := Aside0.mk hr1
 have HC1 := Aside0.mk hc1
 clear hr1 hc1
 have HB := Aside0.mk (Below.refl w.heap.size w)
 have H := h
 unfold dancestudioref50_Valid.f at H
 clear h
 replace H := Option.bind_eq_some_iff.mp H
 obtain ⟨t456, A30, H⟩ := H
 try dsimp only at H
 have A3 := Aside0.mk A30
 clear A30
 by_cases c4 : t456 = 0
 rotate_left
 ·
  rw [if_neg c4] at H
  have c4b0 := beq_eq_false_iff_ne.mpr c4
  have c4b1 := bne_iff_ne.mpr c4
  obtain rfl := Option.some.inj H
  go_enter Try.func19, Try.ntmps19
  go_wp2_with (first | ((with_reducible refine gate_dst (N := 2) rfl ?_); refine box_event rfl (N := 2) rfl (cs := #[.slice A0_0 l0_0.length c0_0, .slice A0_1 l0_1.length c0_1, .slice A0_2 l0_2.length c0_2, .int .i64 a0_3]) (t := 26) (by first | (go_simp; done) | (go_simp; rfl)) ?_; intro gb1 hg w60 hbox hb; have BK1 := Aside0.mk hbox; have GW1 := mGw HB hg; have GE1 := GW1; replace HB := mSt HB hb; clear hb hbox hg; have hcz61 := blk_cell BK1.out; have hfz61 := blk_frozen BK1.out) | ((with_reducible refine gate_callee (f := 14) rfl ?_); refine goesL_ (some 14) rfl rfl Try.func14 (by kernel_rfl) rfl #[.agg #[.slice A0_0 l0_0.length c0_0, .slice A0_1 l0_1.length c0_1, .slice A0_2 l0_2.length c0_2, .int .i64 a0_3]] rfl (mA1 rfl) ?_; (with_reducible refine (dancestudioref50_Check.calls k _ _ l0_0 _ _ l0_1 _ _ l0_2 a0_3 t456 _ (Kd.C_below HR0_0.out HB.out) HC0_0.out (Kd.C_below HR0_1.out HB.out) HC0_1.out (Kd.C_below HR0_2.out HB.out) HC0_2.out A3.out).mono ?_); rintro e w62 ⟨rfl, hb⟩; refine ⟨_, rfl, ?_⟩; replace BK1 := mBb BK1 hb; replace HB := mSt HB hb; (try clear hb)))
  go_ret
  exact ⟨rfl, HB.out⟩
 rw [if_pos c4] at H
 have c4b0 := beq_iff_eq.mpr c4
 have c4b1 := bne_eq_false_iff_eq.mpr c4
 clear c4
 by_cases c5 : (l1.length : Int) = (l0_0.length : Int)
 rotate_left
 ·
  rw [if_neg c5] at H
  have c5b0 := beq_eq_false_iff_ne.mpr c5
  have c5b1 := bne_iff_ne.mpr c5
  have c5b2 : (l1.length == l0_0.length) = false := by first | simpa using c5 | (simp at c5 ⊢; omega)
  obtain rfl := Option.some.inj H
  go_enter Try.func19, Try.ntmps19
  go_wp2_with (first | ((with_reducible refine gate_dst (N := 2) rfl ?_); refine box_event rfl (N := 2) rfl (cs := #[.slice A0_0 l0_0.length c0_0, .slice A0_1 l0_1.length c0_1, .slice A0_2 l0_2.length c0_2, .int .i64 a0_3]) (t := 26) (by first | (go_simp; done) | (go_simp; rfl)) ?_; intro gb1 hg w56 hbox hb; have BK1 := Aside0.mk hbox; have GW1 := mGw HB hg; have GE1 := GW1; replace HB := mSt HB hb; clear hb hbox hg; have hcz57 := blk_cell BK1.out; have hfz57 := blk_frozen BK1.out) | ((with_reducible refine gate_callee (f := 14) rfl ?_); refine goesL_ (some 14) rfl rfl Try.func14 (by kernel_rfl) rfl #[.agg #[.slice A0_0 l0_0.length c0_0, .slice A0_1 l0_1.length c0_1, .slice A0_2 l0_2.length c0_2, .int .i64 a0_3]] rfl (mA1 rfl) ?_; (with_reducible refine (dancestudioref50_Check.calls k _ _ l0_0 _ _ l0_1 _ _ l0_2 a0_3 t456 _ (Kd.C_below HR0_0.out HB.out) HC0_0.out (Kd.C_below HR0_1.out HB.out) HC0_1.out (Kd.C_below HR0_2.out HB.out) HC0_2.out A3.out).mono ?_); rintro e w58 ⟨rfl, hb⟩; refine ⟨_, rfl, ?_⟩; replace BK1 := mBb BK1 hb; replace HB := mSt HB hb; (try clear hb); have hcz59 := blk_cell BK1.out; have hfz59 := blk_frozen BK1.out))
  go_ret
  exact ⟨rfl, HB.out⟩
 rw [if_pos c5] at H
 have c5b0 := beq_iff_eq.mpr c5
 have c5b1 := bne_eq_false_iff_eq.mpr c5
 have c5b2 : (l1.length == l0_0.length) = true := by first | simpa using c5 | (simp at c5 ⊢; omega)
 clear c5
 have H' := Aside0.mk H
 clear H
 go_enter Try.func19, Try.ntmps19
 go_wp2_with (first | ((with_reducible refine gate_dst (N := 2) rfl ?_); refine box_event rfl (N := 2) rfl (cs := #[.slice A0_0 l0_0.length c0_0, .slice A0_1 l0_1.length c0_1, .slice A0_2 l0_2.length c0_2, .int .i64 a0_3]) (t := 26) (by first | (go_simp; done) | (go_simp; rfl)) ?_; intro gb1 hg w6 hbox hb; have BK1 := Aside0.mk hbox; have GW1 := mGw HB hg; have GE1 := GW1; replace HB := mSt HB hb; clear hb hbox hg; have hcz7 := blk_cell BK1.out; have hfz7 := blk_frozen BK1.out) | ((with_reducible refine gate_callee (f := 14) rfl ?_); refine goesL_ (some 14) rfl rfl Try.func14 (by kernel_rfl) rfl #[.agg #[.slice A0_0 l0_0.length c0_0, .slice A0_1 l0_1.length c0_1, .slice A0_2 l0_2.length c0_2, .int .i64 a0_3]] rfl (mA1 rfl) ?_; (with_reducible refine (dancestudioref50_Check.calls k _ _ l0_0 _ _ l0_1 _ _ l0_2 a0_3 t456 _ (Kd.C_below HR0_0.out HB.out) HC0_0.out (Kd.C_below HR0_1.out HB.out) HC0_1.out (Kd.C_below HR0_2.out HB.out) HC0_2.out A3.out).mono ?_); rintro e w8 ⟨rfl, hb⟩; refine ⟨_, rfl, ?_⟩; replace BK1 := mBb BK1 hb; replace HB := mSt HB hb; (try clear hb); have hcz9 := blk_cell BK1.out; have hfz9 := blk_frozen BK1.out))
 go_loopg [6] k (fun kq v6 w' => ∃ (x6_1 : Int), v6 = .int .i64 x6_1 ∧ Aside0 (dancestudioref50_Valid.l0 kq l1 x6_1 l0_0 l0_1 l0_2 a0_3 = some r) ∧ Aside0 (kq ≤ k) ∧ Aside0 (w'.heap[gb1]? = some (.cells #[(.slice A0_0 l0_0.length c0_0), (.slice A0_1 l0_1.length c0_1), (.slice A0_2 l0_2.length c0_2), .int .i64 a0_3] 26 (0, 0))) ∧ Aside0 (Below w.heap.size w w'))
 case atStart => exact ⟨(0), rfl, H', ⟨Nat.le_refl _⟩, ⟨BK1.out⟩, ⟨HB.out⟩⟩
 case round =>
  clear H'
  clear c4b0 c4b1 c5b0 c5b1 c5b2
  obtain ⟨x6_1, rfl, HA, HK1, BK1, HB⟩ := hrel
  cases gk with
  | zero => exact absurd HA.out (by simp [dancestudioref50_Valid.l0])
  | succ k1 =>
   have H := HA.out
   clear HA
   simp only [dancestudioref50_Valid.l0] at H
   by_cases c10 : x6_1 < (l1.length : Int)
   ·
    rw [if_pos c10] at H
    have c10b0 := decide_eq_true c10
    clear c10
    obtain ⟨c11, H⟩ : (0 ≤ x6_1) ∧ _ := mIf H
    have c11b0 := decide_eq_true c11
    clear c11
    by_cases c12 : ((rd_T48 l1 x6_1).f0) = x6_1
    rotate_left
    ·
     rw [if_neg c12] at H
     have c12b0 := beq_eq_false_iff_ne.mpr c12
     have c12b1 := bne_iff_ne.mpr c12
     obtain rfl := Option.some.inj H
     have p457 : 0 ≤ (x6_1 : Int) := of_decide_eq_true (by assumption)
     have q457 : x6_1 < (l1.length : Int) := of_decide_eq_true (by assumption)
     obtain ⟨ad457, e457, hx457_0, hx457_1, hx457_2⟩ := at_T48 HR1.out x6_1 p457 q457
     cases e457
     replace hx457_0 := mHx HB hx457_0
     replace hx457_1 := mHx HB hx457_1
     replace hx457_2 := mHx HB hx457_2
     replace p457 := eq_true p457
     replace q457 := eq_true q457
     go_wp2
     go_ret
     exact ⟨rfl, HB.out⟩
    rw [if_pos c12] at H
    have c12b0 := beq_iff_eq.mpr c12
    have c12b1 := bne_eq_false_iff_eq.mpr c12
    clear c12
    have H' := Aside0.mk H
    clear H
    have p457 : 0 ≤ (x6_1 : Int) := of_decide_eq_true (by assumption)
    have q457 : x6_1 < (l1.length : Int) := of_decide_eq_true (by assumption)
    obtain ⟨ad457, e457, hx457_0, hx457_1, hx457_2⟩ := at_T48 HR1.out x6_1 p457 q457
    cases e457
    replace hx457_0 := mHx HB hx457_0
    replace hx457_1 := mHx HB hx457_1
    replace hx457_2 := mHx HB hx457_2
    replace p457 := eq_true p457
    replace q457 := eq_true q457
    go_wp2
    go_roundg k1
    case measure => have := HK1.out; omega
    case rel => exact ⟨(wrap64 (x6_1 + 1)), rfl, H', ⟨by have := HK1.out; omega⟩, ⟨BK1.out⟩, ⟨HB.out⟩⟩
   rw [if_neg c10] at H
   have c10b0 := decide_eq_false c10
   clear c10
   have H' := Aside0.mk H
   clear H
   go_wp2
   go_loopg [7] k1 (fun kq v7 w' => ∃ (x7_2 : Int), v7 = .int .i64 x7_2 ∧ Aside0 (dancestudioref50_Valid.l1 kq l1 x7_2 l0_0 l0_1 l0_2 a0_3 = some r) ∧ Aside0 (kq ≤ k1) ∧ Aside0 (w'.heap[gb1]? = some (.cells #[(.slice A0_0 l0_0.length c0_0), (.slice A0_1 l0_1.length c0_1), (.slice A0_2 l0_2.length c0_2), .int .i64 a0_3] 26 (0, 0))) ∧ Aside0 (Below w.heap.size w w'))
   case atStart => exact ⟨(0), rfl, H', ⟨Nat.le_refl _⟩, ⟨BK1.out⟩, ⟨HB.out⟩⟩
   case round =>
    clear H'
    clear c10b0
    obtain ⟨x7_2, rfl, HA, HK2, BK1, HB⟩ := hrel
    cases gk with
    | zero => exact absurd HA.out (by simp [dancestudioref50_Valid.l1])
    | succ k2 =>
     have H := HA.out
     clear HA
     simp only [dancestudioref50_Valid.l1] at H
     by_cases c13 : x7_2 < (l1.length : Int)
     ·
      rw [if_pos c13] at H
      have c13b0 := decide_eq_true c13
      clear c13
      obtain ⟨c14, H⟩ : (0 ≤ x7_2) ∧ _ := mIf H
      have c14b0 := decide_eq_true c14
      clear c14
      replace H := Option.bind_eq_some_iff.mp H
      obtain ⟨t459, A150, H⟩ := H
      try dsimp only at H
      have A15 := Aside0.mk A150
      clear A150
      by_cases c16 : t459 = 0
      rotate_left
      ·
       rw [if_neg c16] at H
       have c16b0 := beq_eq_false_iff_ne.mpr c16
       have c16b1 := bne_iff_ne.mpr c16
       obtain rfl := Option.some.inj H
       try go_wp2
       replace BK1 := Aside0.mk (blk_drew BK1.out); replace HB := Aside0.mk (below_drew1 HB.out)
       have p458 : 0 ≤ (x7_2 : Int) := of_decide_eq_true (by assumption)
       have q458 : x7_2 < (l1.length : Int) := of_decide_eq_true (by assumption)
       obtain ⟨ad458, e458, hx458_0, hx458_1, hx458_2⟩ := at_T48 HR1.out x7_2 p458 q458
       have hw458_2 := hx458_2
       have hw458_1 := hx458_1
       have hw458_0 := hx458_0
       cases e458
       replace hx458_0 := mHx HB hx458_0
       replace hx458_1 := mHx HB hx458_1
       replace hx458_2 := mHx HB hx458_2
       replace p458 := eq_true p458
       replace q458 := eq_true q458
       refine start_ (n := 7) (S := fun w' => w'.cell? ⟨gb1, 0, none⟩ = some (.slice A0_0 l0_0.length c0_0) ∧ w'.cell? ⟨gb1, 1, none⟩ = some (.slice A0_1 l0_1.length c0_1) ∧ w'.cell? ⟨gb1, 2, none⟩ = some (.slice A0_2 l0_2.length c0_2) ∧ w'.cell? ⟨gb1, 3, none⟩ = some (.int .i64 a0_3) ∧ w'.cell? (ad458.add ((x7_2).toNat * 3)) = some (.int .i64 ((rd_T48 l1 x7_2).f0)) ∧ w'.cell? ⟨(ad458.add ((x7_2).toNat * 3)).block, (ad458.add ((x7_2).toNat * 3)).off + 1, none⟩ = some (.int .i64 ((rd_T48 l1 x7_2).f1)) ∧ w'.cell? ⟨(ad458.add ((x7_2).toNat * 3)).block, (ad458.add ((x7_2).toNat * 3)).off + 2, none⟩ = some (.int .i64 ((rd_T48 l1 x7_2).f2))) (ds := []) #[false, false, false, false, false, false, false] (by kernel_rfl) rfl rfl ⟨(blk_cell BK1.out 0).trans rfl, (blk_cell BK1.out 1).trans rfl, (blk_cell BK1.out 2).trans rfl, (blk_cell BK1.out 3).trans rfl, ((HB.out.cell (World.block_lt_of_cell? w _ hw458_0)).trans hw458_0), ((HB.out.cell (World.block_lt_of_cell? w _ hw458_1)).trans hw458_1), ((HB.out.cell (World.block_lt_of_cell? w _ hw458_2)).trans hw458_2)⟩ (fun hHeld => ?_)
       generalize wr.drew = w19 at BK1 HB hx458_0 hx458_1 hx458_2 hHeld ⊢
       refine pure_ (i := 1) (N := some 44) (v := ?_) (a' := ?_) #[false, true, false, false, false, false, false] rfl rfl (by kernel_rfl) (fun _ _ _ h => h) (Or.inl ⟨by rfl, ?_⟩) ?_ ?_
       rotate_left
       ·
        intro w'
        go_simp
        with_reducible rfl
       rotate_left
       ·
        simp only [mP]
        rfl
       refine pure_ (i := 2) (N := some 45) (v := ?_) (a' := ?_) #[false, true, true, false, false, false, false] rfl rfl (by kernel_rfl) (fun _ _ _ h => h) (Or.inl ⟨by rfl, ?_⟩) ?_ ?_
       rotate_left
       ·
        intro w'
        go_simp
        with_reducible rfl
       rotate_left
       ·
        simp only [mP]
        rfl
       refine pure_ (i := 3) (N := some 46) (v := ?_) (a' := ?_) #[false, true, true, true, false, false, false] rfl rfl (by kernel_rfl) (fun _ _ _ h => h) (Or.inl ⟨by rfl, ?_⟩) ?_ ?_
       rotate_left
       ·
        intro w'
        go_simp
        with_reducible rfl
       rotate_left
       ·
        simp only [mP]
        rfl
       refine take_ (i := 0) (N := some 43) (v := ?_) (a' := ?_) #[true, true, true, true, false, false, false] rfl rfl (by kernel_rfl) (fun _ _ _ h => h) (Or.inl ⟨by rfl, ?_⟩) hHeld ?_ ?_
       rotate_left
       ·
        rintro w' ⟨s0, s1, s2, s3, s4, s5, s6⟩
        go_simp
        with_reducible rfl
       rotate_left
       ·
        simp only [mP]
        rfl
       refine take_ (i := 4) (N := some 47) (v := ?_) (a' := ?_) #[true, true, true, true, true, false, false] rfl rfl (by kernel_rfl) (fun _ _ _ h => h) (Or.inl ⟨by rfl, ?_⟩) hHeld ?_ ?_
       rotate_left
       ·
        rintro w' ⟨s0, s1, s2, s3, s4, s5, s6⟩
        go_simp
        with_reducible rfl
       rotate_left
       ·
        simp only [mP]
        rfl
       refine one_ (i := 5) (N := some 48) #[true, true, true, true, true, true, false] rfl rfl (by kernel_rfl) (by decide) (fun K hK => ?_)
       refine goes_ Try.func37 (by kernel_rfl) rfl #[.agg #[.slice A0_0 l0_0.length c0_0, .slice A0_1 l0_1.length c0_1, .slice A0_2 l0_2.length c0_2, .int .i64 a0_3], .agg #[.int .i64 ((rd_T48 l1 x7_2).f0), .int .i64 ((rd_T48 l1 x7_2).f1), .int .i64 ((rd_T48 l1 x7_2).f2)]] (by rfl) rfl rfl (by (try simp only [List.map_toArray, List.map_cons, List.map_nil]); first | done | rfl | (simp only [List.length_drop, List.length_take]; rfl)) ?_
       with_reducible refine (dancestudioref50_alone.calls k2 _ _ l0_0 _ _ l0_1 _ _ l0_2 a0_3 ((rd_T48 l1 x7_2).f0) ((rd_T48 l1 x7_2).f1) ((rd_T48 l1 x7_2).f2) t459 _ ?side1 ?side2 ?side3 ?side4 ?side5 ?side6 A15.out).mono ?_
       (case side1 => exact Kd.C_below HR0_0.out HB.out)
       (case side2 => exact HC0_0.out)
       (case side3 => exact Kd.C_below HR0_1.out HB.out)
       (case side4 => exact HC0_1.out)
       (case side5 => exact Kd.C_below HR0_2.out HB.out)
       (case side6 => exact HC0_2.out)
       rintro e w20 ⟨rfl, hb⟩
       refine ⟨_, rfl, ?_⟩
       replace BK1 := mBb BK1 hb; replace HB := mSt HB hb
       (try clear hb)
       (try clear hb2)
       (try clear hk)
       (try clear hi)
       refine hK.out _ _ ⟨blk_cell BK1.out 0, blk_cell BK1.out 1, blk_cell BK1.out 2, blk_cell BK1.out 3, ((HB.out.cell (World.block_lt_of_cell? w _ hw458_0)).trans hw458_0), ((HB.out.cell (World.block_lt_of_cell? w _ hw458_1)).trans hw458_1), ((HB.out.cell (World.block_lt_of_cell? w _ hw458_2)).trans hw458_2)⟩ (fun hHeld => ?_)
       clear hK K
       refine norm_ (by show Act.put _ (some 48) _ = _; simp only [mP]; rfl) ?_
       refine pure_ (i := 6) (N := some 8) (v := ?_) (a' := ?_) #[true, true, true, true, true, true, true] rfl rfl (by kernel_rfl) (fun _ _ _ h => h) (Or.inl ⟨by rfl, ?_⟩) ?_ ?_
       rotate_left
       ·
        intro w'
        go_simp
        with_reducible rfl
       rotate_left
       ·
        simp only [mP]
        rfl
       refine done_ (by kernel_rfl) ?_
       try go_wp2
       go_ret
       exact ⟨rfl, HB.out⟩
      rw [if_pos c16] at H
      have c16b0 := beq_iff_eq.mpr c16
      have c16b1 := bne_eq_false_iff_eq.mpr c16
      clear c16
      have H' := Aside0.mk H
      clear H
      try go_wp2
      replace BK1 := Aside0.mk (blk_drew BK1.out); replace HB := Aside0.mk (below_drew1 HB.out)
      have p458 : 0 ≤ (x7_2 : Int) := of_decide_eq_true (by assumption)
      have q458 : x7_2 < (l1.length : Int) := of_decide_eq_true (by assumption)
      obtain ⟨ad458, e458, hx458_0, hx458_1, hx458_2⟩ := at_T48 HR1.out x7_2 p458 q458
      have hw458_2 := hx458_2
      have hw458_1 := hx458_1
      have hw458_0 := hx458_0
      cases e458
      replace hx458_0 := mHx HB hx458_0
      replace hx458_1 := mHx HB hx458_1
      replace hx458_2 := mHx HB hx458_2
      replace p458 := eq_true p458
      replace q458 := eq_true q458
      refine start_ (n := 7) (S := fun w' => w'.cell? ⟨gb1, 0, none⟩ = some (.slice A0_0 l0_0.length c0_0) ∧ w'.cell? ⟨gb1, 1, none⟩ = some (.slice A0_1 l0_1.length c0_1) ∧ w'.cell? ⟨gb1, 2, none⟩ = some (.slice A0_2 l0_2.length c0_2) ∧ w'.cell? ⟨gb1, 3, none⟩ = some (.int .i64 a0_3) ∧ w'.cell? (ad458.add ((x7_2).toNat * 3)) = some (.int .i64 ((rd_T48 l1 x7_2).f0)) ∧ w'.cell? ⟨(ad458.add ((x7_2).toNat * 3)).block, (ad458.add ((x7_2).toNat * 3)).off + 1, none⟩ = some (.int .i64 ((rd_T48 l1 x7_2).f1)) ∧ w'.cell? ⟨(ad458.add ((x7_2).toNat * 3)).block, (ad458.add ((x7_2).toNat * 3)).off + 2, none⟩ = some (.int .i64 ((rd_T48 l1 x7_2).f2))) (ds := []) #[false, false, false, false, false, false, false] (by kernel_rfl) rfl rfl ⟨(blk_cell BK1.out 0).trans rfl, (blk_cell BK1.out 1).trans rfl, (blk_cell BK1.out 2).trans rfl, (blk_cell BK1.out 3).trans rfl, ((HB.out.cell (World.block_lt_of_cell? w _ hw458_0)).trans hw458_0), ((HB.out.cell (World.block_lt_of_cell? w _ hw458_1)).trans hw458_1), ((HB.out.cell (World.block_lt_of_cell? w _ hw458_2)).trans hw458_2)⟩ (fun hHeld => ?_)
      generalize wr.drew = w17 at BK1 HB hx458_0 hx458_1 hx458_2 hHeld ⊢
      refine pure_ (i := 1) (N := some 44) (v := ?_) (a' := ?_) #[false, true, false, false, false, false, false] rfl rfl (by kernel_rfl) (fun _ _ _ h => h) (Or.inl ⟨by rfl, ?_⟩) ?_ ?_
      rotate_left
      ·
       intro w'
       go_simp
       with_reducible rfl
      rotate_left
      ·
       simp only [mP]
       rfl
      refine pure_ (i := 2) (N := some 45) (v := ?_) (a' := ?_) #[false, true, true, false, false, false, false] rfl rfl (by kernel_rfl) (fun _ _ _ h => h) (Or.inl ⟨by rfl, ?_⟩) ?_ ?_
      rotate_left
      ·
       intro w'
       go_simp
       with_reducible rfl
      rotate_left
      ·
       simp only [mP]
       rfl
      refine pure_ (i := 3) (N := some 46) (v := ?_) (a' := ?_) #[false, true, true, true, false, false, false] rfl rfl (by kernel_rfl) (fun _ _ _ h => h) (Or.inl ⟨by rfl, ?_⟩) ?_ ?_
      rotate_left
      ·
       intro w'
       go_simp
       with_reducible rfl
      rotate_left
      ·
       simp only [mP]
       rfl
      refine take_ (i := 0) (N := some 43) (v := ?_) (a' := ?_) #[true, true, true, true, false, false, false] rfl rfl (by kernel_rfl) (fun _ _ _ h => h) (Or.inl ⟨by rfl, ?_⟩) hHeld ?_ ?_
      rotate_left
      ·
       rintro w' ⟨s0, s1, s2, s3, s4, s5, s6⟩
       go_simp
       with_reducible rfl
      rotate_left
      ·
       simp only [mP]
       rfl
      refine take_ (i := 4) (N := some 47) (v := ?_) (a' := ?_) #[true, true, true, true, true, false, false] rfl rfl (by kernel_rfl) (fun _ _ _ h => h) (Or.inl ⟨by rfl, ?_⟩) hHeld ?_ ?_
      rotate_left
      ·
       rintro w' ⟨s0, s1, s2, s3, s4, s5, s6⟩
       go_simp
       with_reducible rfl
      rotate_left
      ·
       simp only [mP]
       rfl
      refine one_ (i := 5) (N := some 48) #[true, true, true, true, true, true, false] rfl rfl (by kernel_rfl) (by decide) (fun K hK => ?_)
      refine goes_ Try.func37 (by kernel_rfl) rfl #[.agg #[.slice A0_0 l0_0.length c0_0, .slice A0_1 l0_1.length c0_1, .slice A0_2 l0_2.length c0_2, .int .i64 a0_3], .agg #[.int .i64 ((rd_T48 l1 x7_2).f0), .int .i64 ((rd_T48 l1 x7_2).f1), .int .i64 ((rd_T48 l1 x7_2).f2)]] (by rfl) rfl rfl (by (try simp only [List.map_toArray, List.map_cons, List.map_nil]); first | done | rfl | (simp only [List.length_drop, List.length_take]; rfl)) ?_
      with_reducible refine (dancestudioref50_alone.calls k2 _ _ l0_0 _ _ l0_1 _ _ l0_2 a0_3 ((rd_T48 l1 x7_2).f0) ((rd_T48 l1 x7_2).f1) ((rd_T48 l1 x7_2).f2) t459 _ ?side1 ?side2 ?side3 ?side4 ?side5 ?side6 A15.out).mono ?_
      (case side1 => exact Kd.C_below HR0_0.out HB.out)
      (case side2 => exact HC0_0.out)
      (case side3 => exact Kd.C_below HR0_1.out HB.out)
      (case side4 => exact HC0_1.out)
      (case side5 => exact Kd.C_below HR0_2.out HB.out)
      (case side6 => exact HC0_2.out)
      rintro e w18 ⟨rfl, hb⟩
      refine ⟨_, rfl, ?_⟩
      replace BK1 := mBb BK1 hb; replace HB := mSt HB hb
      (try clear hb)
      (try clear hb2)
      (try clear hk)
      (try clear hi)
      refine hK.out _ _ ⟨blk_cell BK1.out 0, blk_cell BK1.out 1, blk_cell BK1.out 2, blk_cell BK1.out 3, ((HB.out.cell (World.block_lt_of_cell? w _ hw458_0)).trans hw458_0), ((HB.out.cell (World.block_lt_of_cell? w _ hw458_1)).trans hw458_1), ((HB.out.cell (World.block_lt_of_cell? w _ hw458_2)).trans hw458_2)⟩ (fun hHeld => ?_)
      clear hK K
      refine norm_ (by show Act.put _ (some 48) _ = _; simp only [mP]; rfl) ?_
      refine pure_ (i := 6) (N := some 8) (v := ?_) (a' := ?_) #[true, true, true, true, true, true, true] rfl rfl (by kernel_rfl) (fun _ _ _ h => h) (Or.inl ⟨by rfl, ?_⟩) ?_ ?_
      rotate_left
      ·
       intro w'
       go_simp
       with_reducible rfl
      rotate_left
      ·
       simp only [mP]
       rfl
      refine done_ (by kernel_rfl) ?_
      try go_wp2
      go_roundg k2
      case measure => have := HK1.out; have := HK2.out; omega
      case rel => exact ⟨(wrap64 (x7_2 + 1)), rfl, H', ⟨by have := HK1.out; have := HK2.out; omega⟩, ⟨BK1.out⟩, ⟨HB.out⟩⟩
     rw [if_neg c13] at H
     have c13b0 := decide_eq_false c13
     clear c13
     have H' := Aside0.mk H
     clear H
     go_wp2
     go_loopg [9] k2 (fun kq v9 w' => ∃ (x9_3 : Int), v9 = .int .i64 x9_3 ∧ Aside0 (dancestudioref50_Valid.l2 kq l1 x9_3 l0_0 l0_1 l0_2 a0_3 = some r) ∧ Aside0 (kq ≤ k2) ∧ Aside0 (w'.heap[gb1]? = some (.cells #[(.slice A0_0 l0_0.length c0_0), (.slice A0_1 l0_1.length c0_1), (.slice A0_2 l0_2.length c0_2), .int .i64 a0_3] 26 (0, 0))) ∧ Aside0 (Below w.heap.size w w'))
     case atStart => exact ⟨(0), rfl, H', ⟨Nat.le_refl _⟩, ⟨BK1.out⟩, ⟨HB.out⟩⟩
     case round =>
      clear H'
      clear c13b0
      obtain ⟨x9_3, rfl, HA, HK3, BK1, HB⟩ := hrel
      cases gk with
      | zero => exact absurd HA.out (by simp [dancestudioref50_Valid.l2])
      | succ k3 =>
       have H := HA.out
       clear HA
       simp only [dancestudioref50_Valid.l2] at H
       by_cases c21 : x9_3 < (l1.length : Int)
       ·
        rw [if_pos c21] at H
        have c21b0 := decide_eq_true c21
        clear c21
        have H' := Aside0.mk H
        clear H
        go_wp2
        go_loopg [10] k3 (fun kq v10 w' => ∃ (x10_4 : Int), v10 = .int .i64 x10_4 ∧ Aside0 (dancestudioref50_Valid.l3 kq l1 x9_3 x10_4 l0_0 l0_1 l0_2 a0_3 = some r) ∧ Aside0 (kq ≤ k3) ∧ Aside0 (w'.heap[gb1]? = some (.cells #[(.slice A0_0 l0_0.length c0_0), (.slice A0_1 l0_1.length c0_1), (.slice A0_2 l0_2.length c0_2), .int .i64 a0_3] 26 (0, 0))) ∧ Aside0 (Below w.heap.size w w'))
        case atStart => exact ⟨(0), rfl, H', ⟨Nat.le_refl _⟩, ⟨BK1.out⟩, ⟨HB.out⟩⟩
        case round =>
         clear H'
         clear c21b0
         obtain ⟨x10_4, rfl, HA, HK4, BK1, HB⟩ := hrel
         cases gk with
         | zero => exact absurd HA.out (by simp [dancestudioref50_Valid.l3])
         | succ k4 =>
          have H := HA.out
          clear HA
          simp only [dancestudioref50_Valid.l3] at H
          by_cases c22 : x10_4 < x9_3
          rotate_left
          ·
           rw [if_neg c22] at H
           have c22b0 := decide_eq_false c22
           clear c22
           have H' := Aside0.mk H
           clear H
           go_wp2
           go_roundg k4
           case measure => have := HK1.out; have := HK2.out; have := HK3.out; have := HK4.out; omega
           case rel => exact ⟨(wrap64 (x9_3 + 1)), rfl, H', ⟨by have := HK1.out; have := HK2.out; have := HK3.out; have := HK4.out; omega⟩, ⟨BK1.out⟩, ⟨HB.out⟩⟩
          rw [if_pos c22] at H
          have c22b0 := decide_eq_true c22
          clear c22
          obtain ⟨c23, H⟩ : (0 ≤ x9_3) ∧ _ := mIf H
          have c23b0 := decide_eq_true c23
          clear c23
          obtain ⟨c24, H⟩ : (x9_3 < (l1.length : Int)) ∧ _ := mIf H
          have c24b0 := decide_eq_true c24
          clear c24
          obtain ⟨c25, H⟩ : (0 ≤ x10_4) ∧ _ := mIf H
          have c25b0 := decide_eq_true c25
          clear c25
          obtain ⟨c26, H⟩ : (x10_4 < (l1.length : Int)) ∧ _ := mIf H
          have c26b0 := decide_eq_true c26
          clear c26
          replace H := Option.bind_eq_some_iff.mp H
          obtain ⟨t462, A270, H⟩ := H
          try dsimp only at H
          have A27 := Aside0.mk A270
          clear A270
          by_cases c28 : t462 = true
          rotate_left
          ·
           replace c28 := Bool.eq_false_iff.mpr c28
           subst c28
           rw [if_neg (show ¬ (false = true) by decide)] at H
           have H' := Aside0.mk H
           clear H
           try go_wp2
           replace BK1 := Aside0.mk (blk_drew BK1.out); replace HB := Aside0.mk (below_drew1 HB.out)
           have p460 : 0 ≤ (x9_3 : Int) := of_decide_eq_true (by assumption)
           have q460 : x9_3 < (l1.length : Int) := of_decide_eq_true (by assumption)
           obtain ⟨ad460, e460, hx460_0, hx460_1, hx460_2⟩ := at_T48 HR1.out x9_3 p460 q460
           have hw460_2 := hx460_2
           have hw460_1 := hx460_1
           have hw460_0 := hx460_0
           cases e460
           replace hx460_0 := mHx HB hx460_0
           replace hx460_1 := mHx HB hx460_1
           replace hx460_2 := mHx HB hx460_2
           replace p460 := eq_true p460
           replace q460 := eq_true q460
           have p461 : 0 ≤ (x10_4 : Int) := of_decide_eq_true (by assumption)
           have q461 : x10_4 < (l1.length : Int) := of_decide_eq_true (by assumption)
           obtain ⟨ad461, e461, hx461_0, hx461_1, hx461_2⟩ := at_T48 HR1.out x10_4 p461 q461
           have hw461_2 := hx461_2
           have hw461_1 := hx461_1
           have hw461_0 := hx461_0
           obtain rfl : ad460 = ad461 := (by injection e461)
           replace hx461_0 := mHx HB hx461_0
           replace hx461_1 := mHx HB hx461_1
           replace hx461_2 := mHx HB hx461_2
           replace p461 := eq_true p461
           replace q461 := eq_true q461
           refine start_ (n := 23) (S := fun w' => w'.cell? ⟨gb1, 0, none⟩ = some (.slice A0_0 l0_0.length c0_0) ∧ w'.cell? ⟨gb1, 1, none⟩ = some (.slice A0_1 l0_1.length c0_1) ∧ w'.cell? ⟨gb1, 2, none⟩ = some (.slice A0_2 l0_2.length c0_2) ∧ w'.cell? ⟨gb1, 3, none⟩ = some (.int .i64 a0_3) ∧ w'.cell? (ad460.add ((x9_3).toNat * 3)) = some (.int .i64 ((rd_T48 l1 x9_3).f0)) ∧ w'.cell? ⟨(ad460.add ((x9_3).toNat * 3)).block, (ad460.add ((x9_3).toNat * 3)).off + 1, none⟩ = some (.int .i64 ((rd_T48 l1 x9_3).f1)) ∧ w'.cell? ⟨(ad460.add ((x9_3).toNat * 3)).block, (ad460.add ((x9_3).toNat * 3)).off + 2, none⟩ = some (.int .i64 ((rd_T48 l1 x9_3).f2)) ∧ w'.cell? (ad460.add ((x10_4).toNat * 3)) = some (.int .i64 ((rd_T48 l1 x10_4).f0)) ∧ w'.cell? ⟨(ad460.add ((x10_4).toNat * 3)).block, (ad460.add ((x10_4).toNat * 3)).off + 1, none⟩ = some (.int .i64 ((rd_T48 l1 x10_4).f1)) ∧ w'.cell? ⟨(ad460.add ((x10_4).toNat * 3)).block, (ad460.add ((x10_4).toNat * 3)).off + 2, none⟩ = some (.int .i64 ((rd_T48 l1 x10_4).f2))) (ds := []) #[false, false, false, false, false, false, false, false, false, false, false, false, false, false, false, false, false, false, false, false, false, false, false] (by kernel_rfl) rfl rfl ⟨(blk_cell BK1.out 0).trans rfl, (blk_cell BK1.out 1).trans rfl, (blk_cell BK1.out 2).trans rfl, (blk_cell BK1.out 3).trans rfl, ((HB.out.cell (World.block_lt_of_cell? w _ hw460_0)).trans hw460_0), ((HB.out.cell (World.block_lt_of_cell? w _ hw460_1)).trans hw460_1), ((HB.out.cell (World.block_lt_of_cell? w _ hw460_2)).trans hw460_2), ((HB.out.cell (World.block_lt_of_cell? w _ hw461_0)).trans hw461_0), ((HB.out.cell (World.block_lt_of_cell? w _ hw461_1)).trans hw461_1), ((HB.out.cell (World.block_lt_of_cell? w _ hw461_2)).trans hw461_2)⟩ (fun hHeld => ?_); refine with_tabW dancestudioref50_Valid.tab23 dancestudioref50_Valid.bits23 (fun HT_ HW_ => ?_)
           generalize wr.drew = w34 at BK1 HB hx460_0 hx460_1 hx460_2 hx461_0 hx461_1 hx461_2 hHeld ⊢
           refine pM 1 64 HT_ ?_
           refine pM 2 65 HT_ ?_
           refine pM 3 66 HT_ ?_
           refine pM 5 68 HT_ ?_
           refine pM 6 69 HT_ ?_
           refine pM 7 70 HT_ ?_
           refine tM 0 63 rfl HT_ HW_ (by rintro w' ⟨s0, s1, s2, s3, s4, s5, s6, s7, s8, s9⟩; go_simp; with_reducible rfl) hHeld ?_
           refine tM 4 67 rfl HT_ HW_ (by rintro w' ⟨s0, s1, s2, s3, s4, s5, s6, s7, s8, s9⟩; go_simp; with_reducible rfl) hHeld ?_
           refine tM 8 71 rfl HT_ HW_ (by rintro w' ⟨s0, s1, s2, s3, s4, s5, s6, s7, s8, s9⟩; go_simp; with_reducible rfl) hHeld ?_
           refine one_ (i := 9) (N := some 72) #[true, true, true, true, true, true, true, true, true, true, false, false, false, false, false, false, false, false, false, false, false, false, false] rfl rfl (one_of HT_.out (by kernel_rfl)) (by decide) (fun K hK => ?_)
           refine goes_ Try.func38 (by kernel_rfl) rfl #[.agg #[.slice A0_0 l0_0.length c0_0, .slice A0_1 l0_1.length c0_1, .slice A0_2 l0_2.length c0_2, .int .i64 a0_3], .agg #[.int .i64 ((rd_T48 l1 x9_3).f0), .int .i64 ((rd_T48 l1 x9_3).f1), .int .i64 ((rd_T48 l1 x9_3).f2)], .agg #[.int .i64 ((rd_T48 l1 x10_4).f0), .int .i64 ((rd_T48 l1 x10_4).f1), .int .i64 ((rd_T48 l1 x10_4).f2)]] (by rfl) rfl rfl (by (try simp only [List.map_toArray, List.map_cons, List.map_nil]); first | done | rfl | (simp only [List.length_drop, List.length_take]; rfl)) ?_
           with_reducible refine (dancestudioref50_meet.calls _ _ l0_0 _ _ l0_1 _ _ l0_2 a0_3 ((rd_T48 l1 x9_3).f0) ((rd_T48 l1 x9_3).f1) ((rd_T48 l1 x9_3).f2) ((rd_T48 l1 x10_4).f0) ((rd_T48 l1 x10_4).f1) ((rd_T48 l1 x10_4).f2) false _ ?side1 ?side2 ?side3 ?side4 ?side5 ?side6 A27.out).mono ?_
           (case side1 => exact Kd.C_below HR0_0.out HB.out)
           (case side2 => exact HC0_0.out)
           (case side3 => exact Kd.C_below HR0_1.out HB.out)
           (case side4 => exact HC0_1.out)
           (case side5 => exact Kd.C_below HR0_2.out HB.out)
           (case side6 => exact HC0_2.out)
           rintro e w35 ⟨rfl, hb⟩
           refine ⟨_, rfl, ?_⟩
           replace BK1 := mBb BK1 hb; replace HB := mSt HB hb
           (try clear hb)
           (try clear hb2)
           (try clear hk)
           (try clear hi)
           refine hK.out _ _ ⟨blk_cell BK1.out 0, blk_cell BK1.out 1, blk_cell BK1.out 2, blk_cell BK1.out 3, ((HB.out.cell (World.block_lt_of_cell? w _ hw460_0)).trans hw460_0), ((HB.out.cell (World.block_lt_of_cell? w _ hw460_1)).trans hw460_1), ((HB.out.cell (World.block_lt_of_cell? w _ hw460_2)).trans hw460_2), ((HB.out.cell (World.block_lt_of_cell? w _ hw461_0)).trans hw461_0), ((HB.out.cell (World.block_lt_of_cell? w _ hw461_1)).trans hw461_1), ((HB.out.cell (World.block_lt_of_cell? w _ hw461_2)).trans hw461_2)⟩ (fun hHeld => ?_)
           clear hK K
           refine norm_ (by show Act.put _ (some 72) _ = _; simp only [mP]; rfl) ?_
           refine pM 10 73 HT_ ?_
           refine pure_ (i := 11) (N := some 74) (v := undef) (a' := ?_) #[true, true, true, true, true, true, true, true, true, true, true, true, false, false, false, false, false, false, false, false, false, false, false] rfl rfl (any_of HT_.out (by kernel_rfl)) (fun _ _ _ h => h) (Or.inr ⟨by rfl, rfl⟩) ?_ ?_
           rotate_left
           ·
            simp only [mP]
            rfl
           refine pure_ (i := 12) (N := some 75) (v := undef) (a' := ?_) #[true, true, true, true, true, true, true, true, true, true, true, true, true, false, false, false, false, false, false, false, false, false, false] rfl rfl (any_of HT_.out (by kernel_rfl)) (fun _ _ _ h => h) (Or.inr ⟨by rfl, rfl⟩) ?_ ?_
           rotate_left
           ·
            simp only [mP]
            rfl
           refine pure_ (i := 13) (N := some 76) (v := undef) (a' := ?_) #[true, true, true, true, true, true, true, true, true, true, true, true, true, true, false, false, false, false, false, false, false, false, false] rfl rfl (any_of HT_.out (by kernel_rfl)) (fun _ _ _ h => h) (Or.inr ⟨by rfl, rfl⟩) ?_ ?_
           rotate_left
           ·
            simp only [mP]
            rfl
           refine pure_ (i := 14) (N := some 77) (v := undef) (a' := ?_) #[true, true, true, true, true, true, true, true, true, true, true, true, true, true, true, false, false, false, false, false, false, false, false] rfl rfl (any_of HT_.out (by kernel_rfl)) (fun _ _ _ h => h) (Or.inr ⟨by rfl, rfl⟩) ?_ ?_
           rotate_left
           ·
            simp only [mP]
            rfl
           refine pure_ (i := 15) (N := some 78) (v := undef) (a' := ?_) #[true, true, true, true, true, true, true, true, true, true, true, true, true, true, true, true, false, false, false, false, false, false, false] rfl rfl (any_of HT_.out (by kernel_rfl)) (fun _ _ _ h => h) (Or.inr ⟨by rfl, rfl⟩) ?_ ?_
           rotate_left
           ·
            simp only [mP]
            rfl
           refine pure_ (i := 16) (N := some 79) (v := undef) (a' := ?_) #[true, true, true, true, true, true, true, true, true, true, true, true, true, true, true, true, true, false, false, false, false, false, false] rfl rfl (any_of HT_.out (by kernel_rfl)) (fun _ _ _ h => h) (Or.inr ⟨by rfl, rfl⟩) ?_ ?_
           rotate_left
           ·
            simp only [mP]
            rfl
           refine pure_ (i := 17) (N := some 80) (v := undef) (a' := ?_) #[true, true, true, true, true, true, true, true, true, true, true, true, true, true, true, true, true, true, false, false, false, false, false] rfl rfl (any_of HT_.out (by kernel_rfl)) (fun _ _ _ h => h) (Or.inr ⟨by rfl, rfl⟩) ?_ ?_
           rotate_left
           ·
            simp only [mP]
            rfl
           refine pure_ (i := 18) (N := some 81) (v := undef) (a' := ?_) #[true, true, true, true, true, true, true, true, true, true, true, true, true, true, true, true, true, true, true, false, false, false, false] rfl rfl (any_of HT_.out (by kernel_rfl)) (fun _ _ _ h => h) (Or.inr ⟨by rfl, rfl⟩) ?_ ?_
           rotate_left
           ·
            simp only [mP]
            rfl
           refine pure_ (i := 19) (N := some 82) (v := undef) (a' := ?_) #[true, true, true, true, true, true, true, true, true, true, true, true, true, true, true, true, true, true, true, true, false, false, false] rfl rfl (any_of HT_.out (by kernel_rfl)) (fun _ _ _ h => h) (Or.inr ⟨by rfl, rfl⟩) ?_ ?_
           rotate_left
           ·
            simp only [mP]
            rfl
           refine pure_ (i := 20) (N := some 83) (v := undef) (a' := ?_) #[true, true, true, true, true, true, true, true, true, true, true, true, true, true, true, true, true, true, true, true, true, false, false] rfl rfl (any_of HT_.out (by kernel_rfl)) (fun _ _ _ h => h) (Or.inr ⟨by rfl, rfl⟩) ?_ ?_
           rotate_left
           ·
            simp only [mP]
            rfl
           refine pure_ (i := 21) (N := some 84) (v := undef) (a' := ?_) #[true, true, true, true, true, true, true, true, true, true, true, true, true, true, true, true, true, true, true, true, true, true, false] rfl rfl (any_of HT_.out (by kernel_rfl)) (fun _ _ _ h => h) (Or.inr ⟨by rfl, rfl⟩) ?_ ?_
           rotate_left
           ·
            simp only [mP]
            rfl
           refine pM 22 85 HT_ ?_
           refine done_ (done_of HT_.out (by kernel_rfl)) ?_
           try go_wp2
           go_roundg k4
           case measure => have := HK1.out; have := HK2.out; have := HK3.out; have := HK4.out; omega
           case rel => exact ⟨(wrap64 (x10_4 + 1)), rfl, H', ⟨by have := HK1.out; have := HK2.out; have := HK3.out; have := HK4.out; omega⟩, ⟨BK1.out⟩, ⟨HB.out⟩⟩
          subst c28
          rw [if_pos rfl] at H
          by_cases c29 : ((rd_T48 l1 x9_3).f1) = ((rd_T48 l1 x10_4).f1)
          ·
           rw [if_pos c29] at H
           have c29b0 := beq_iff_eq.mpr c29
           have c29b1 := bne_eq_false_iff_eq.mpr c29
           clear c29
           obtain rfl := Option.some.inj H
           try go_wp2
           replace BK1 := Aside0.mk (blk_drew BK1.out); replace HB := Aside0.mk (below_drew1 HB.out)
           have p460 : 0 ≤ (x9_3 : Int) := of_decide_eq_true (by assumption)
           have q460 : x9_3 < (l1.length : Int) := of_decide_eq_true (by assumption)
           obtain ⟨ad460, e460, hx460_0, hx460_1, hx460_2⟩ := at_T48 HR1.out x9_3 p460 q460
           have hw460_2 := hx460_2
           have hw460_1 := hx460_1
           have hw460_0 := hx460_0
           cases e460
           replace hx460_0 := mHx HB hx460_0
           replace hx460_1 := mHx HB hx460_1
           replace hx460_2 := mHx HB hx460_2
           replace p460 := eq_true p460
           replace q460 := eq_true q460
           have p461 : 0 ≤ (x10_4 : Int) := of_decide_eq_true (by assumption)
           have q461 : x10_4 < (l1.length : Int) := of_decide_eq_true (by assumption)
           obtain ⟨ad461, e461, hx461_0, hx461_1, hx461_2⟩ := at_T48 HR1.out x10_4 p461 q461
           have hw461_2 := hx461_2
           have hw461_1 := hx461_1
           have hw461_0 := hx461_0
           obtain rfl : ad460 = ad461 := (by injection e461)
           replace hx461_0 := mHx HB hx461_0
           replace hx461_1 := mHx HB hx461_1
           replace hx461_2 := mHx HB hx461_2
           replace p461 := eq_true p461
           replace q461 := eq_true q461
           have p463 : 0 ≤ (x9_3 : Int) := of_decide_eq_true (by assumption)
           have q463 : x9_3 < (l1.length : Int) := of_decide_eq_true (by assumption)
           obtain ⟨ad463, e463, hx463_0, hx463_1, hx463_2⟩ := at_T48 HR1.out x9_3 p463 q463
           have hw463_2 := hx463_2
           have hw463_1 := hx463_1
           have hw463_0 := hx463_0
           obtain rfl : ad460 = ad463 := (by injection e463)
           replace hx463_0 := mHx HB hx463_0
           replace hx463_1 := mHx HB hx463_1
           replace hx463_2 := mHx HB hx463_2
           replace p463 := eq_true p463
           replace q463 := eq_true q463
           have p464 : 0 ≤ (x10_4 : Int) := of_decide_eq_true (by assumption)
           have q464 : x10_4 < (l1.length : Int) := of_decide_eq_true (by assumption)
           obtain ⟨ad464, e464, hx464_0, hx464_1, hx464_2⟩ := at_T48 HR1.out x10_4 p464 q464
           have hw464_2 := hx464_2
           have hw464_1 := hx464_1
           have hw464_0 := hx464_0
           obtain rfl : ad460 = ad464 := (by injection e464)
           replace hx464_0 := mHx HB hx464_0
           replace hx464_1 := mHx HB hx464_1
           replace hx464_2 := mHx HB hx464_2
           replace p464 := eq_true p464
           replace q464 := eq_true q464
           refine start_ (n := 23) (S := fun w' => w'.cell? ⟨gb1, 0, none⟩ = some (.slice A0_0 l0_0.length c0_0) ∧ w'.cell? ⟨gb1, 1, none⟩ = some (.slice A0_1 l0_1.length c0_1) ∧ w'.cell? ⟨gb1, 2, none⟩ = some (.slice A0_2 l0_2.length c0_2) ∧ w'.cell? ⟨gb1, 3, none⟩ = some (.int .i64 a0_3) ∧ w'.cell? (ad460.add ((x9_3).toNat * 3)) = some (.int .i64 ((rd_T48 l1 x9_3).f0)) ∧ w'.cell? ⟨(ad460.add ((x9_3).toNat * 3)).block, (ad460.add ((x9_3).toNat * 3)).off + 1, none⟩ = some (.int .i64 ((rd_T48 l1 x9_3).f1)) ∧ w'.cell? ⟨(ad460.add ((x9_3).toNat * 3)).block, (ad460.add ((x9_3).toNat * 3)).off + 2, none⟩ = some (.int .i64 ((rd_T48 l1 x9_3).f2)) ∧ w'.cell? (ad460.add ((x10_4).toNat * 3)) = some (.int .i64 ((rd_T48 l1 x10_4).f0)) ∧ w'.cell? ⟨(ad460.add ((x10_4).toNat * 3)).block, (ad460.add ((x10_4).toNat * 3)).off + 1, none⟩ = some (.int .i64 ((rd_T48 l1 x10_4).f1)) ∧ w'.cell? ⟨(ad460.add ((x10_4).toNat * 3)).block, (ad460.add ((x10_4).toNat * 3)).off + 2, none⟩ = some (.int .i64 ((rd_T48 l1 x10_4).f2)) ∧ w'.cell? (ad460.add ((x9_3).toNat * 3)) = some (.int .i64 ((rd_T48 l1 x9_3).f0)) ∧ w'.cell? ⟨(ad460.add ((x9_3).toNat * 3)).block, (ad460.add ((x9_3).toNat * 3)).off + 1, none⟩ = some (.int .i64 ((rd_T48 l1 x9_3).f1)) ∧ w'.cell? ⟨(ad460.add ((x9_3).toNat * 3)).block, (ad460.add ((x9_3).toNat * 3)).off + 2, none⟩ = some (.int .i64 ((rd_T48 l1 x9_3).f2)) ∧ w'.cell? (ad460.add ((x10_4).toNat * 3)) = some (.int .i64 ((rd_T48 l1 x10_4).f0)) ∧ w'.cell? ⟨(ad460.add ((x10_4).toNat * 3)).block, (ad460.add ((x10_4).toNat * 3)).off + 1, none⟩ = some (.int .i64 ((rd_T48 l1 x10_4).f1)) ∧ w'.cell? ⟨(ad460.add ((x10_4).toNat * 3)).block, (ad460.add ((x10_4).toNat * 3)).off + 2, none⟩ = some (.int .i64 ((rd_T48 l1 x10_4).f2))) (ds := []) #[false, false, false, false, false, false, false, false, false, false, false, false, false, false, false, false, false, false, false, false, false, false, false] (by kernel_rfl) rfl rfl ⟨(blk_cell BK1.out 0).trans rfl, (blk_cell BK1.out 1).trans rfl, (blk_cell BK1.out 2).trans rfl, (blk_cell BK1.out 3).trans rfl, ((HB.out.cell (World.block_lt_of_cell? w _ hw460_0)).trans hw460_0), ((HB.out.cell (World.block_lt_of_cell? w _ hw460_1)).trans hw460_1), ((HB.out.cell (World.block_lt_of_cell? w _ hw460_2)).trans hw460_2), ((HB.out.cell (World.block_lt_of_cell? w _ hw461_0)).trans hw461_0), ((HB.out.cell (World.block_lt_of_cell? w _ hw461_1)).trans hw461_1), ((HB.out.cell (World.block_lt_of_cell? w _ hw461_2)).trans hw461_2), ((HB.out.cell (World.block_lt_of_cell? w _ hw463_0)).trans hw463_0), ((HB.out.cell (World.block_lt_of_cell? w _ hw463_1)).trans hw463_1), ((HB.out.cell (World.block_lt_of_cell? w _ hw463_2)).trans hw463_2), ((HB.out.cell (World.block_lt_of_cell? w _ hw464_0)).trans hw464_0), ((HB.out.cell (World.block_lt_of_cell? w _ hw464_1)).trans hw464_1), ((HB.out.cell (World.block_lt_of_cell? w _ hw464_2)).trans hw464_2)⟩ (fun hHeld => ?_); refine with_tabW dancestudioref50_Valid.tab23 dancestudioref50_Valid.bits23 (fun HT_ HW_ => ?_)
           generalize wr.drew = w30 at BK1 HB hx460_0 hx460_1 hx460_2 hx461_0 hx461_1 hx461_2 hx463_0 hx463_1 hx463_2 hx464_0 hx464_1 hx464_2 hHeld ⊢
           refine pM 1 64 HT_ ?_
           refine pM 2 65 HT_ ?_
           refine pM 3 66 HT_ ?_
           refine pM 5 68 HT_ ?_
           refine pM 6 69 HT_ ?_
           refine pM 7 70 HT_ ?_
           refine tM 0 63 rfl HT_ HW_ (by rintro w' ⟨s0, s1, s2, s3, s4, s5, s6, s7, s8, s9, s10, s11, s12, s13, s14, s15⟩; go_simp; with_reducible rfl) hHeld ?_
           refine tM 4 67 rfl HT_ HW_ (by rintro w' ⟨s0, s1, s2, s3, s4, s5, s6, s7, s8, s9, s10, s11, s12, s13, s14, s15⟩; go_simp; with_reducible rfl) hHeld ?_
           refine tM 8 71 rfl HT_ HW_ (by rintro w' ⟨s0, s1, s2, s3, s4, s5, s6, s7, s8, s9, s10, s11, s12, s13, s14, s15⟩; go_simp; with_reducible rfl) hHeld ?_
           refine one_ (i := 9) (N := some 72) #[true, true, true, true, true, true, true, true, true, true, false, false, false, false, false, false, false, false, false, false, false, false, false] rfl rfl (one_of HT_.out (by kernel_rfl)) (by decide) (fun K hK => ?_)
           refine goes_ Try.func38 (by kernel_rfl) rfl #[.agg #[.slice A0_0 l0_0.length c0_0, .slice A0_1 l0_1.length c0_1, .slice A0_2 l0_2.length c0_2, .int .i64 a0_3], .agg #[.int .i64 ((rd_T48 l1 x9_3).f0), .int .i64 ((rd_T48 l1 x9_3).f1), .int .i64 ((rd_T48 l1 x9_3).f2)], .agg #[.int .i64 ((rd_T48 l1 x10_4).f0), .int .i64 ((rd_T48 l1 x10_4).f1), .int .i64 ((rd_T48 l1 x10_4).f2)]] (by rfl) rfl rfl (by (try simp only [List.map_toArray, List.map_cons, List.map_nil]); first | done | rfl | (simp only [List.length_drop, List.length_take]; rfl)) ?_
           with_reducible refine (dancestudioref50_meet.calls _ _ l0_0 _ _ l0_1 _ _ l0_2 a0_3 ((rd_T48 l1 x9_3).f0) ((rd_T48 l1 x9_3).f1) ((rd_T48 l1 x9_3).f2) ((rd_T48 l1 x10_4).f0) ((rd_T48 l1 x10_4).f1) ((rd_T48 l1 x10_4).f2) true _ ?side1 ?side2 ?side3 ?side4 ?side5 ?side6 A27.out).mono ?_
           (case side1 => exact Kd.C_below HR0_0.out HB.out)
           (case side2 => exact HC0_0.out)
           (case side3 => exact Kd.C_below HR0_1.out HB.out)
           (case side4 => exact HC0_1.out)
           (case side5 => exact Kd.C_below HR0_2.out HB.out)
           (case side6 => exact HC0_2.out)
           rintro e w31 ⟨rfl, hb⟩
           refine ⟨_, rfl, ?_⟩
           replace BK1 := mBb BK1 hb; replace HB := mSt HB hb
           (try clear hb)
           (try clear hb2)
           (try clear hk)
           (try clear hi)
           refine hK.out _ _ ⟨blk_cell BK1.out 0, blk_cell BK1.out 1, blk_cell BK1.out 2, blk_cell BK1.out 3, ((HB.out.cell (World.block_lt_of_cell? w _ hw460_0)).trans hw460_0), ((HB.out.cell (World.block_lt_of_cell? w _ hw460_1)).trans hw460_1), ((HB.out.cell (World.block_lt_of_cell? w _ hw460_2)).trans hw460_2), ((HB.out.cell (World.block_lt_of_cell? w _ hw461_0)).trans hw461_0), ((HB.out.cell (World.block_lt_of_cell? w _ hw461_1)).trans hw461_1), ((HB.out.cell (World.block_lt_of_cell? w _ hw461_2)).trans hw461_2), ((HB.out.cell (World.block_lt_of_cell? w _ hw463_0)).trans hw463_0), ((HB.out.cell (World.block_lt_of_cell? w _ hw463_1)).trans hw463_1), ((HB.out.cell (World.block_lt_of_cell? w _ hw463_2)).trans hw463_2), ((HB.out.cell (World.block_lt_of_cell? w _ hw464_0)).trans hw464_0), ((HB.out.cell (World.block_lt_of_cell? w _ hw464_1)).trans hw464_1), ((HB.out.cell (World.block_lt_of_cell? w _ hw464_2)).trans hw464_2)⟩ (fun hHeld => ?_)
           clear hK K
           refine norm_ (by show Act.put _ (some 72) _ = _; simp only [mP]; rfl) ?_
           refine pM 10 73 HT_ ?_
           refine pM 11 74 HT_ ?_
           refine pM 12 75 HT_ ?_
           refine pM 13 76 HT_ ?_
           refine pM 14 77 HT_ ?_
           refine pM 16 79 HT_ ?_
           refine pM 17 80 HT_ ?_
           refine pM 18 81 HT_ ?_
           refine pM 19 82 HT_ ?_
           refine tM 15 78 rfl HT_ HW_ (by rintro w' ⟨s0, s1, s2, s3, s4, s5, s6, s7, s8, s9, s10, s11, s12, s13, s14, s15⟩; go_simp; with_reducible rfl) hHeld ?_
           refine tM 20 83 rfl HT_ HW_ (by rintro w' ⟨s0, s1, s2, s3, s4, s5, s6, s7, s8, s9, s10, s11, s12, s13, s14, s15⟩; go_simp; with_reducible rfl) hHeld ?_
           refine pM 21 84 HT_ ?_
           refine pM 22 85 HT_ ?_
           refine done_ (done_of HT_.out (by kernel_rfl)) ?_
           try go_wp2
           go_ret
           exact ⟨rfl, HB.out⟩
          rw [if_neg c29] at H
          have c29b0 := beq_eq_false_iff_ne.mpr c29
          have c29b1 := bne_iff_ne.mpr c29
          have H' := Aside0.mk H
          clear H
          try go_wp2
          replace BK1 := Aside0.mk (blk_drew BK1.out); replace HB := Aside0.mk (below_drew1 HB.out)
          have p460 : 0 ≤ (x9_3 : Int) := of_decide_eq_true (by assumption)
          have q460 : x9_3 < (l1.length : Int) := of_decide_eq_true (by assumption)
          obtain ⟨ad460, e460, hx460_0, hx460_1, hx460_2⟩ := at_T48 HR1.out x9_3 p460 q460
          have hw460_2 := hx460_2
          have hw460_1 := hx460_1
          have hw460_0 := hx460_0
          cases e460
          replace hx460_0 := mHx HB hx460_0
          replace hx460_1 := mHx HB hx460_1
          replace hx460_2 := mHx HB hx460_2
          replace p460 := eq_true p460
          replace q460 := eq_true q460
          have p461 : 0 ≤ (x10_4 : Int) := of_decide_eq_true (by assumption)
          have q461 : x10_4 < (l1.length : Int) := of_decide_eq_true (by assumption)
          obtain ⟨ad461, e461, hx461_0, hx461_1, hx461_2⟩ := at_T48 HR1.out x10_4 p461 q461
          have hw461_2 := hx461_2
          have hw461_1 := hx461_1
          have hw461_0 := hx461_0
          obtain rfl : ad460 = ad461 := (by injection e461)
          replace hx461_0 := mHx HB hx461_0
          replace hx461_1 := mHx HB hx461_1
          replace hx461_2 := mHx HB hx461_2
          replace p461 := eq_true p461
          replace q461 := eq_true q461
          have p463 : 0 ≤ (x9_3 : Int) := of_decide_eq_true (by assumption)
          have q463 : x9_3 < (l1.length : Int) := of_decide_eq_true (by assumption)
          obtain ⟨ad463, e463, hx463_0, hx463_1, hx463_2⟩ := at_T48 HR1.out x9_3 p463 q463
          have hw463_2 := hx463_2
          have hw463_1 := hx463_1
          have hw463_0 := hx463_0
          obtain rfl : ad460 = ad463 := (by injection e463)
          replace hx463_0 := mHx HB hx463_0
          replace hx463_1 := mHx HB hx463_1
          replace hx463_2 := mHx HB hx463_2
          replace p463 := eq_true p463
          replace q463 := eq_true q463
          have p464 : 0 ≤ (x10_4 : Int) := of_decide_eq_true (by assumption)
          have q464 : x10_4 < (l1.length : Int) := of_decide_eq_true (by assumption)
          obtain ⟨ad464, e464, hx464_0, hx464_1, hx464_2⟩ := at_T48 HR1.out x10_4 p464 q464
          have hw464_2 := hx464_2
          have hw464_1 := hx464_1
          have hw464_0 := hx464_0
          obtain rfl : ad460 = ad464 := (by injection e464)
          replace hx464_0 := mHx HB hx464_0
          replace hx464_1 := mHx HB hx464_1
          replace hx464_2 := mHx HB hx464_2
          replace p464 := eq_true p464
          replace q464 := eq_true q464
          refine start_ (n := 23) (S := fun w' => w'.cell? ⟨gb1, 0, none⟩ = some (.slice A0_0 l0_0.length c0_0) ∧ w'.cell? ⟨gb1, 1, none⟩ = some (.slice A0_1 l0_1.length c0_1) ∧ w'.cell? ⟨gb1, 2, none⟩ = some (.slice A0_2 l0_2.length c0_2) ∧ w'.cell? ⟨gb1, 3, none⟩ = some (.int .i64 a0_3) ∧ w'.cell? (ad460.add ((x9_3).toNat * 3)) = some (.int .i64 ((rd_T48 l1 x9_3).f0)) ∧ w'.cell? ⟨(ad460.add ((x9_3).toNat * 3)).block, (ad460.add ((x9_3).toNat * 3)).off + 1, none⟩ = some (.int .i64 ((rd_T48 l1 x9_3).f1)) ∧ w'.cell? ⟨(ad460.add ((x9_3).toNat * 3)).block, (ad460.add ((x9_3).toNat * 3)).off + 2, none⟩ = some (.int .i64 ((rd_T48 l1 x9_3).f2)) ∧ w'.cell? (ad460.add ((x10_4).toNat * 3)) = some (.int .i64 ((rd_T48 l1 x10_4).f0)) ∧ w'.cell? ⟨(ad460.add ((x10_4).toNat * 3)).block, (ad460.add ((x10_4).toNat * 3)).off + 1, none⟩ = some (.int .i64 ((rd_T48 l1 x10_4).f1)) ∧ w'.cell? ⟨(ad460.add ((x10_4).toNat * 3)).block, (ad460.add ((x10_4).toNat * 3)).off + 2, none⟩ = some (.int .i64 ((rd_T48 l1 x10_4).f2)) ∧ w'.cell? (ad460.add ((x9_3).toNat * 3)) = some (.int .i64 ((rd_T48 l1 x9_3).f0)) ∧ w'.cell? ⟨(ad460.add ((x9_3).toNat * 3)).block, (ad460.add ((x9_3).toNat * 3)).off + 1, none⟩ = some (.int .i64 ((rd_T48 l1 x9_3).f1)) ∧ w'.cell? ⟨(ad460.add ((x9_3).toNat * 3)).block, (ad460.add ((x9_3).toNat * 3)).off + 2, none⟩ = some (.int .i64 ((rd_T48 l1 x9_3).f2)) ∧ w'.cell? (ad460.add ((x10_4).toNat * 3)) = some (.int .i64 ((rd_T48 l1 x10_4).f0)) ∧ w'.cell? ⟨(ad460.add ((x10_4).toNat * 3)).block, (ad460.add ((x10_4).toNat * 3)).off + 1, none⟩ = some (.int .i64 ((rd_T48 l1 x10_4).f1)) ∧ w'.cell? ⟨(ad460.add ((x10_4).toNat * 3)).block, (ad460.add ((x10_4).toNat * 3)).off + 2, none⟩ = some (.int .i64 ((rd_T48 l1 x10_4).f2))) (ds := []) #[false, false, false, false, false, false, false, false, false, false, false, false, false, false, false, false, false, false, false, false, false, false, false] (by kernel_rfl) rfl rfl ⟨(blk_cell BK1.out 0).trans rfl, (blk_cell BK1.out 1).trans rfl, (blk_cell BK1.out 2).trans rfl, (blk_cell BK1.out 3).trans rfl, ((HB.out.cell (World.block_lt_of_cell? w _ hw460_0)).trans hw460_0), ((HB.out.cell (World.block_lt_of_cell? w _ hw460_1)).trans hw460_1), ((HB.out.cell (World.block_lt_of_cell? w _ hw460_2)).trans hw460_2), ((HB.out.cell (World.block_lt_of_cell? w _ hw461_0)).trans hw461_0), ((HB.out.cell (World.block_lt_of_cell? w _ hw461_1)).trans hw461_1), ((HB.out.cell (World.block_lt_of_cell? w _ hw461_2)).trans hw461_2), ((HB.out.cell (World.block_lt_of_cell? w _ hw463_0)).trans hw463_0), ((HB.out.cell (World.block_lt_of_cell? w _ hw463_1)).trans hw463_1), ((HB.out.cell (World.block_lt_of_cell? w _ hw463_2)).trans hw463_2), ((HB.out.cell (World.block_lt_of_cell? w _ hw464_0)).trans hw464_0), ((HB.out.cell (World.block_lt_of_cell? w _ hw464_1)).trans hw464_1), ((HB.out.cell (World.block_lt_of_cell? w _ hw464_2)).trans hw464_2)⟩ (fun hHeld => ?_); refine with_tabW dancestudioref50_Valid.tab23 dancestudioref50_Valid.bits23 (fun HT_ HW_ => ?_)
          generalize wr.drew = w32 at BK1 HB hx460_0 hx460_1 hx460_2 hx461_0 hx461_1 hx461_2 hx463_0 hx463_1 hx463_2 hx464_0 hx464_1 hx464_2 hHeld ⊢
          refine pM 1 64 HT_ ?_
          refine pM 2 65 HT_ ?_
          refine pM 3 66 HT_ ?_
          refine pM 5 68 HT_ ?_
          refine pM 6 69 HT_ ?_
          refine pM 7 70 HT_ ?_
          refine tM 0 63 rfl HT_ HW_ (by rintro w' ⟨s0, s1, s2, s3, s4, s5, s6, s7, s8, s9, s10, s11, s12, s13, s14, s15⟩; go_simp; with_reducible rfl) hHeld ?_
          refine tM 4 67 rfl HT_ HW_ (by rintro w' ⟨s0, s1, s2, s3, s4, s5, s6, s7, s8, s9, s10, s11, s12, s13, s14, s15⟩; go_simp; with_reducible rfl) hHeld ?_
          refine tM 8 71 rfl HT_ HW_ (by rintro w' ⟨s0, s1, s2, s3, s4, s5, s6, s7, s8, s9, s10, s11, s12, s13, s14, s15⟩; go_simp; with_reducible rfl) hHeld ?_
          refine one_ (i := 9) (N := some 72) #[true, true, true, true, true, true, true, true, true, true, false, false, false, false, false, false, false, false, false, false, false, false, false] rfl rfl (one_of HT_.out (by kernel_rfl)) (by decide) (fun K hK => ?_)
          refine goes_ Try.func38 (by kernel_rfl) rfl #[.agg #[.slice A0_0 l0_0.length c0_0, .slice A0_1 l0_1.length c0_1, .slice A0_2 l0_2.length c0_2, .int .i64 a0_3], .agg #[.int .i64 ((rd_T48 l1 x9_3).f0), .int .i64 ((rd_T48 l1 x9_3).f1), .int .i64 ((rd_T48 l1 x9_3).f2)], .agg #[.int .i64 ((rd_T48 l1 x10_4).f0), .int .i64 ((rd_T48 l1 x10_4).f1), .int .i64 ((rd_T48 l1 x10_4).f2)]] (by rfl) rfl rfl (by (try simp only [List.map_toArray, List.map_cons, List.map_nil]); first | done | rfl | (simp only [List.length_drop, List.length_take]; rfl)) ?_
          with_reducible refine (dancestudioref50_meet.calls _ _ l0_0 _ _ l0_1 _ _ l0_2 a0_3 ((rd_T48 l1 x9_3).f0) ((rd_T48 l1 x9_3).f1) ((rd_T48 l1 x9_3).f2) ((rd_T48 l1 x10_4).f0) ((rd_T48 l1 x10_4).f1) ((rd_T48 l1 x10_4).f2) true _ ?side1 ?side2 ?side3 ?side4 ?side5 ?side6 A27.out).mono ?_
          (case side1 => exact Kd.C_below HR0_0.out HB.out)
          (case side2 => exact HC0_0.out)
          (case side3 => exact Kd.C_below HR0_1.out HB.out)
          (case side4 => exact HC0_1.out)
          (case side5 => exact Kd.C_below HR0_2.out HB.out)
          (case side6 => exact HC0_2.out)
          rintro e w33 ⟨rfl, hb⟩
          refine ⟨_, rfl, ?_⟩
          replace BK1 := mBb BK1 hb; replace HB := mSt HB hb
          (try clear hb)
          (try clear hb2)
          (try clear hk)
          (try clear hi)
          refine hK.out _ _ ⟨blk_cell BK1.out 0, blk_cell BK1.out 1, blk_cell BK1.out 2, blk_cell BK1.out 3, ((HB.out.cell (World.block_lt_of_cell? w _ hw460_0)).trans hw460_0), ((HB.out.cell (World.block_lt_of_cell? w _ hw460_1)).trans hw460_1), ((HB.out.cell (World.block_lt_of_cell? w _ hw460_2)).trans hw460_2), ((HB.out.cell (World.block_lt_of_cell? w _ hw461_0)).trans hw461_0), ((HB.out.cell (World.block_lt_of_cell? w _ hw461_1)).trans hw461_1), ((HB.out.cell (World.block_lt_of_cell? w _ hw461_2)).trans hw461_2), ((HB.out.cell (World.block_lt_of_cell? w _ hw463_0)).trans hw463_0), ((HB.out.cell (World.block_lt_of_cell? w _ hw463_1)).trans hw463_1), ((HB.out.cell (World.block_lt_of_cell? w _ hw463_2)).trans hw463_2), ((HB.out.cell (World.block_lt_of_cell? w _ hw464_0)).trans hw464_0), ((HB.out.cell (World.block_lt_of_cell? w _ hw464_1)).trans hw464_1), ((HB.out.cell (World.block_lt_of_cell? w _ hw464_2)).trans hw464_2)⟩ (fun hHeld => ?_)
          clear hK K
          refine norm_ (by show Act.put _ (some 72) _ = _; simp only [mP]; rfl) ?_
          refine pM 10 73 HT_ ?_
          refine pM 11 74 HT_ ?_
          refine pM 12 75 HT_ ?_
          refine pM 13 76 HT_ ?_
          refine pM 14 77 HT_ ?_
          refine pM 16 79 HT_ ?_
          refine pM 17 80 HT_ ?_
          refine pM 18 81 HT_ ?_
          refine pM 19 82 HT_ ?_
          refine tM 15 78 rfl HT_ HW_ (by rintro w' ⟨s0, s1, s2, s3, s4, s5, s6, s7, s8, s9, s10, s11, s12, s13, s14, s15⟩; go_simp; with_reducible rfl) hHeld ?_
          refine tM 20 83 rfl HT_ HW_ (by rintro w' ⟨s0, s1, s2, s3, s4, s5, s6, s7, s8, s9, s10, s11, s12, s13, s14, s15⟩; go_simp; with_reducible rfl) hHeld ?_
          refine pM 21 84 HT_ ?_
          refine pM 22 85 HT_ ?_
          refine done_ (done_of HT_.out (by kernel_rfl)) ?_
          try go_wp2
          go_roundg k4
          case measure => have := HK1.out; have := HK2.out; have := HK3.out; have := HK4.out; omega
          case rel => exact ⟨(wrap64 (x10_4 + 1)), rfl, H', ⟨by have := HK1.out; have := HK2.out; have := HK3.out; have := HK4.out; omega⟩, ⟨BK1.out⟩, ⟨HB.out⟩⟩
       rw [if_neg c21] at H
       have c21b0 := decide_eq_false c21
       clear c21
       have H' := Aside0.mk H
       clear H
       go_wp2
       go_loopg [11] k3 (fun kq v11 w' => ∃ (x11_4 : Int), v11 = .int .i64 x11_4 ∧ Aside0 (dancestudioref50_Valid.l4 kq l1 x11_4 l0_0 l0_1 l0_2 a0_3 = some r) ∧ Aside0 (kq ≤ k3) ∧ Aside0 (w'.heap[gb1]? = some (.cells #[(.slice A0_0 l0_0.length c0_0), (.slice A0_1 l0_1.length c0_1), (.slice A0_2 l0_2.length c0_2), .int .i64 a0_3] 26 (0, 0))) ∧ Aside0 (Below w.heap.size w w'))
       case atStart => exact ⟨(0), rfl, H', ⟨Nat.le_refl _⟩, ⟨BK1.out⟩, ⟨HB.out⟩⟩
       case round =>
        clear H'
        clear c21b0
        obtain ⟨x11_4, rfl, HA, HK4, BK1, HB⟩ := hrel
        cases gk with
        | zero => exact absurd HA.out (by simp [dancestudioref50_Valid.l4])
        | succ k4 =>
         have H := HA.out
         clear HA
         simp only [dancestudioref50_Valid.l4] at H
         by_cases c36 : x11_4 < (l1.length : Int)
         rotate_left
         ·
          rw [if_neg c36] at H
          have c36b0 := decide_eq_false c36
          clear c36
          obtain rfl := Option.some.inj H
          go_wp2
          go_ret
          exact ⟨rfl, HB.out⟩
         rw [if_pos c36] at H
         have c36b0 := decide_eq_true c36
         clear c36
         have H' := Aside0.mk H
         clear H
         go_wp2
         go_loopg [12] k4 (fun kq v12 w' => ∃ (x12_5 : Int), v12 = .int .i64 x12_5 ∧ Aside0 (dancestudioref50_Valid.l5 kq l1 x11_4 x12_5 l0_0 l0_1 l0_2 a0_3 = some r) ∧ Aside0 (kq ≤ k4) ∧ Aside0 (w'.heap[gb1]? = some (.cells #[(.slice A0_0 l0_0.length c0_0), (.slice A0_1 l0_1.length c0_1), (.slice A0_2 l0_2.length c0_2), .int .i64 a0_3] 26 (0, 0))) ∧ Aside0 (Below w.heap.size w w'))
         case atStart => exact ⟨(0), rfl, H', ⟨Nat.le_refl _⟩, ⟨BK1.out⟩, ⟨HB.out⟩⟩
         case round =>
          clear H'
          clear c36b0
          obtain ⟨x12_5, rfl, HA, HK5, BK1, HB⟩ := hrel
          cases gk with
          | zero => exact absurd HA.out (by simp [dancestudioref50_Valid.l5])
          | succ k5 =>
           have H := HA.out
           clear HA
           simp only [dancestudioref50_Valid.l5] at H
           by_cases c37 : x12_5 < x11_4
           rotate_left
           ·
            rw [if_neg c37] at H
            have c37b0 := decide_eq_false c37
            clear c37
            have H' := Aside0.mk H
            clear H
            go_wp2
            go_roundg k5
            case measure => have := HK1.out; have := HK2.out; have := HK3.out; have := HK4.out; have := HK5.out; omega
            case rel => exact ⟨(wrap64 (x11_4 + 1)), rfl, H', ⟨by have := HK1.out; have := HK2.out; have := HK3.out; have := HK4.out; have := HK5.out; omega⟩, ⟨BK1.out⟩, ⟨HB.out⟩⟩
           rw [if_pos c37] at H
           have c37b0 := decide_eq_true c37
           clear c37
           obtain ⟨c38, H⟩ : (0 ≤ x11_4) ∧ _ := mIf H
           have c38b0 := decide_eq_true c38
           clear c38
           obtain ⟨c39, H⟩ : (x11_4 < (l1.length : Int)) ∧ _ := mIf H
           have c39b0 := decide_eq_true c39
           clear c39
           obtain ⟨c40, H⟩ : (0 ≤ x12_5) ∧ _ := mIf H
           have c40b0 := decide_eq_true c40
           clear c40
           obtain ⟨c41, H⟩ : (x12_5 < (l1.length : Int)) ∧ _ := mIf H
           have c41b0 := decide_eq_true c41
           clear c41
           replace H := Option.bind_eq_some_iff.mp H
           obtain ⟨t467, A420, H⟩ := H
           try dsimp only at H
           have A42 := Aside0.mk A420
           clear A420
           by_cases c43 : t467 = true
           rotate_left
           ·
            replace c43 := Bool.eq_false_iff.mpr c43
            subst c43
            rw [if_neg (show ¬ (false = true) by decide)] at H
            have H' := Aside0.mk H
            clear H
            try go_wp2
            replace BK1 := Aside0.mk (blk_drew BK1.out); replace HB := Aside0.mk (below_drew1 HB.out)
            have p465 : 0 ≤ (x11_4 : Int) := of_decide_eq_true (by assumption)
            have q465 : x11_4 < (l1.length : Int) := of_decide_eq_true (by assumption)
            obtain ⟨ad465, e465, hx465_0, hx465_1, hx465_2⟩ := at_T48 HR1.out x11_4 p465 q465
            have hw465_2 := hx465_2
            have hw465_1 := hx465_1
            have hw465_0 := hx465_0
            cases e465
            replace hx465_0 := mHx HB hx465_0
            replace hx465_1 := mHx HB hx465_1
            replace hx465_2 := mHx HB hx465_2
            replace p465 := eq_true p465
            replace q465 := eq_true q465
            have p466 : 0 ≤ (x12_5 : Int) := of_decide_eq_true (by assumption)
            have q466 : x12_5 < (l1.length : Int) := of_decide_eq_true (by assumption)
            obtain ⟨ad466, e466, hx466_0, hx466_1, hx466_2⟩ := at_T48 HR1.out x12_5 p466 q466
            have hw466_2 := hx466_2
            have hw466_1 := hx466_1
            have hw466_0 := hx466_0
            obtain rfl : ad465 = ad466 := (by injection e466)
            replace hx466_0 := mHx HB hx466_0
            replace hx466_1 := mHx HB hx466_1
            replace hx466_2 := mHx HB hx466_2
            replace p466 := eq_true p466
            replace q466 := eq_true q466
            refine start_ (n := 23) (S := fun w' => w'.cell? ⟨gb1, 0, none⟩ = some (.slice A0_0 l0_0.length c0_0) ∧ w'.cell? ⟨gb1, 1, none⟩ = some (.slice A0_1 l0_1.length c0_1) ∧ w'.cell? ⟨gb1, 2, none⟩ = some (.slice A0_2 l0_2.length c0_2) ∧ w'.cell? ⟨gb1, 3, none⟩ = some (.int .i64 a0_3) ∧ w'.cell? (ad465.add ((x11_4).toNat * 3)) = some (.int .i64 ((rd_T48 l1 x11_4).f0)) ∧ w'.cell? ⟨(ad465.add ((x11_4).toNat * 3)).block, (ad465.add ((x11_4).toNat * 3)).off + 1, none⟩ = some (.int .i64 ((rd_T48 l1 x11_4).f1)) ∧ w'.cell? ⟨(ad465.add ((x11_4).toNat * 3)).block, (ad465.add ((x11_4).toNat * 3)).off + 2, none⟩ = some (.int .i64 ((rd_T48 l1 x11_4).f2)) ∧ w'.cell? (ad465.add ((x12_5).toNat * 3)) = some (.int .i64 ((rd_T48 l1 x12_5).f0)) ∧ w'.cell? ⟨(ad465.add ((x12_5).toNat * 3)).block, (ad465.add ((x12_5).toNat * 3)).off + 1, none⟩ = some (.int .i64 ((rd_T48 l1 x12_5).f1)) ∧ w'.cell? ⟨(ad465.add ((x12_5).toNat * 3)).block, (ad465.add ((x12_5).toNat * 3)).off + 2, none⟩ = some (.int .i64 ((rd_T48 l1 x12_5).f2))) (ds := []) #[false, false, false, false, false, false, false, false, false, false, false, false, false, false, false, false, false, false, false, false, false, false, false] (by kernel_rfl) rfl rfl ⟨(blk_cell BK1.out 0).trans rfl, (blk_cell BK1.out 1).trans rfl, (blk_cell BK1.out 2).trans rfl, (blk_cell BK1.out 3).trans rfl, ((HB.out.cell (World.block_lt_of_cell? w _ hw465_0)).trans hw465_0), ((HB.out.cell (World.block_lt_of_cell? w _ hw465_1)).trans hw465_1), ((HB.out.cell (World.block_lt_of_cell? w _ hw465_2)).trans hw465_2), ((HB.out.cell (World.block_lt_of_cell? w _ hw466_0)).trans hw466_0), ((HB.out.cell (World.block_lt_of_cell? w _ hw466_1)).trans hw466_1), ((HB.out.cell (World.block_lt_of_cell? w _ hw466_2)).trans hw466_2)⟩ (fun hHeld => ?_); refine with_tabW dancestudioref50_Valid.tab31 dancestudioref50_Valid.bits31 (fun HT_ HW_ => ?_)
            generalize wr.drew = w54 at BK1 HB hx465_0 hx465_1 hx465_2 hx466_0 hx466_1 hx466_2 hHeld ⊢
            refine pM 1 98 HT_ ?_
            refine pM 2 99 HT_ ?_
            refine pM 3 100 HT_ ?_
            refine pM 5 102 HT_ ?_
            refine pM 6 103 HT_ ?_
            refine pM 7 104 HT_ ?_
            refine tM 0 97 rfl HT_ HW_ (by rintro w' ⟨s0, s1, s2, s3, s4, s5, s6, s7, s8, s9⟩; go_simp; with_reducible rfl) hHeld ?_
            refine tM 4 101 rfl HT_ HW_ (by rintro w' ⟨s0, s1, s2, s3, s4, s5, s6, s7, s8, s9⟩; go_simp; with_reducible rfl) hHeld ?_
            refine tM 8 105 rfl HT_ HW_ (by rintro w' ⟨s0, s1, s2, s3, s4, s5, s6, s7, s8, s9⟩; go_simp; with_reducible rfl) hHeld ?_
            refine one_ (i := 9) (N := some 106) #[true, true, true, true, true, true, true, true, true, true, false, false, false, false, false, false, false, false, false, false, false, false, false] rfl rfl (one_of HT_.out (by kernel_rfl)) (by decide) (fun K hK => ?_)
            refine goes_ Try.func38 (by kernel_rfl) rfl #[.agg #[.slice A0_0 l0_0.length c0_0, .slice A0_1 l0_1.length c0_1, .slice A0_2 l0_2.length c0_2, .int .i64 a0_3], .agg #[.int .i64 ((rd_T48 l1 x11_4).f0), .int .i64 ((rd_T48 l1 x11_4).f1), .int .i64 ((rd_T48 l1 x11_4).f2)], .agg #[.int .i64 ((rd_T48 l1 x12_5).f0), .int .i64 ((rd_T48 l1 x12_5).f1), .int .i64 ((rd_T48 l1 x12_5).f2)]] (by rfl) rfl rfl (by (try simp only [List.map_toArray, List.map_cons, List.map_nil]); first | done | rfl | (simp only [List.length_drop, List.length_take]; rfl)) ?_
            with_reducible refine (dancestudioref50_meet.calls _ _ l0_0 _ _ l0_1 _ _ l0_2 a0_3 ((rd_T48 l1 x11_4).f0) ((rd_T48 l1 x11_4).f1) ((rd_T48 l1 x11_4).f2) ((rd_T48 l1 x12_5).f0) ((rd_T48 l1 x12_5).f1) ((rd_T48 l1 x12_5).f2) false _ ?side1 ?side2 ?side3 ?side4 ?side5 ?side6 A42.out).mono ?_
            (case side1 => exact Kd.C_below HR0_0.out HB.out)
            (case side2 => exact HC0_0.out)
            (case side3 => exact Kd.C_below HR0_1.out HB.out)
            (case side4 => exact HC0_1.out)
            (case side5 => exact Kd.C_below HR0_2.out HB.out)
            (case side6 => exact HC0_2.out)
            rintro e w55 ⟨rfl, hb⟩
            refine ⟨_, rfl, ?_⟩
            replace BK1 := mBb BK1 hb; replace HB := mSt HB hb
            (try clear hb)
            (try clear hb2)
            (try clear hk)
            (try clear hi)
            refine hK.out _ _ ⟨blk_cell BK1.out 0, blk_cell BK1.out 1, blk_cell BK1.out 2, blk_cell BK1.out 3, ((HB.out.cell (World.block_lt_of_cell? w _ hw465_0)).trans hw465_0), ((HB.out.cell (World.block_lt_of_cell? w _ hw465_1)).trans hw465_1), ((HB.out.cell (World.block_lt_of_cell? w _ hw465_2)).trans hw465_2), ((HB.out.cell (World.block_lt_of_cell? w _ hw466_0)).trans hw466_0), ((HB.out.cell (World.block_lt_of_cell? w _ hw466_1)).trans hw466_1), ((HB.out.cell (World.block_lt_of_cell? w _ hw466_2)).trans hw466_2)⟩ (fun hHeld => ?_)
            clear hK K
            refine norm_ (by show Act.put _ (some 106) _ = _; simp only [mP]; rfl) ?_
            refine pM 10 107 HT_ ?_
            refine pure_ (i := 11) (N := some 108) (v := undef) (a' := ?_) #[true, true, true, true, true, true, true, true, true, true, true, true, false, false, false, false, false, false, false, false, false, false, false] rfl rfl (any_of HT_.out (by kernel_rfl)) (fun _ _ _ h => h) (Or.inr ⟨by rfl, rfl⟩) ?_ ?_
            rotate_left
            ·
             simp only [mP]
             rfl
            refine pure_ (i := 12) (N := some 109) (v := undef) (a' := ?_) #[true, true, true, true, true, true, true, true, true, true, true, true, true, false, false, false, false, false, false, false, false, false, false] rfl rfl (any_of HT_.out (by kernel_rfl)) (fun _ _ _ h => h) (Or.inr ⟨by rfl, rfl⟩) ?_ ?_
            rotate_left
            ·
             simp only [mP]
             rfl
            refine pure_ (i := 13) (N := some 110) (v := undef) (a' := ?_) #[true, true, true, true, true, true, true, true, true, true, true, true, true, true, false, false, false, false, false, false, false, false, false] rfl rfl (any_of HT_.out (by kernel_rfl)) (fun _ _ _ h => h) (Or.inr ⟨by rfl, rfl⟩) ?_ ?_
            rotate_left
            ·
             simp only [mP]
             rfl
            refine pure_ (i := 14) (N := some 111) (v := undef) (a' := ?_) #[true, true, true, true, true, true, true, true, true, true, true, true, true, true, true, false, false, false, false, false, false, false, false] rfl rfl (any_of HT_.out (by kernel_rfl)) (fun _ _ _ h => h) (Or.inr ⟨by rfl, rfl⟩) ?_ ?_
            rotate_left
            ·
             simp only [mP]
             rfl
            refine pure_ (i := 15) (N := some 112) (v := undef) (a' := ?_) #[true, true, true, true, true, true, true, true, true, true, true, true, true, true, true, true, false, false, false, false, false, false, false] rfl rfl (any_of HT_.out (by kernel_rfl)) (fun _ _ _ h => h) (Or.inr ⟨by rfl, rfl⟩) ?_ ?_
            rotate_left
            ·
             simp only [mP]
             rfl
            refine pure_ (i := 16) (N := some 113) (v := undef) (a' := ?_) #[true, true, true, true, true, true, true, true, true, true, true, true, true, true, true, true, true, false, false, false, false, false, false] rfl rfl (any_of HT_.out (by kernel_rfl)) (fun _ _ _ h => h) (Or.inr ⟨by rfl, rfl⟩) ?_ ?_
            rotate_left
            ·
             simp only [mP]
             rfl
            refine pure_ (i := 17) (N := some 114) (v := undef) (a' := ?_) #[true, true, true, true, true, true, true, true, true, true, true, true, true, true, true, true, true, true, false, false, false, false, false] rfl rfl (any_of HT_.out (by kernel_rfl)) (fun _ _ _ h => h) (Or.inr ⟨by rfl, rfl⟩) ?_ ?_
            rotate_left
            ·
             simp only [mP]
             rfl
            refine pure_ (i := 18) (N := some 115) (v := undef) (a' := ?_) #[true, true, true, true, true, true, true, true, true, true, true, true, true, true, true, true, true, true, true, false, false, false, false] rfl rfl (any_of HT_.out (by kernel_rfl)) (fun _ _ _ h => h) (Or.inr ⟨by rfl, rfl⟩) ?_ ?_
            rotate_left
            ·
             simp only [mP]
             rfl
            refine pure_ (i := 19) (N := some 116) (v := undef) (a' := ?_) #[true, true, true, true, true, true, true, true, true, true, true, true, true, true, true, true, true, true, true, true, false, false, false] rfl rfl (any_of HT_.out (by kernel_rfl)) (fun _ _ _ h => h) (Or.inr ⟨by rfl, rfl⟩) ?_ ?_
            rotate_left
            ·
             simp only [mP]
             rfl
            refine pure_ (i := 20) (N := some 117) (v := undef) (a' := ?_) #[true, true, true, true, true, true, true, true, true, true, true, true, true, true, true, true, true, true, true, true, true, false, false] rfl rfl (any_of HT_.out (by kernel_rfl)) (fun _ _ _ h => h) (Or.inr ⟨by rfl, rfl⟩) ?_ ?_
            rotate_left
            ·
             simp only [mP]
             rfl
            refine pure_ (i := 21) (N := some 118) (v := undef) (a' := ?_) #[true, true, true, true, true, true, true, true, true, true, true, true, true, true, true, true, true, true, true, true, true, true, false] rfl rfl (any_of HT_.out (by kernel_rfl)) (fun _ _ _ h => h) (Or.inr ⟨by rfl, rfl⟩) ?_ ?_
            rotate_left
            ·
             simp only [mP]
             rfl
            refine pM 22 119 HT_ ?_
            refine done_ (done_of HT_.out (by kernel_rfl)) ?_
            try go_wp2
            go_roundg k5
            case measure => have := HK1.out; have := HK2.out; have := HK3.out; have := HK4.out; have := HK5.out; omega
            case rel => exact ⟨(wrap64 (x12_5 + 1)), rfl, H', ⟨by have := HK1.out; have := HK2.out; have := HK3.out; have := HK4.out; have := HK5.out; omega⟩, ⟨BK1.out⟩, ⟨HB.out⟩⟩
           subst c43
           rw [if_pos rfl] at H
           obtain ⟨c44, H⟩ : (x11_4 < (l0_0.length : Int)) ∧ _ := mIf H
           have c44b0 := decide_eq_true c44
           clear c44
           obtain ⟨c45, H⟩ : (x12_5 < (l0_0.length : Int)) ∧ _ := mIf H
           have c45b0 := decide_eq_true c45
           clear c45
           replace H := Option.bind_eq_some_iff.mp H
           obtain ⟨t470, A460, H⟩ := H
           try dsimp only at H
           have A46 := Aside0.mk A460
           clear A460
           by_cases c47 : t470 = true
           ·
            subst c47
            rw [if_pos rfl] at H
            obtain rfl := Option.some.inj H
            try go_wp2
            replace BK1 := Aside0.mk (blk_drew BK1.out); replace HB := Aside0.mk (below_drew1 HB.out)
            have p465 : 0 ≤ (x11_4 : Int) := of_decide_eq_true (by assumption)
            have q465 : x11_4 < (l1.length : Int) := of_decide_eq_true (by assumption)
            obtain ⟨ad465, e465, hx465_0, hx465_1, hx465_2⟩ := at_T48 HR1.out x11_4 p465 q465
            have hw465_2 := hx465_2
            have hw465_1 := hx465_1
            have hw465_0 := hx465_0
            cases e465
            replace hx465_0 := mHx HB hx465_0
            replace hx465_1 := mHx HB hx465_1
            replace hx465_2 := mHx HB hx465_2
            replace p465 := eq_true p465
            replace q465 := eq_true q465
            have p466 : 0 ≤ (x12_5 : Int) := of_decide_eq_true (by assumption)
            have q466 : x12_5 < (l1.length : Int) := of_decide_eq_true (by assumption)
            obtain ⟨ad466, e466, hx466_0, hx466_1, hx466_2⟩ := at_T48 HR1.out x12_5 p466 q466
            have hw466_2 := hx466_2
            have hw466_1 := hx466_1
            have hw466_0 := hx466_0
            obtain rfl : ad465 = ad466 := (by injection e466)
            replace hx466_0 := mHx HB hx466_0
            replace hx466_1 := mHx HB hx466_1
            replace hx466_2 := mHx HB hx466_2
            replace p466 := eq_true p466
            replace q466 := eq_true q466
            have p468 : 0 ≤ (x11_4 : Int) := of_decide_eq_true (by assumption)
            have q468 : x11_4 < (l0_0.length : Int) := of_decide_eq_true (by assumption)
            obtain ⟨ad468, A468_2, c468_2, e468, hx468_0, hx468_1, hx468_2, hl468_2, hi468_2⟩ := at_T53 HR0_0.out x11_4 p468 q468
            have hw468_2 := hx468_2
            have hw468_1 := hx468_1
            have hw468_0 := hx468_0
            cases e468
            replace hx468_0 := mHx HB hx468_0
            replace hx468_1 := mHx HB hx468_1
            replace hx468_2 := mHx HB hx468_2
            have HR468_2 := Aside0.mk hi468_2
            have HC468_2 := Aside0.mk hl468_2
            clear hi468_2 hl468_2
            replace p468 := eq_true p468
            replace q468 := eq_true q468
            have p469 : 0 ≤ (x12_5 : Int) := of_decide_eq_true (by assumption)
            have q469 : x12_5 < (l0_0.length : Int) := of_decide_eq_true (by assumption)
            obtain ⟨ad469, A469_2, c469_2, e469, hx469_0, hx469_1, hx469_2, hl469_2, hi469_2⟩ := at_T53 HR0_0.out x12_5 p469 q469
            have hw469_2 := hx469_2
            have hw469_1 := hx469_1
            have hw469_0 := hx469_0
            obtain rfl : ad468 = ad469 := (by injection e469)
            replace hx469_0 := mHx HB hx469_0
            replace hx469_1 := mHx HB hx469_1
            replace hx469_2 := mHx HB hx469_2
            have HR469_2 := Aside0.mk hi469_2
            have HC469_2 := Aside0.mk hl469_2
            clear hi469_2 hl469_2
            replace p469 := eq_true p469
            replace q469 := eq_true q469
            refine start_ (n := 23) (S := fun w' => w'.cell? ⟨gb1, 0, none⟩ = some (.slice (some ad468) l0_0.length c0_0) ∧ w'.cell? ⟨gb1, 1, none⟩ = some (.slice A0_1 l0_1.length c0_1) ∧ w'.cell? ⟨gb1, 2, none⟩ = some (.slice A0_2 l0_2.length c0_2) ∧ w'.cell? ⟨gb1, 3, none⟩ = some (.int .i64 a0_3) ∧ w'.cell? (ad465.add ((x11_4).toNat * 3)) = some (.int .i64 ((rd_T48 l1 x11_4).f0)) ∧ w'.cell? ⟨(ad465.add ((x11_4).toNat * 3)).block, (ad465.add ((x11_4).toNat * 3)).off + 1, none⟩ = some (.int .i64 ((rd_T48 l1 x11_4).f1)) ∧ w'.cell? ⟨(ad465.add ((x11_4).toNat * 3)).block, (ad465.add ((x11_4).toNat * 3)).off + 2, none⟩ = some (.int .i64 ((rd_T48 l1 x11_4).f2)) ∧ w'.cell? (ad465.add ((x12_5).toNat * 3)) = some (.int .i64 ((rd_T48 l1 x12_5).f0)) ∧ w'.cell? ⟨(ad465.add ((x12_5).toNat * 3)).block, (ad465.add ((x12_5).toNat * 3)).off + 1, none⟩ = some (.int .i64 ((rd_T48 l1 x12_5).f1)) ∧ w'.cell? ⟨(ad465.add ((x12_5).toNat * 3)).block, (ad465.add ((x12_5).toNat * 3)).off + 2, none⟩ = some (.int .i64 ((rd_T48 l1 x12_5).f2)) ∧ w'.cell? (ad468.add ((x11_4).toNat * 3)) = some (.string ((rd_T53 l0_0 x11_4).f0)) ∧ w'.cell? ⟨(ad468.add ((x11_4).toNat * 3)).block, (ad468.add ((x11_4).toNat * 3)).off + 1, none⟩ = some (.int .i64 ((rd_T53 l0_0 x11_4).f1)) ∧ w'.cell? ⟨(ad468.add ((x11_4).toNat * 3)).block, (ad468.add ((x11_4).toNat * 3)).off + 2, none⟩ = some (.slice A468_2 ((rd_T53 l0_0 x11_4).f2).length c468_2) ∧ w'.cell? (ad468.add ((x12_5).toNat * 3)) = some (.string ((rd_T53 l0_0 x12_5).f0)) ∧ w'.cell? ⟨(ad468.add ((x12_5).toNat * 3)).block, (ad468.add ((x12_5).toNat * 3)).off + 1, none⟩ = some (.int .i64 ((rd_T53 l0_0 x12_5).f1)) ∧ w'.cell? ⟨(ad468.add ((x12_5).toNat * 3)).block, (ad468.add ((x12_5).toNat * 3)).off + 2, none⟩ = some (.slice A469_2 ((rd_T53 l0_0 x12_5).f2).length c469_2)) (ds := []) #[false, false, false, false, false, false, false, false, false, false, false, false, false, false, false, false, false, false, false, false, false, false, false] (by kernel_rfl) rfl rfl ⟨(blk_cell BK1.out 0).trans rfl, (blk_cell BK1.out 1).trans rfl, (blk_cell BK1.out 2).trans rfl, (blk_cell BK1.out 3).trans rfl, ((HB.out.cell (World.block_lt_of_cell? w _ hw465_0)).trans hw465_0), ((HB.out.cell (World.block_lt_of_cell? w _ hw465_1)).trans hw465_1), ((HB.out.cell (World.block_lt_of_cell? w _ hw465_2)).trans hw465_2), ((HB.out.cell (World.block_lt_of_cell? w _ hw466_0)).trans hw466_0), ((HB.out.cell (World.block_lt_of_cell? w _ hw466_1)).trans hw466_1), ((HB.out.cell (World.block_lt_of_cell? w _ hw466_2)).trans hw466_2), ((HB.out.cell (World.block_lt_of_cell? w _ hw468_0)).trans hw468_0), ((HB.out.cell (World.block_lt_of_cell? w _ hw468_1)).trans hw468_1), ((HB.out.cell (World.block_lt_of_cell? w _ hw468_2)).trans hw468_2), ((HB.out.cell (World.block_lt_of_cell? w _ hw469_0)).trans hw469_0), ((HB.out.cell (World.block_lt_of_cell? w _ hw469_1)).trans hw469_1), ((HB.out.cell (World.block_lt_of_cell? w _ hw469_2)).trans hw469_2)⟩ (fun hHeld => ?_); refine with_tabW dancestudioref50_Valid.tab31 dancestudioref50_Valid.bits31 (fun HT_ HW_ => ?_)
            generalize wr.drew = w48 at BK1 HB HR468_2 HR469_2 hx465_0 hx465_1 hx465_2 hx466_0 hx466_1 hx466_2 hx468_0 hx468_1 hx468_2 hx469_0 hx469_1 hx469_2 hHeld ⊢
            refine pM 1 98 HT_ ?_
            refine pM 2 99 HT_ ?_
            refine pM 3 100 HT_ ?_
            refine pM 5 102 HT_ ?_
            refine pM 6 103 HT_ ?_
            refine pM 7 104 HT_ ?_
            refine tM 0 97 rfl HT_ HW_ (by rintro w' ⟨s0, s1, s2, s3, s4, s5, s6, s7, s8, s9, s10, s11, s12, s13, s14, s15⟩; go_simp; with_reducible rfl) hHeld ?_
            refine tM 4 101 rfl HT_ HW_ (by rintro w' ⟨s0, s1, s2, s3, s4, s5, s6, s7, s8, s9, s10, s11, s12, s13, s14, s15⟩; go_simp; with_reducible rfl) hHeld ?_
            refine tM 8 105 rfl HT_ HW_ (by rintro w' ⟨s0, s1, s2, s3, s4, s5, s6, s7, s8, s9, s10, s11, s12, s13, s14, s15⟩; go_simp; with_reducible rfl) hHeld ?_
            refine one_ (i := 9) (N := some 106) #[true, true, true, true, true, true, true, true, true, true, false, false, false, false, false, false, false, false, false, false, false, false, false] rfl rfl (one_of HT_.out (by kernel_rfl)) (by decide) (fun K hK => ?_)
            refine goes_ Try.func38 (by kernel_rfl) rfl #[.agg #[.slice (some ad468) l0_0.length c0_0, .slice A0_1 l0_1.length c0_1, .slice A0_2 l0_2.length c0_2, .int .i64 a0_3], .agg #[.int .i64 ((rd_T48 l1 x11_4).f0), .int .i64 ((rd_T48 l1 x11_4).f1), .int .i64 ((rd_T48 l1 x11_4).f2)], .agg #[.int .i64 ((rd_T48 l1 x12_5).f0), .int .i64 ((rd_T48 l1 x12_5).f1), .int .i64 ((rd_T48 l1 x12_5).f2)]] (by rfl) rfl rfl (by (try simp only [List.map_toArray, List.map_cons, List.map_nil]); first | done | rfl | (simp only [List.length_drop, List.length_take]; rfl)) ?_
            with_reducible refine (dancestudioref50_meet.calls _ _ l0_0 _ _ l0_1 _ _ l0_2 a0_3 ((rd_T48 l1 x11_4).f0) ((rd_T48 l1 x11_4).f1) ((rd_T48 l1 x11_4).f2) ((rd_T48 l1 x12_5).f0) ((rd_T48 l1 x12_5).f1) ((rd_T48 l1 x12_5).f2) true _ ?side1 ?side2 ?side3 ?side4 ?side5 ?side6 A42.out).mono ?_
            (case side1 => exact Kd.C_below HR0_0.out HB.out)
            (case side2 => exact HC0_0.out)
            (case side3 => exact Kd.C_below HR0_1.out HB.out)
            (case side4 => exact HC0_1.out)
            (case side5 => exact Kd.C_below HR0_2.out HB.out)
            (case side6 => exact HC0_2.out)
            rintro e w49 ⟨rfl, hb⟩
            refine ⟨_, rfl, ?_⟩
            replace BK1 := mBb BK1 hb; replace HB := mSt HB hb
            (try clear hb)
            (try clear hb2)
            (try clear hk)
            (try clear hi)
            refine hK.out _ _ ⟨blk_cell BK1.out 0, blk_cell BK1.out 1, blk_cell BK1.out 2, blk_cell BK1.out 3, ((HB.out.cell (World.block_lt_of_cell? w _ hw465_0)).trans hw465_0), ((HB.out.cell (World.block_lt_of_cell? w _ hw465_1)).trans hw465_1), ((HB.out.cell (World.block_lt_of_cell? w _ hw465_2)).trans hw465_2), ((HB.out.cell (World.block_lt_of_cell? w _ hw466_0)).trans hw466_0), ((HB.out.cell (World.block_lt_of_cell? w _ hw466_1)).trans hw466_1), ((HB.out.cell (World.block_lt_of_cell? w _ hw466_2)).trans hw466_2), ((HB.out.cell (World.block_lt_of_cell? w _ hw468_0)).trans hw468_0), ((HB.out.cell (World.block_lt_of_cell? w _ hw468_1)).trans hw468_1), ((HB.out.cell (World.block_lt_of_cell? w _ hw468_2)).trans hw468_2), ((HB.out.cell (World.block_lt_of_cell? w _ hw469_0)).trans hw469_0), ((HB.out.cell (World.block_lt_of_cell? w _ hw469_1)).trans hw469_1), ((HB.out.cell (World.block_lt_of_cell? w _ hw469_2)).trans hw469_2)⟩ (fun hHeld => ?_)
            clear hK K
            refine norm_ (by show Act.put _ (some 106) _ = _; simp only [mP]; rfl) ?_
            refine pM 10 107 HT_ ?_
            refine pM 11 108 HT_ ?_
            refine pM 13 110 HT_ ?_
            refine pM 16 113 HT_ ?_
            refine pM 18 115 HT_ ?_
            refine tM 12 109 rfl HT_ HW_ (by rintro w' ⟨s0, s1, s2, s3, s4, s5, s6, s7, s8, s9, s10, s11, s12, s13, s14, s15⟩; go_simp; with_reducible rfl) hHeld ?_
            refine pM 14 111 HT_ ?_
            refine tM 15 112 rfl HT_ HW_ (by rintro w' ⟨s0, s1, s2, s3, s4, s5, s6, s7, s8, s9, s10, s11, s12, s13, s14, s15⟩; go_simp; with_reducible rfl) hHeld ?_
            refine tM 17 114 rfl HT_ HW_ (by rintro w' ⟨s0, s1, s2, s3, s4, s5, s6, s7, s8, s9, s10, s11, s12, s13, s14, s15⟩; go_simp; with_reducible rfl) hHeld ?_
            refine pM 19 116 HT_ ?_
            refine tM 20 117 rfl HT_ HW_ (by rintro w' ⟨s0, s1, s2, s3, s4, s5, s6, s7, s8, s9, s10, s11, s12, s13, s14, s15⟩; go_simp; with_reducible rfl) hHeld ?_
            refine one_ (i := 21) (N := some 118) #[true, true, true, true, true, true, true, true, true, true, true, true, true, true, true, true, true, true, true, true, true, true, false] rfl rfl (one_of HT_.out (by kernel_rfl)) (by decide) (fun K hK => ?_)
            refine goes_ Try.func39 (by kernel_rfl) rfl #[.agg #[.string ((rd_T53 l0_0 x11_4).f0), .int .i64 ((rd_T53 l0_0 x11_4).f1), .slice A468_2 ((rd_T53 l0_0 x11_4).f2).length c468_2], .agg #[.string ((rd_T53 l0_0 x12_5).f0), .int .i64 ((rd_T53 l0_0 x12_5).f1), .slice A469_2 ((rd_T53 l0_0 x12_5).f2).length c469_2]] (by rfl) rfl rfl (by (try simp only [List.map_toArray, List.map_cons, List.map_nil]); first | done | rfl | (simp only [List.length_drop, List.length_take]; rfl)) ?_
            with_reducible refine (dancestudioref50_common.calls k5 ((rd_T53 l0_0 x11_4).f0) ((rd_T53 l0_0 x11_4).f1) _ _ ((rd_T53 l0_0 x11_4).f2) ((rd_T53 l0_0 x12_5).f0) ((rd_T53 l0_0 x12_5).f1) _ _ ((rd_T53 l0_0 x12_5).f2) true _ ?side1 ?side2 ?side3 ?side4 A46.out).mono ?_
            (case side1 => exact Kd.C_below HR468_2.out HB.out)
            (case side2 => exact HC468_2.out)
            (case side3 => exact Kd.C_below HR469_2.out HB.out)
            (case side4 => exact HC469_2.out)
            rintro e w50 ⟨rfl, hb⟩
            refine ⟨_, rfl, ?_⟩
            replace BK1 := mBb BK1 hb; replace HB := mSt HB hb
            (try clear hb)
            (try clear hb2)
            (try clear hk)
            (try clear hi)
            refine hK.out _ _ ⟨blk_cell BK1.out 0, blk_cell BK1.out 1, blk_cell BK1.out 2, blk_cell BK1.out 3, ((HB.out.cell (World.block_lt_of_cell? w _ hw465_0)).trans hw465_0), ((HB.out.cell (World.block_lt_of_cell? w _ hw465_1)).trans hw465_1), ((HB.out.cell (World.block_lt_of_cell? w _ hw465_2)).trans hw465_2), ((HB.out.cell (World.block_lt_of_cell? w _ hw466_0)).trans hw466_0), ((HB.out.cell (World.block_lt_of_cell? w _ hw466_1)).trans hw466_1), ((HB.out.cell (World.block_lt_of_cell? w _ hw466_2)).trans hw466_2), ((HB.out.cell (World.block_lt_of_cell? w _ hw468_0)).trans hw468_0), ((HB.out.cell (World.block_lt_of_cell? w _ hw468_1)).trans hw468_1), ((HB.out.cell (World.block_lt_of_cell? w _ hw468_2)).trans hw468_2), ((HB.out.cell (World.block_lt_of_cell? w _ hw469_0)).trans hw469_0), ((HB.out.cell (World.block_lt_of_cell? w _ hw469_1)).trans hw469_1), ((HB.out.cell (World.block_lt_of_cell? w _ hw469_2)).trans hw469_2)⟩ (fun hHeld => ?_)
            clear hK K
            refine norm_ (by show Act.put _ (some 118) _ = _; simp only [mP]; rfl) ?_
            refine pM 22 119 HT_ ?_
            refine done_ (done_of HT_.out (by kernel_rfl)) ?_
            try go_wp2
            go_ret
            exact ⟨rfl, HB.out⟩
           replace c47 := Bool.eq_false_iff.mpr c47
           subst c47
           rw [if_neg (show ¬ (false = true) by decide)] at H
           have H' := Aside0.mk H
           clear H
           try go_wp2
           replace BK1 := Aside0.mk (blk_drew BK1.out); replace HB := Aside0.mk (below_drew1 HB.out)
           have p465 : 0 ≤ (x11_4 : Int) := of_decide_eq_true (by assumption)
           have q465 : x11_4 < (l1.length : Int) := of_decide_eq_true (by assumption)
           obtain ⟨ad465, e465, hx465_0, hx465_1, hx465_2⟩ := at_T48 HR1.out x11_4 p465 q465
           have hw465_2 := hx465_2
           have hw465_1 := hx465_1
           have hw465_0 := hx465_0
           cases e465
           replace hx465_0 := mHx HB hx465_0
           replace hx465_1 := mHx HB hx465_1
           replace hx465_2 := mHx HB hx465_2
           replace p465 := eq_true p465
           replace q465 := eq_true q465
           have p466 : 0 ≤ (x12_5 : Int) := of_decide_eq_true (by assumption)
           have q466 : x12_5 < (l1.length : Int) := of_decide_eq_true (by assumption)
           obtain ⟨ad466, e466, hx466_0, hx466_1, hx466_2⟩ := at_T48 HR1.out x12_5 p466 q466
           have hw466_2 := hx466_2
           have hw466_1 := hx466_1
           have hw466_0 := hx466_0
           obtain rfl : ad465 = ad466 := (by injection e466)
           replace hx466_0 := mHx HB hx466_0
           replace hx466_1 := mHx HB hx466_1
           replace hx466_2 := mHx HB hx466_2
           replace p466 := eq_true p466
           replace q466 := eq_true q466
           have p468 : 0 ≤ (x11_4 : Int) := of_decide_eq_true (by assumption)
           have q468 : x11_4 < (l0_0.length : Int) := of_decide_eq_true (by assumption)
           obtain ⟨ad468, A468_2, c468_2, e468, hx468_0, hx468_1, hx468_2, hl468_2, hi468_2⟩ := at_T53 HR0_0.out x11_4 p468 q468
           have hw468_2 := hx468_2
           have hw468_1 := hx468_1
           have hw468_0 := hx468_0
           cases e468
           replace hx468_0 := mHx HB hx468_0
           replace hx468_1 := mHx HB hx468_1
           replace hx468_2 := mHx HB hx468_2
           have HR468_2 := Aside0.mk hi468_2
           have HC468_2 := Aside0.mk hl468_2
           clear hi468_2 hl468_2
           replace p468 := eq_true p468
           replace q468 := eq_true q468
           have p469 : 0 ≤ (x12_5 : Int) := of_decide_eq_true (by assumption)
           have q469 : x12_5 < (l0_0.length : Int) := of_decide_eq_true (by assumption)
           obtain ⟨ad469, A469_2, c469_2, e469, hx469_0, hx469_1, hx469_2, hl469_2, hi469_2⟩ := at_T53 HR0_0.out x12_5 p469 q469
           have hw469_2 := hx469_2
           have hw469_1 := hx469_1
           have hw469_0 := hx469_0
           obtain rfl : ad468 = ad469 := (by injection e469)
           replace hx469_0 := mHx HB hx469_0
           replace hx469_1 := mHx HB hx469_1
           replace hx469_2 := mHx HB hx469_2
           have HR469_2 := Aside0.mk hi469_2
           have HC469_2 := Aside0.mk hl469_2
           clear hi469_2 hl469_2
           replace p469 := eq_true p469
           replace q469 := eq_true q469
           refine start_ (n := 23) (S := fun w' => w'.cell? ⟨gb1, 0, none⟩ = some (.slice (some ad468) l0_0.length c0_0) ∧ w'.cell? ⟨gb1, 1, none⟩ = some (.slice A0_1 l0_1.length c0_1) ∧ w'.cell? ⟨gb1, 2, none⟩ = some (.slice A0_2 l0_2.length c0_2) ∧ w'.cell? ⟨gb1, 3, none⟩ = some (.int .i64 a0_3) ∧ w'.cell? (ad465.add ((x11_4).toNat * 3)) = some (.int .i64 ((rd_T48 l1 x11_4).f0)) ∧ w'.cell? ⟨(ad465.add ((x11_4).toNat * 3)).block, (ad465.add ((x11_4).toNat * 3)).off + 1, none⟩ = some (.int .i64 ((rd_T48 l1 x11_4).f1)) ∧ w'.cell? ⟨(ad465.add ((x11_4).toNat * 3)).block, (ad465.add ((x11_4).toNat * 3)).off + 2, none⟩ = some (.int .i64 ((rd_T48 l1 x11_4).f2)) ∧ w'.cell? (ad465.add ((x12_5).toNat * 3)) = some (.int .i64 ((rd_T48 l1 x12_5).f0)) ∧ w'.cell? ⟨(ad465.add ((x12_5).toNat * 3)).block, (ad465.add ((x12_5).toNat * 3)).off + 1, none⟩ = some (.int .i64 ((rd_T48 l1 x12_5).f1)) ∧ w'.cell? ⟨(ad465.add ((x12_5).toNat * 3)).block, (ad465.add ((x12_5).toNat * 3)).off + 2, none⟩ = some (.int .i64 ((rd_T48 l1 x12_5).f2)) ∧ w'.cell? (ad468.add ((x11_4).toNat * 3)) = some (.string ((rd_T53 l0_0 x11_4).f0)) ∧ w'.cell? ⟨(ad468.add ((x11_4).toNat * 3)).block, (ad468.add ((x11_4).toNat * 3)).off + 1, none⟩ = some (.int .i64 ((rd_T53 l0_0 x11_4).f1)) ∧ w'.cell? ⟨(ad468.add ((x11_4).toNat * 3)).block, (ad468.add ((x11_4).toNat * 3)).off + 2, none⟩ = some (.slice A468_2 ((rd_T53 l0_0 x11_4).f2).length c468_2) ∧ w'.cell? (ad468.add ((x12_5).toNat * 3)) = some (.string ((rd_T53 l0_0 x12_5).f0)) ∧ w'.cell? ⟨(ad468.add ((x12_5).toNat * 3)).block, (ad468.add ((x12_5).toNat * 3)).off + 1, none⟩ = some (.int .i64 ((rd_T53 l0_0 x12_5).f1)) ∧ w'.cell? ⟨(ad468.add ((x12_5).toNat * 3)).block, (ad468.add ((x12_5).toNat * 3)).off + 2, none⟩ = some (.slice A469_2 ((rd_T53 l0_0 x12_5).f2).length c469_2)) (ds := []) #[false, false, false, false, false, false, false, false, false, false, false, false, false, false, false, false, false, false, false, false, false, false, false] (by kernel_rfl) rfl rfl ⟨(blk_cell BK1.out 0).trans rfl, (blk_cell BK1.out 1).trans rfl, (blk_cell BK1.out 2).trans rfl, (blk_cell BK1.out 3).trans rfl, ((HB.out.cell (World.block_lt_of_cell? w _ hw465_0)).trans hw465_0), ((HB.out.cell (World.block_lt_of_cell? w _ hw465_1)).trans hw465_1), ((HB.out.cell (World.block_lt_of_cell? w _ hw465_2)).trans hw465_2), ((HB.out.cell (World.block_lt_of_cell? w _ hw466_0)).trans hw466_0), ((HB.out.cell (World.block_lt_of_cell? w _ hw466_1)).trans hw466_1), ((HB.out.cell (World.block_lt_of_cell? w _ hw466_2)).trans hw466_2), ((HB.out.cell (World.block_lt_of_cell? w _ hw468_0)).trans hw468_0), ((HB.out.cell (World.block_lt_of_cell? w _ hw468_1)).trans hw468_1), ((HB.out.cell (World.block_lt_of_cell? w _ hw468_2)).trans hw468_2), ((HB.out.cell (World.block_lt_of_cell? w _ hw469_0)).trans hw469_0), ((HB.out.cell (World.block_lt_of_cell? w _ hw469_1)).trans hw469_1), ((HB.out.cell (World.block_lt_of_cell? w _ hw469_2)).trans hw469_2)⟩ (fun hHeld => ?_); refine with_tabW dancestudioref50_Valid.tab31 dancestudioref50_Valid.bits31 (fun HT_ HW_ => ?_)
           generalize wr.drew = w51 at BK1 HB HR468_2 HR469_2 hx465_0 hx465_1 hx465_2 hx466_0 hx466_1 hx466_2 hx468_0 hx468_1 hx468_2 hx469_0 hx469_1 hx469_2 hHeld ⊢
           refine pM 1 98 HT_ ?_
           refine pM 2 99 HT_ ?_
           refine pM 3 100 HT_ ?_
           refine pM 5 102 HT_ ?_
           refine pM 6 103 HT_ ?_
           refine pM 7 104 HT_ ?_
           refine tM 0 97 rfl HT_ HW_ (by rintro w' ⟨s0, s1, s2, s3, s4, s5, s6, s7, s8, s9, s10, s11, s12, s13, s14, s15⟩; go_simp; with_reducible rfl) hHeld ?_
           refine tM 4 101 rfl HT_ HW_ (by rintro w' ⟨s0, s1, s2, s3, s4, s5, s6, s7, s8, s9, s10, s11, s12, s13, s14, s15⟩; go_simp; with_reducible rfl) hHeld ?_
           refine tM 8 105 rfl HT_ HW_ (by rintro w' ⟨s0, s1, s2, s3, s4, s5, s6, s7, s8, s9, s10, s11, s12, s13, s14, s15⟩; go_simp; with_reducible rfl) hHeld ?_
           refine one_ (i := 9) (N := some 106) #[true, true, true, true, true, true, true, true, true, true, false, false, false, false, false, false, false, false, false, false, false, false, false] rfl rfl (one_of HT_.out (by kernel_rfl)) (by decide) (fun K hK => ?_)
           refine goes_ Try.func38 (by kernel_rfl) rfl #[.agg #[.slice (some ad468) l0_0.length c0_0, .slice A0_1 l0_1.length c0_1, .slice A0_2 l0_2.length c0_2, .int .i64 a0_3], .agg #[.int .i64 ((rd_T48 l1 x11_4).f0), .int .i64 ((rd_T48 l1 x11_4).f1), .int .i64 ((rd_T48 l1 x11_4).f2)], .agg #[.int .i64 ((rd_T48 l1 x12_5).f0), .int .i64 ((rd_T48 l1 x12_5).f1), .int .i64 ((rd_T48 l1 x12_5).f2)]] (by rfl) rfl rfl (by (try simp only [List.map_toArray, List.map_cons, List.map_nil]); first | done | rfl | (simp only [List.length_drop, List.length_take]; rfl)) ?_
           with_reducible refine (dancestudioref50_meet.calls _ _ l0_0 _ _ l0_1 _ _ l0_2 a0_3 ((rd_T48 l1 x11_4).f0) ((rd_T48 l1 x11_4).f1) ((rd_T48 l1 x11_4).f2) ((rd_T48 l1 x12_5).f0) ((rd_T48 l1 x12_5).f1) ((rd_T48 l1 x12_5).f2) true _ ?side1 ?side2 ?side3 ?side4 ?side5 ?side6 A42.out).mono ?_
           (case side1 => exact Kd.C_below HR0_0.out HB.out)
           (case side2 => exact HC0_0.out)
           (case side3 => exact Kd.C_below HR0_1.out HB.out)
           (case side4 => exact HC0_1.out)
           (case side5 => exact Kd.C_below HR0_2.out HB.out)
           (case side6 => exact HC0_2.out)
           rintro e w52 ⟨rfl, hb⟩
           refine ⟨_, rfl, ?_⟩
           replace BK1 := mBb BK1 hb; replace HB := mSt HB hb
           (try clear hb)
           (try clear hb2)
           (try clear hk)
           (try clear hi)
           refine hK.out _ _ ⟨blk_cell BK1.out 0, blk_cell BK1.out 1, blk_cell BK1.out 2, blk_cell BK1.out 3, ((HB.out.cell (World.block_lt_of_cell? w _ hw465_0)).trans hw465_0), ((HB.out.cell (World.block_lt_of_cell? w _ hw465_1)).trans hw465_1), ((HB.out.cell (World.block_lt_of_cell? w _ hw465_2)).trans hw465_2), ((HB.out.cell (World.block_lt_of_cell? w _ hw466_0)).trans hw466_0), ((HB.out.cell (World.block_lt_of_cell? w _ hw466_1)).trans hw466_1), ((HB.out.cell (World.block_lt_of_cell? w _ hw466_2)).trans hw466_2), ((HB.out.cell (World.block_lt_of_cell? w _ hw468_0)).trans hw468_0), ((HB.out.cell (World.block_lt_of_cell? w _ hw468_1)).trans hw468_1), ((HB.out.cell (World.block_lt_of_cell? w _ hw468_2)).trans hw468_2), ((HB.out.cell (World.block_lt_of_cell? w _ hw469_0)).trans hw469_0), ((HB.out.cell (World.block_lt_of_cell? w _ hw469_1)).trans hw469_1), ((HB.out.cell (World.block_lt_of_cell? w _ hw469_2)).trans hw469_2)⟩ (fun hHeld => ?_)
           clear hK K
           refine norm_ (by show Act.put _ (some 106) _ = _; simp only [mP]; rfl) ?_
           refine pM 10 107 HT_ ?_
           refine pM 11 108 HT_ ?_
           refine pM 13 110 HT_ ?_
           refine pM 16 113 HT_ ?_
           refine pM 18 115 HT_ ?_
           refine tM 12 109 rfl HT_ HW_ (by rintro w' ⟨s0, s1, s2, s3, s4, s5, s6, s7, s8, s9, s10, s11, s12, s13, s14, s15⟩; go_simp; with_reducible rfl) hHeld ?_
           refine pM 14 111 HT_ ?_
           refine tM 15 112 rfl HT_ HW_ (by rintro w' ⟨s0, s1, s2, s3, s4, s5, s6, s7, s8, s9, s10, s11, s12, s13, s14, s15⟩; go_simp; with_reducible rfl) hHeld ?_
           refine tM 17 114 rfl HT_ HW_ (by rintro w' ⟨s0, s1, s2, s3, s4, s5, s6, s7, s8, s9, s10, s11, s12, s13, s14, s15⟩; go_simp; with_reducible rfl) hHeld ?_
           refine pM 19 116 HT_ ?_
           refine tM 20 117 rfl HT_ HW_ (by rintro w' ⟨s0, s1, s2, s3, s4, s5, s6, s7, s8, s9, s10, s11, s12, s13, s14, s15⟩; go_simp; with_reducible rfl) hHeld ?_
           refine one_ (i := 21) (N := some 118) #[true, true, true, true, true, true, true, true, true, true, true, true, true, true, true, true, true, true, true, true, true, true, false] rfl rfl (one_of HT_.out (by kernel_rfl)) (by decide) (fun K hK => ?_)
           refine goes_ Try.func39 (by kernel_rfl) rfl #[.agg #[.string ((rd_T53 l0_0 x11_4).f0), .int .i64 ((rd_T53 l0_0 x11_4).f1), .slice A468_2 ((rd_T53 l0_0 x11_4).f2).length c468_2], .agg #[.string ((rd_T53 l0_0 x12_5).f0), .int .i64 ((rd_T53 l0_0 x12_5).f1), .slice A469_2 ((rd_T53 l0_0 x12_5).f2).length c469_2]] (by rfl) rfl rfl (by (try simp only [List.map_toArray, List.map_cons, List.map_nil]); first | done | rfl | (simp only [List.length_drop, List.length_take]; rfl)) ?_
           with_reducible refine (dancestudioref50_common.calls k5 ((rd_T53 l0_0 x11_4).f0) ((rd_T53 l0_0 x11_4).f1) _ _ ((rd_T53 l0_0 x11_4).f2) ((rd_T53 l0_0 x12_5).f0) ((rd_T53 l0_0 x12_5).f1) _ _ ((rd_T53 l0_0 x12_5).f2) false _ ?side1 ?side2 ?side3 ?side4 A46.out).mono ?_
           (case side1 => exact Kd.C_below HR468_2.out HB.out)
           (case side2 => exact HC468_2.out)
           (case side3 => exact Kd.C_below HR469_2.out HB.out)
           (case side4 => exact HC469_2.out)
           rintro e w53 ⟨rfl, hb⟩
           refine ⟨_, rfl, ?_⟩
           replace BK1 := mBb BK1 hb; replace HB := mSt HB hb
           (try clear hb)
           (try clear hb2)
           (try clear hk)
           (try clear hi)
           refine hK.out _ _ ⟨blk_cell BK1.out 0, blk_cell BK1.out 1, blk_cell BK1.out 2, blk_cell BK1.out 3, ((HB.out.cell (World.block_lt_of_cell? w _ hw465_0)).trans hw465_0), ((HB.out.cell (World.block_lt_of_cell? w _ hw465_1)).trans hw465_1), ((HB.out.cell (World.block_lt_of_cell? w _ hw465_2)).trans hw465_2), ((HB.out.cell (World.block_lt_of_cell? w _ hw466_0)).trans hw466_0), ((HB.out.cell (World.block_lt_of_cell? w _ hw466_1)).trans hw466_1), ((HB.out.cell (World.block_lt_of_cell? w _ hw466_2)).trans hw466_2), ((HB.out.cell (World.block_lt_of_cell? w _ hw468_0)).trans hw468_0), ((HB.out.cell (World.block_lt_of_cell? w _ hw468_1)).trans hw468_1), ((HB.out.cell (World.block_lt_of_cell? w _ hw468_2)).trans hw468_2), ((HB.out.cell (World.block_lt_of_cell? w _ hw469_0)).trans hw469_0), ((HB.out.cell (World.block_lt_of_cell? w _ hw469_1)).trans hw469_1), ((HB.out.cell (World.block_lt_of_cell? w _ hw469_2)).trans hw469_2)⟩ (fun hHeld => ?_)
           clear hK K
           refine norm_ (by show Act.put _ (some 118) _ = _; simp only [mP]; rfl) ?_
           refine pM 22 119 HT_ ?_
           refine done_ (done_of HT_.out (by kernel_rfl)) ?_
           try go_wp2
           go_roundg k5
           case measure => have := HK1.out; have := HK2.out; have := HK3.out; have := HK4.out; have := HK5.out; omega
           case rel => exact ⟨(wrap64 (x12_5 + 1)), rfl, H', ⟨by have := HK1.out; have := HK2.out; have := HK3.out; have := HK4.out; have := HK5.out; omega⟩, ⟨BK1.out⟩, ⟨HB.out⟩⟩
end Go.Proofs.Ytjppjppapdflmaa.PAll
