-- Written by wip/tools/handprint.py: walks of the functions that the law reaches; Lean checks them.
import Derived.Test.YtjppjppapdflmaaRMi
import Derived.Test.YtjppjppapdflmaaPAllx0
import Derived.Test.YtjppjppapdflmaaRRf
namespace Go.Proofs.Ytjppjppapdflmaa.PAll
open Go.RowKit Go.Proofs.YtjppjppapdflmaaW.PrintWords Go.Proofs.YtjppjppapdflmaaW.PrintLast Go.Proofs.YtjppjppapdflmaaW.PrintMore
attribute [local go_sem] max2_int min2_int max_two min_two max_three min_three max_four min_four   -- for this text's walks alone
set_option linter.unusedVariables false
set_option linter.unusedSimpArgs false

/-! ### dancestudioref50_fits: function 58 -/
mutual
def dancestudioref50_fits.j0 : Nat → List (S48) → Int → Int → Bool → List (S53) → List (S55) → List (S59) → Int → ByteArray → Int → List Int → Option (Bool)
 | 0, _, _, _, _, _, _, _, _, _, _, _ => none
 | k + 1, x1, x2, x3, x30, x513000, x513001, x513002, x513003, x515000, x515001, x515002 => if x30 = true then (some false) else (dancestudioref50_fits.l0 k x1 0 x513000 x513001 x513002 x513003 x515000 x515001 x515002 x2 0 x3)
def dancestudioref50_fits.l0 : Nat → List (S48) → Int → List (S53) → List (S55) → List (S59) → Int → ByteArray → Int → List Int → Int → Int → Int → Option (Bool)
 | 0, _, _, _, _, _, _, _, _, _, _, _, _ => none
 | k + 1, x1, x13, x513000, x513001, x513002, x513003, x515000, x515001, x515002, x517000, x517001, x517002 => if x13 < (x1.length : Int) then (if 0 ≤ x13 then ((dancestudioref50_meet.f x513000 x513001 x513002 x513003 x517000 x517001 x517002 ((rd_T48 x1 x13).f0) ((rd_T48 x1 x13).f1) ((rd_T48 x1 x13).f2)).bind fun t518 => (if t518 = true then (if x13 < (x513000.length : Int) then ((dancestudioref50_common.f k x515000 x515001 x515002 ((rd_T53 x513000 x13).f0) ((rd_T53 x513000 x13).f1) ((rd_T53 x513000 x13).f2)).bind fun t520 => (if t520 = true then (some false) else (dancestudioref50_fits.l0 k x1 (wrap64 (x13 + 1)) x513000 x513001 x513002 x513003 x515000 x515001 x515002 x517000 x517001 x517002))) else (none)) else (dancestudioref50_fits.l0 k x1 (wrap64 (x13 + 1)) x513000 x513001 x513002 x513003 x515000 x515001 x515002 x517000 x517001 x517002))) else (none)) else (some true)
end
def dancestudioref50_fits.f (k : Nat) (l0_0 : List (S53)) (l0_1 : List (S55)) (l0_2 : List (S59)) (a0_3 : Int) (l1 : List (S48)) (a2 : Int) (a3 : Int) (a4 : Int) : Option (Bool) := if 0 ≤ a2 then (if a2 < (l0_0.length : Int) then (if (wrap64 (a3 + ((rd_T53 l0_0 a2).f1))) > a4 then (dancestudioref50_fits.j0 k l1 a2 a3 true l0_0 l0_1 l0_2 a0_3 ((rd_T53 l0_0 a2).f0) ((rd_T53 l0_0 a2).f1) ((rd_T53 l0_0 a2).f2)) else ((dancestudioref50_away.f k l0_0 l0_1 l0_2 a0_3 ((rd_T53 l0_0 a2).f0) ((rd_T53 l0_0 a2).f1) ((rd_T53 l0_0 a2).f2) a3).bind fun t515 => (dancestudioref50_fits.j0 k l1 a2 a3 t515 l0_0 l0_1 l0_2 a0_3 ((rd_T53 l0_0 a2).f0) ((rd_T53 l0_0 a2).f1) ((rd_T53 l0_0 a2).f2)))) else (none)) else (none)
def dancestudioref50_fits.T8 : Bool × List (List Nat × List Nat) := (true, [([], []), ([], []), ([], []), ([], []), ([2, 3], [2, 3]), ([4], [4]), ([0, 1, 5], [0, 1, 5]), ([6, 6], [6]), ([7], [7]), ([7], [7]), ([9, 7], [7, 9]), ([7], [7]), ([10, 11, 7], [7, 10, 11]), ([12, 7], [7, 12]), ([8, 13, 7, 7], [7, 8, 13]), ([7, 14], [7, 14])])
def dancestudioref50_fits.B8 : List Nat := [0, 0, 0, 0, 12, 28, 63, 127, 255, 255, 767, 255, 3839, 7935, 16383, 32767]
theorem dancestudioref50_fits.tab8 : rtab .any (opsOf Try.f58 8) = dancestudioref50_fits.T8 := by kernel_rfl
theorem dancestudioref50_fits.bits8 : waitsOk dancestudioref50_fits.T8.2 dancestudioref50_fits.B8 = true := by kernel_rfl
set_option maxHeartbeats 8000000 in
set_option maxRecDepth 100000 in
theorem dancestudioref50_fits.calls (k : Nat) (A0_0 : Option Addr) (c0_0 : Nat) (l0_0 : List (S53)) (A0_1 : Option Addr) (c0_1 : Nat) (l0_1 : List (S55)) (A0_2 : Option Addr) (c0_2 : Nat) (l0_2 : List (S59)) (a0_3 : Int) (A1 : Option Addr) (c1 : Nat) (l1 : List (S48)) (a2 : Int) (a3 : Int) (a4 : Int) (r : Bool) (w : World) (hr0_0 : Kd.C k53 w A0_0 l0_0.length l0_0) (hc0_0 : l0_0.length ≤ c0_0) (hr0_1 : Kd.C k55 w A0_1 l0_1.length l0_1) (hc0_1 : l0_1.length ≤ c0_1) (hr0_2 : Kd.C k59 w A0_2 l0_2.length l0_2) (hc0_2 : l0_2.length ≤ c0_2) (hr1 : Kd.C k48 w A1 l1.length l1) (hc1 : l1.length ≤ c1) (h : dancestudioref50_fits.f k l0_0 l0_1 l0_2 a0_3 l1 a2 a3 a4 = some r) :
  Calls Try.prog 58 #[.agg #[.slice A0_0 l0_0.length c0_0, .slice A0_1 l0_1.length c0_1, .slice A0_2 l0_2.length c0_2, .int .i64 a0_3], .slice A1 l1.length c1, .int .i64 a2, .int .i64 a3, .int .i64 a4] w fun e w' => e = .returned (.bool r) ∧ Below w.heap.size w w' := by
 have hu30 := Try.underlying26
 have hu53 := Try.underlying53
 have hu48 := Try.underlying48
 have HR0_0 := Aside0.mk hr0_0
 have HC0_0 := Aside0.mk hc0_0
 clear hr0_0 hc0_0
 have HR0_1 := Aside0.mk hr0_1
 have HC0_1 := Aside0.mk hc0_1
 clear hr0_1 hc0_1
 have HR0_2 := Aside0.mk hr0_2
 have HC0_2 := Aside0.mk hc0_2
 clear hr0_2 hc0_2
 have HR1 := Aside0.mk hr1
 have HC1 := Aside0.mk hc1
 clear hr1 hc1
 have HB := Aside0.mk (Below.refl w.heap.size w)
 have H := h
 unfold dancestudioref50_fits.f at H
 clear h
 obtain ⟨c6, H⟩ : (0 ≤ a2) ∧ _ := mIf H
 have c6b0 := decide_eq_true c6
 clear c6
 obtain ⟨c7, H⟩ : (a2 < (l0_0.length : Int)) ∧ _ := mIf H
 have c7b0 := decide_eq_true c7
 clear c7
 have HC8 := Aside0.mk H
 clear H
 go_enter Try.func58, Try.ntmps58
 go_upto_region 2 with (first | ((with_reducible refine gate_dst (N := 5) rfl ?_); refine box_event rfl (N := 5) rfl (cs := #[.slice A0_0 l0_0.length c0_0, .slice A0_1 l0_1.length c0_1, .slice A0_2 l0_2.length c0_2, .int .i64 a0_3]) (t := 26) (by first | (go_simp; done) | (go_simp; rfl)) ?_; intro gb1 hg w9 hbox hb; have BK1 := Aside0.mk hbox; have GW1 := mGw HB hg; have GE1 := GW1; replace HB := mSt HB hb; clear hb hbox hg; have hcz10 := blk_cell BK1.out; have hfz10 := blk_frozen BK1.out; have p513 : 0 ≤ (a2 : Int) := of_decide_eq_true (by assumption); have q513 : a2 < (l0_0.length : Int) := of_decide_eq_true (by assumption); obtain ⟨ad513, A513_2, c513_2, e513, hx513_0, hx513_1, hx513_2, hl513_2, hi513_2⟩ := at_T53 HR0_0.out a2 p513 q513; cases e513; replace hx513_0 := mHx HB hx513_0; replace hx513_1 := mHx HB hx513_1; replace hx513_2 := mHx HB hx513_2; have HR513_2 := Aside0.mk hi513_2; have HC513_2 := Aside0.mk hl513_2; clear hi513_2 hl513_2; replace p513 := eq_true p513; replace q513 := eq_true q513) | ((with_reducible refine gate_dst (N := 11) rfl ?_); refine box_event rfl (N := 11) rfl (cs := #[.string (⟨#[]⟩ : ByteArray), .int .i64 0, .slice none 0 0]) (t := 53) (by first | (go_simp; done) | (go_simp; rfl)) ?_; intro gb2 hg w11 hbox hb; have BK2 := Aside0.mk hbox; have GW2 := mGw HB hg; have GE2 := GW2; replace HB := mSt HB hb; have NB1_2 := mNe BK1 hg; have NB2_1 := mSy NB1_2; replace BK1 := mBb BK1 hb; clear hb hbox hg; have hnb12 := NB2_1.out; have hnc12 := NB1_2.out; have hcz13 := blk_cell BK2.out; have hfz13 := blk_frozen BK2.out))
 (try simp only [Act.put, List.setIfInBounds_toArray, List.set_cons_zero, List.set_cons_succ])
 go_cut [30] (fun v30 wc => ∃ (kq : Nat) (x30_7 : Bool), v30 = .bool x30_7 ∧ Aside0 (dancestudioref50_fits.j0 kq l1 a2 a3 x30_7 l0_0 l0_1 l0_2 a0_3 ((rd_T53 l0_0 a2).f0) ((rd_T53 l0_0 a2).f1) ((rd_T53 l0_0 a2).f2) = some r) ∧ Aside0 (kq ≤ k) ∧ Aside0 (wc.heap[gb1]? = some (.cells #[(.slice (some ad513) l0_0.length c0_0), (.slice A0_1 l0_1.length c0_1), (.slice A0_2 l0_2.length c0_2), .int .i64 a0_3] 26 (0, 0))) ∧ Aside0 (wc.heap[gb2]? = some (.cells #[.string ((rd_T53 l0_0 a2).f0), .int .i64 ((rd_T53 l0_0 a2).f1), (.slice A513_2 ((rd_T53 l0_0 a2).f2).length c513_2)] 53 (0, 0))) ∧ Aside0 (Below w.heap.size w wc))
 case first =>
  have H := HC8.out
  clear HC8
  by_cases c14 : (wrap64 (a3 + ((rd_T53 l0_0 a2).f1))) > a4
  ·
   rw [if_pos c14] at H
   have c14b0 := decide_eq_true c14
   clear c14
   (first | rw [c14b0] | (simp only [i64_w, i32_w]; rw [c14b0]) | skip)
   have H' := Aside0.mk H
   clear H
   have hnb15 := NB2_1.out
   have hnc15 := NB1_2.out
   have hcz16 := blk_cell BK2.out; have hfz16 := blk_frozen BK2.out
   go_wp2
   go_meet
   case rel => exact ⟨_, (true), rfl, H', ⟨by first | omega | exact Nat.le_refl _⟩, ⟨by refine blk_far ?_ NB1_2.out _; refine blk_far ?_ NB1_2.out _; refine blk_far ?_ NB1_2.out _; exact BK1.out⟩, ⟨by refine blk_put (cs := #[.string ((rd_T53 l0_0 a2).f0), .int .i64 ((rd_T53 l0_0 a2).f1), .slice none 0 0]) ?_ 2 _ rfl; refine blk_put (cs := #[.string ((rd_T53 l0_0 a2).f0), .int .i64 0, .slice none 0 0]) ?_ 1 _ rfl; refine blk_put (cs := #[.string (⟨#[]⟩ : ByteArray), .int .i64 0, .slice none 0 0]) ?_ 0 _ rfl; exact BK2.out⟩, ⟨hO HB⟩⟩
  rw [if_neg c14] at H
  have c14b0 := decide_eq_false c14
  clear c14
  (first | rw [c14b0] | (simp only [i64_w, i32_w]; rw [c14b0]) | skip)
  replace H := Option.bind_eq_some_iff.mp H
  obtain ⟨t515, A170, H⟩ := H
  try dsimp only at H
  have A17 := Aside0.mk A170
  clear A170
  have H' := Aside0.mk H
  clear H
  have hnb18 := NB2_1.out
  have hnc18 := NB1_2.out
  have hcz19 := blk_cell BK2.out; have hfz19 := blk_frozen BK2.out; have hcz20 := blk_cell BK1.out; have hfz20 := blk_frozen BK1.out
  go_wp2_with (first | (go_at_call 52; (with_reducible refine (dancestudioref50_away.calls k _ _ l0_0 _ _ l0_1 _ _ l0_2 a0_3 ((rd_T53 l0_0 a2).f0) ((rd_T53 l0_0 a2).f1) _ _ ((rd_T53 l0_0 a2).f2) a3 t515 _ (Kd.C_below HR0_0.out (hO HB)) HC0_0.out (Kd.C_below HR0_1.out (hO HB)) HC0_1.out (Kd.C_below HR0_2.out (hO HB)) HC0_2.out (Kd.C_below HR513_2.out (hO HB)) HC513_2.out A17.out).mono ?_); rintro e w21 ⟨rfl, hb⟩; replace BK1 := Aside0.mk (blk_below (g := gb1) (o := .cells #[.slice (some ad513) l0_0.length c0_0, .slice A0_1 l0_1.length c0_1, .slice A0_2 l0_2.length c0_2, .int .i64 a0_3] 26 (0, 0)) (by refine blk_far ?_ NB1_2.out _; refine blk_far ?_ NB1_2.out _; refine blk_far ?_ NB1_2.out _; exact BK1.out) hb); replace BK2 := Aside0.mk (blk_below (g := gb2) (o := .cells #[.string ((rd_T53 l0_0 a2).f0), .int .i64 ((rd_T53 l0_0 a2).f1), .slice A513_2 ((rd_T53 l0_0 a2).f2).length c513_2] 53 (0, 0)) (by refine blk_put (cs := #[.string ((rd_T53 l0_0 a2).f0), .int .i64 ((rd_T53 l0_0 a2).f1), .slice none 0 0]) ?_ 2 _ rfl; refine blk_put (cs := #[.string ((rd_T53 l0_0 a2).f0), .int .i64 0, .slice none 0 0]) ?_ 1 _ rfl; refine blk_put (cs := #[.string (⟨#[]⟩ : ByteArray), .int .i64 0, .slice none 0 0]) ?_ 0 _ rfl; exact BK2.out) hb); replace HB := mSx HB hb; (try clear hb)))
  go_meet
  case rel => exact ⟨_, (t515), rfl, H', ⟨by first | omega | exact Nat.le_refl _⟩, ⟨BK1.out⟩, ⟨BK2.out⟩, ⟨HB.out⟩⟩
 case rest =>
  clear HC8; try clear c1; try clear p2; try clear c5; try clear p5; try clear q5; try clear hx5; try clear c6; try clear c6b0; try clear p6; try clear c7; try clear c7b0; try clear c12; try clear c14; try clear c14b0; try clear c15; try clear c18; try clear hcz10_0; try clear hcz10_1; try clear hcz10_2; try clear hcz10_3; try clear hcz13_0; try clear hcz13_1; try clear hcz13_2; try clear hcz16_0; try clear hcz16_1; try clear hcz16_2; try clear hcz19_0; try clear hcz19_1; try clear hcz19_2; try clear hcz20_0; try clear hcz20_1; try clear hcz20_2; try clear hcz20_3; try clear hfz10_0; try clear hfz10_1; try clear hfz10_2; try clear hfz10_3; try clear hfz13_0; try clear hfz13_1; try clear hfz13_2; try clear hfz16_0; try clear hfz16_1; try clear hfz16_2; try clear hfz19_0; try clear hfz19_1; try clear hfz19_2; try clear hfz20_0; try clear hfz20_1; try clear hfz20_2; try clear hfz20_3; try clear hx513_0; try clear hx513_1; try clear hx513_2; try clear p513; try clear q513
  obtain ⟨kq, x30_7, rfl, HA, HJ7, BK1, BK2, HB⟩ := hcut
  cases kq with
  | zero => exact absurd HA.out (by simp [dancestudioref50_fits.j0])
  | succ kj7 =>
   have H := HA.out
   clear HA
   simp only [dancestudioref50_fits.j0] at H
   by_cases c22 : x30_7 = true
   ·
    subst c22
    rw [if_pos rfl] at H
    obtain rfl := Option.some.inj H
    go_wp2
    go_ret
    exact ⟨rfl, HB.out⟩
   replace c22 := Bool.eq_false_iff.mpr c22
   subst c22
   rw [if_neg (show ¬ (false = true) by decide)] at H
   have H' := Aside0.mk H
   clear H
   go_wp2_with (first | ((with_reducible refine gate_dst (N := 12) rfl ?_); refine box_event rfl (N := 12) rfl (cs := #[.int .i64 0, .int .i64 0, .int .i64 0]) (t := 48) (by first | (go_simp; done) | (go_simp; rfl)) ?_; intro gb3 hg w23 hbox hb; have BK3 := Aside0.mk hbox; have GW3 := mGw HB hg; have GE3 := GW3; replace HB := mSt HB hb; have NB1_3 := mNe BK1 hg; have NB3_1 := mSy NB1_3; replace BK1 := mBb BK1 hb; have NB2_3 := mNe BK2 hg; have NB3_2 := mSy NB2_3; replace BK2 := mBb BK2 hb; clear hb hbox hg; have hnb24 := NB3_1.out; have hnc24 := NB1_3.out; have hnb25 := NB3_2.out; have hnc25 := NB2_3.out; have hcz26 := blk_cell BK3.out; have hfz26 := blk_frozen BK3.out))
   go_loopg [13] kj7 (fun kq v13 w' => ∃ (x13_2 : Int), v13 = .int .i64 x13_2 ∧ Aside0 (dancestudioref50_fits.l0 kq l1 x13_2 l0_0 l0_1 l0_2 a0_3 ((rd_T53 l0_0 a2).f0) ((rd_T53 l0_0 a2).f1) ((rd_T53 l0_0 a2).f2) a2 0 a3 = some r) ∧ Aside0 (kq ≤ kj7) ∧ Aside0 (w'.heap[gb1]? = some (.cells #[(.slice (some ad513) l0_0.length c0_0), (.slice A0_1 l0_1.length c0_1), (.slice A0_2 l0_2.length c0_2), .int .i64 a0_3] 26 (0, 0))) ∧ Aside0 (w'.heap[gb2]? = some (.cells #[.string ((rd_T53 l0_0 a2).f0), .int .i64 ((rd_T53 l0_0 a2).f1), (.slice A513_2 ((rd_T53 l0_0 a2).f2).length c513_2)] 53 (0, 0))) ∧ Aside0 (w'.heap[gb3]? = some (.cells #[.int .i64 a2, .int .i64 0, .int .i64 a3] 48 (0, 0))) ∧ Aside0 (Below w.heap.size w w'))
   case atStart => exact ⟨(0), rfl, H', ⟨Nat.le_refl _⟩, ⟨by refine blk_far ?_ NB1_3.out _; refine blk_far ?_ NB1_3.out _; refine blk_far ?_ NB1_3.out _; exact BK1.out⟩, ⟨by refine blk_far ?_ NB2_3.out _; refine blk_far ?_ NB2_3.out _; refine blk_far ?_ NB2_3.out _; exact BK2.out⟩, ⟨by refine blk_put (cs := #[.int .i64 a2, .int .i64 0, .int .i64 0]) ?_ 2 _ rfl; refine blk_put (cs := #[.int .i64 a2, .int .i64 0, .int .i64 0]) ?_ 1 _ rfl; refine blk_put (cs := #[.int .i64 0, .int .i64 0, .int .i64 0]) ?_ 0 _ rfl; exact BK3.out⟩, ⟨hO HB⟩⟩
   case round =>
    clear H'
    try clear c1; try clear c2; try clear p2; try clear c5; try clear p5; try clear q5; try clear hx5; try clear c6; try clear c6b0; try clear p6; try clear c7; try clear c7b0; try clear c12; try clear c14; try clear c14b0; try clear c15; try clear c18; try clear c22; try clear c24; try clear c25; try clear hcz10_0; try clear hcz10_1; try clear hcz10_2; try clear hcz10_3; try clear hcz13_0; try clear hcz13_1; try clear hcz13_2; try clear hcz16_0; try clear hcz16_1; try clear hcz16_2; try clear hcz19_0; try clear hcz19_1; try clear hcz19_2; try clear hcz20_0; try clear hcz20_1; try clear hcz20_2; try clear hcz20_3; try clear hcz26_0; try clear hcz26_1; try clear hcz26_2; try clear hfz10_0; try clear hfz10_1; try clear hfz10_2; try clear hfz10_3; try clear hfz13_0; try clear hfz13_1; try clear hfz13_2; try clear hfz16_0; try clear hfz16_1; try clear hfz16_2; try clear hfz19_0; try clear hfz19_1; try clear hfz19_2; try clear hfz20_0; try clear hfz20_1; try clear hfz20_2; try clear hfz20_3; try clear hfz26_0; try clear hfz26_1; try clear hfz26_2; try clear hx513_0; try clear hx513_1; try clear hx513_2; try clear p513; try clear q513
    obtain ⟨x13_2, rfl, HA, HK2, BK1, BK2, BK3, HB⟩ := hrel
    cases gk with
    | zero => exact absurd HA.out (by simp [dancestudioref50_fits.l0])
    | succ k2 =>
     have H := HA.out
     clear HA
     simp only [dancestudioref50_fits.l0] at H
     by_cases c27 : x13_2 < (l1.length : Int)
     rotate_left
     ·
      rw [if_neg c27] at H
      have c27b0 := decide_eq_false c27
      clear c27
      obtain rfl := Option.some.inj H
      go_wp2
      go_ret
      exact ⟨rfl, HB.out⟩
     rw [if_pos c27] at H
     have c27b0 := decide_eq_true c27
     clear c27
     obtain ⟨c28, H⟩ : (0 ≤ x13_2) ∧ _ := mIf H
     have c28b0 := decide_eq_true c28
     clear c28
     replace H := Option.bind_eq_some_iff.mp H
     obtain ⟨t518, A290, H⟩ := H
     try dsimp only at H
     have A29 := Aside0.mk A290
     clear A290
     by_cases c30 : t518 = true
     rotate_left
     ·
      replace c30 := Bool.eq_false_iff.mpr c30
      subst c30
      rw [if_neg (show ¬ (false = true) by decide)] at H
      have H' := Aside0.mk H
      clear H
      try go_wp2
      replace BK1 := Aside0.mk (blk_drew BK1.out); replace BK2 := Aside0.mk (blk_drew BK2.out); replace BK3 := Aside0.mk (blk_drew BK3.out); replace HB := Aside0.mk (below_drew1 HB.out)
      have p517 : 0 ≤ (x13_2 : Int) := of_decide_eq_true (by assumption)
      have q517 : x13_2 < (l1.length : Int) := of_decide_eq_true (by assumption)
      obtain ⟨ad517, e517, hx517_0, hx517_1, hx517_2⟩ := at_T48 HR1.out x13_2 p517 q517
      have hw517_2 := hx517_2
      have hw517_1 := hx517_1
      have hw517_0 := hx517_0
      cases e517
      replace hx517_0 := mHx HB hx517_0
      replace hx517_1 := mHx HB hx517_1
      replace hx517_2 := mHx HB hx517_2
      replace p517 := eq_true p517
      replace q517 := eq_true q517
      refine start_ (n := 16) (S := fun w' => w'.cell? ⟨gb1, 0, none⟩ = some (.slice (some ad513) l0_0.length c0_0) ∧ w'.cell? ⟨gb1, 1, none⟩ = some (.slice A0_1 l0_1.length c0_1) ∧ w'.cell? ⟨gb1, 2, none⟩ = some (.slice A0_2 l0_2.length c0_2) ∧ w'.cell? ⟨gb1, 3, none⟩ = some (.int .i64 a0_3) ∧ w'.cell? ⟨gb3, 0, none⟩ = some (.int .i64 a2) ∧ w'.cell? ⟨gb3, 1, none⟩ = some (.int .i64 0) ∧ w'.cell? ⟨gb3, 2, none⟩ = some (.int .i64 a3) ∧ w'.cell? (ad517.add ((x13_2).toNat * 3)) = some (.int .i64 ((rd_T48 l1 x13_2).f0)) ∧ w'.cell? ⟨(ad517.add ((x13_2).toNat * 3)).block, (ad517.add ((x13_2).toNat * 3)).off + 1, none⟩ = some (.int .i64 ((rd_T48 l1 x13_2).f1)) ∧ w'.cell? ⟨(ad517.add ((x13_2).toNat * 3)).block, (ad517.add ((x13_2).toNat * 3)).off + 2, none⟩ = some (.int .i64 ((rd_T48 l1 x13_2).f2))) (ds := []) #[false, false, false, false, false, false, false, false, false, false, false, false, false, false, false, false] (by kernel_rfl) rfl rfl ⟨(blk_cell BK1.out 0).trans rfl, (blk_cell BK1.out 1).trans rfl, (blk_cell BK1.out 2).trans rfl, (blk_cell BK1.out 3).trans rfl, (blk_cell BK3.out 0).trans rfl, (blk_cell BK3.out 1).trans rfl, (blk_cell BK3.out 2).trans rfl, ((HB.out.cell (World.block_lt_of_cell? w _ hw517_0)).trans hw517_0), ((HB.out.cell (World.block_lt_of_cell? w _ hw517_1)).trans hw517_1), ((HB.out.cell (World.block_lt_of_cell? w _ hw517_2)).trans hw517_2)⟩ (fun hHeld => ?_); refine with_tabW dancestudioref50_fits.tab8 dancestudioref50_fits.bits8 (fun HT_ HW_ => ?_)
      generalize wr.drew = w40 at BK1 BK2 BK3 HB hx517_0 hx517_1 hx517_2 hHeld ⊢
      refine pM 2 42 HT_ ?_
      refine pM 3 43 HT_ ?_
      refine pM 4 44 HT_ ?_
      refine tM 0 40 rfl HT_ HW_ (by rintro w' ⟨s0, s1, s2, s3, s4, s5, s6, s7, s8, s9⟩; go_simp; with_reducible rfl) hHeld ?_
      refine tM 1 41 rfl HT_ HW_ (by rintro w' ⟨s0, s1, s2, s3, s4, s5, s6, s7, s8, s9⟩; go_simp; with_reducible rfl) hHeld ?_
      refine tM 5 45 rfl HT_ HW_ (by rintro w' ⟨s0, s1, s2, s3, s4, s5, s6, s7, s8, s9⟩; go_simp; with_reducible rfl) hHeld ?_
      refine one_ (i := 6) (N := some 46) #[true, true, true, true, true, true, true, false, false, false, false, false, false, false, false, false] rfl rfl (one_of HT_.out (by kernel_rfl)) (by decide) (fun K hK => ?_)
      refine goes_ Try.func38 (by kernel_rfl) rfl #[.agg #[.slice (some ad513) l0_0.length c0_0, .slice A0_1 l0_1.length c0_1, .slice A0_2 l0_2.length c0_2, .int .i64 a0_3], .agg #[.int .i64 a2, .int .i64 0, .int .i64 a3], .agg #[.int .i64 ((rd_T48 l1 x13_2).f0), .int .i64 ((rd_T48 l1 x13_2).f1), .int .i64 ((rd_T48 l1 x13_2).f2)]] (by rfl) rfl rfl (by (try simp only [List.map_toArray, List.map_cons, List.map_nil]); first | done | rfl | (simp only [List.length_drop, List.length_take]; rfl)) ?_
      with_reducible refine (dancestudioref50_meet.calls _ _ l0_0 _ _ l0_1 _ _ l0_2 a0_3 a2 0 a3 ((rd_T48 l1 x13_2).f0) ((rd_T48 l1 x13_2).f1) ((rd_T48 l1 x13_2).f2) false _ ?side1 ?side2 ?side3 ?side4 ?side5 ?side6 A29.out).mono ?_
      (case side1 => exact Kd.C_below HR0_0.out HB.out)
      (case side2 => exact HC0_0.out)
      (case side3 => exact Kd.C_below HR0_1.out HB.out)
      (case side4 => exact HC0_1.out)
      (case side5 => exact Kd.C_below HR0_2.out HB.out)
      (case side6 => exact HC0_2.out)
      rintro e w41 ⟨rfl, hb⟩
      refine ⟨_, rfl, ?_⟩
      replace BK1 := mBb BK1 hb; replace BK2 := mBb BK2 hb; replace BK3 := mBb BK3 hb; replace HB := mSt HB hb
      (try clear hb)
      (try clear hb2)
      (try clear hk)
      (try clear hi)
      refine hK.out _ _ ⟨blk_cell BK1.out 0, blk_cell BK1.out 1, blk_cell BK1.out 2, blk_cell BK1.out 3, blk_cell BK3.out 0, blk_cell BK3.out 1, blk_cell BK3.out 2, ((HB.out.cell (World.block_lt_of_cell? w _ hw517_0)).trans hw517_0), ((HB.out.cell (World.block_lt_of_cell? w _ hw517_1)).trans hw517_1), ((HB.out.cell (World.block_lt_of_cell? w _ hw517_2)).trans hw517_2)⟩ (fun hHeld => ?_)
      clear hK K
      refine norm_ (by show Act.put _ (some 46) _ = _; simp only [mP]; rfl) ?_
      refine pM 7 47 HT_ ?_
      refine pure_ (i := 8) (N := some 48) (v := undef) (a' := ?_) #[true, true, true, true, true, true, true, true, true, false, false, false, false, false, false, false] rfl rfl (any_of HT_.out (by kernel_rfl)) (fun _ _ _ h => h) (Or.inr ⟨by rfl, rfl⟩) ?_ ?_
      rotate_left
      ·
       simp only [mP]
       rfl
      refine pure_ (i := 9) (N := some 49) (v := undef) (a' := ?_) #[true, true, true, true, true, true, true, true, true, true, false, false, false, false, false, false] rfl rfl (any_of HT_.out (by kernel_rfl)) (fun _ _ _ h => h) (Or.inr ⟨by rfl, rfl⟩) ?_ ?_
      rotate_left
      ·
       simp only [mP]
       rfl
      refine pure_ (i := 10) (N := some 50) (v := undef) (a' := ?_) #[true, true, true, true, true, true, true, true, true, true, true, false, false, false, false, false] rfl rfl (any_of HT_.out (by kernel_rfl)) (fun _ _ _ h => h) (Or.inr ⟨by rfl, rfl⟩) ?_ ?_
      rotate_left
      ·
       simp only [mP]
       rfl
      refine pure_ (i := 11) (N := some 51) (v := undef) (a' := ?_) #[true, true, true, true, true, true, true, true, true, true, true, true, false, false, false, false] rfl rfl (any_of HT_.out (by kernel_rfl)) (fun _ _ _ h => h) (Or.inr ⟨by rfl, rfl⟩) ?_ ?_
      rotate_left
      ·
       simp only [mP]
       rfl
      refine pure_ (i := 12) (N := some 52) (v := undef) (a' := ?_) #[true, true, true, true, true, true, true, true, true, true, true, true, true, false, false, false] rfl rfl (any_of HT_.out (by kernel_rfl)) (fun _ _ _ h => h) (Or.inr ⟨by rfl, rfl⟩) ?_ ?_
      rotate_left
      ·
       simp only [mP]
       rfl
      refine pure_ (i := 13) (N := some 53) (v := undef) (a' := ?_) #[true, true, true, true, true, true, true, true, true, true, true, true, true, true, false, false] rfl rfl (any_of HT_.out (by kernel_rfl)) (fun _ _ _ h => h) (Or.inr ⟨by rfl, rfl⟩) ?_ ?_
      rotate_left
      ·
       simp only [mP]
       rfl
      refine pure_ (i := 14) (N := some 54) (v := undef) (a' := ?_) #[true, true, true, true, true, true, true, true, true, true, true, true, true, true, true, false] rfl rfl (any_of HT_.out (by kernel_rfl)) (fun _ _ _ h => h) (Or.inr ⟨by rfl, rfl⟩) ?_ ?_
      rotate_left
      ·
       simp only [mP]
       rfl
      refine pM 15 55 HT_ ?_
      refine done_ (done_of HT_.out (by kernel_rfl)) ?_
      try go_wp2
      go_roundg k2
      case measure => have := HJ7.out; have := HK2.out; omega
      case rel => exact ⟨(wrap64 (x13_2 + 1)), rfl, H', ⟨by have := HJ7.out; have := HK2.out; omega⟩, ⟨BK1.out⟩, ⟨BK2.out⟩, ⟨BK3.out⟩, ⟨HB.out⟩⟩
     subst c30
     rw [if_pos rfl] at H
     obtain ⟨c31, H⟩ : (x13_2 < (l0_0.length : Int)) ∧ _ := mIf H
     have c31b0 := decide_eq_true c31
     clear c31
     replace H := Option.bind_eq_some_iff.mp H
     obtain ⟨t520, A320, H⟩ := H
     try dsimp only at H
     have A32 := Aside0.mk A320
     clear A320
     by_cases c33 : t520 = true
     ·
      subst c33
      rw [if_pos rfl] at H
      obtain rfl := Option.some.inj H
      try go_wp2
      replace BK1 := Aside0.mk (blk_drew BK1.out); replace BK2 := Aside0.mk (blk_drew BK2.out); replace BK3 := Aside0.mk (blk_drew BK3.out); replace HB := Aside0.mk (below_drew1 HB.out)
      have p517 : 0 ≤ (x13_2 : Int) := of_decide_eq_true (by assumption)
      have q517 : x13_2 < (l1.length : Int) := of_decide_eq_true (by assumption)
      obtain ⟨ad517, e517, hx517_0, hx517_1, hx517_2⟩ := at_T48 HR1.out x13_2 p517 q517
      have hw517_2 := hx517_2
      have hw517_1 := hx517_1
      have hw517_0 := hx517_0
      cases e517
      replace hx517_0 := mHx HB hx517_0
      replace hx517_1 := mHx HB hx517_1
      replace hx517_2 := mHx HB hx517_2
      replace p517 := eq_true p517
      replace q517 := eq_true q517
      have p519 : 0 ≤ (x13_2 : Int) := of_decide_eq_true (by assumption)
      have q519 : x13_2 < (l0_0.length : Int) := of_decide_eq_true (by assumption)
      obtain ⟨ad519, A519_2, c519_2, e519, hx519_0, hx519_1, hx519_2, hl519_2, hi519_2⟩ := at_T53 HR0_0.out x13_2 p519 q519
      have hw519_2 := hx519_2
      have hw519_1 := hx519_1
      have hw519_0 := hx519_0
      obtain rfl : ad513 = ad519 := (by injection e519)
      replace hx519_0 := mHx HB hx519_0
      replace hx519_1 := mHx HB hx519_1
      replace hx519_2 := mHx HB hx519_2
      have HR519_2 := Aside0.mk hi519_2
      have HC519_2 := Aside0.mk hl519_2
      clear hi519_2 hl519_2
      replace p519 := eq_true p519
      replace q519 := eq_true q519
      refine start_ (n := 16) (S := fun w' => w'.cell? ⟨gb1, 0, none⟩ = some (.slice (some ad513) l0_0.length c0_0) ∧ w'.cell? ⟨gb1, 1, none⟩ = some (.slice A0_1 l0_1.length c0_1) ∧ w'.cell? ⟨gb1, 2, none⟩ = some (.slice A0_2 l0_2.length c0_2) ∧ w'.cell? ⟨gb1, 3, none⟩ = some (.int .i64 a0_3) ∧ w'.cell? ⟨gb3, 0, none⟩ = some (.int .i64 a2) ∧ w'.cell? ⟨gb3, 1, none⟩ = some (.int .i64 0) ∧ w'.cell? ⟨gb3, 2, none⟩ = some (.int .i64 a3) ∧ w'.cell? ⟨gb2, 0, none⟩ = some (.string ((rd_T53 l0_0 a2).f0)) ∧ w'.cell? ⟨gb2, 1, none⟩ = some (.int .i64 ((rd_T53 l0_0 a2).f1)) ∧ w'.cell? ⟨gb2, 2, none⟩ = some (.slice A513_2 ((rd_T53 l0_0 a2).f2).length c513_2) ∧ w'.cell? (ad517.add ((x13_2).toNat * 3)) = some (.int .i64 ((rd_T48 l1 x13_2).f0)) ∧ w'.cell? ⟨(ad517.add ((x13_2).toNat * 3)).block, (ad517.add ((x13_2).toNat * 3)).off + 1, none⟩ = some (.int .i64 ((rd_T48 l1 x13_2).f1)) ∧ w'.cell? ⟨(ad517.add ((x13_2).toNat * 3)).block, (ad517.add ((x13_2).toNat * 3)).off + 2, none⟩ = some (.int .i64 ((rd_T48 l1 x13_2).f2)) ∧ w'.cell? (ad513.add ((x13_2).toNat * 3)) = some (.string ((rd_T53 l0_0 x13_2).f0)) ∧ w'.cell? ⟨(ad513.add ((x13_2).toNat * 3)).block, (ad513.add ((x13_2).toNat * 3)).off + 1, none⟩ = some (.int .i64 ((rd_T53 l0_0 x13_2).f1)) ∧ w'.cell? ⟨(ad513.add ((x13_2).toNat * 3)).block, (ad513.add ((x13_2).toNat * 3)).off + 2, none⟩ = some (.slice A519_2 ((rd_T53 l0_0 x13_2).f2).length c519_2)) (ds := []) #[false, false, false, false, false, false, false, false, false, false, false, false, false, false, false, false] (by kernel_rfl) rfl rfl ⟨(blk_cell BK1.out 0).trans rfl, (blk_cell BK1.out 1).trans rfl, (blk_cell BK1.out 2).trans rfl, (blk_cell BK1.out 3).trans rfl, (blk_cell BK3.out 0).trans rfl, (blk_cell BK3.out 1).trans rfl, (blk_cell BK3.out 2).trans rfl, (blk_cell BK2.out 0).trans rfl, (blk_cell BK2.out 1).trans rfl, (blk_cell BK2.out 2).trans rfl, ((HB.out.cell (World.block_lt_of_cell? w _ hw517_0)).trans hw517_0), ((HB.out.cell (World.block_lt_of_cell? w _ hw517_1)).trans hw517_1), ((HB.out.cell (World.block_lt_of_cell? w _ hw517_2)).trans hw517_2), ((HB.out.cell (World.block_lt_of_cell? w _ hw519_0)).trans hw519_0), ((HB.out.cell (World.block_lt_of_cell? w _ hw519_1)).trans hw519_1), ((HB.out.cell (World.block_lt_of_cell? w _ hw519_2)).trans hw519_2)⟩ (fun hHeld => ?_); refine with_tabW dancestudioref50_fits.tab8 dancestudioref50_fits.bits8 (fun HT_ HW_ => ?_)
      generalize wr.drew = w34 at BK1 BK2 BK3 HB HR519_2 hx517_0 hx517_1 hx517_2 hx519_0 hx519_1 hx519_2 hHeld ⊢
      refine pM 2 42 HT_ ?_
      refine pM 3 43 HT_ ?_
      refine pM 4 44 HT_ ?_
      refine tM 0 40 rfl HT_ HW_ (by rintro w' ⟨s0, s1, s2, s3, s4, s5, s6, s7, s8, s9, s10, s11, s12, s13, s14, s15⟩; go_simp; with_reducible rfl) hHeld ?_
      refine tM 1 41 rfl HT_ HW_ (by rintro w' ⟨s0, s1, s2, s3, s4, s5, s6, s7, s8, s9, s10, s11, s12, s13, s14, s15⟩; go_simp; with_reducible rfl) hHeld ?_
      refine tM 5 45 rfl HT_ HW_ (by rintro w' ⟨s0, s1, s2, s3, s4, s5, s6, s7, s8, s9, s10, s11, s12, s13, s14, s15⟩; go_simp; with_reducible rfl) hHeld ?_
      refine one_ (i := 6) (N := some 46) #[true, true, true, true, true, true, true, false, false, false, false, false, false, false, false, false] rfl rfl (one_of HT_.out (by kernel_rfl)) (by decide) (fun K hK => ?_)
      refine goes_ Try.func38 (by kernel_rfl) rfl #[.agg #[.slice (some ad513) l0_0.length c0_0, .slice A0_1 l0_1.length c0_1, .slice A0_2 l0_2.length c0_2, .int .i64 a0_3], .agg #[.int .i64 a2, .int .i64 0, .int .i64 a3], .agg #[.int .i64 ((rd_T48 l1 x13_2).f0), .int .i64 ((rd_T48 l1 x13_2).f1), .int .i64 ((rd_T48 l1 x13_2).f2)]] (by rfl) rfl rfl (by (try simp only [List.map_toArray, List.map_cons, List.map_nil]); first | done | rfl | (simp only [List.length_drop, List.length_take]; rfl)) ?_
      with_reducible refine (dancestudioref50_meet.calls _ _ l0_0 _ _ l0_1 _ _ l0_2 a0_3 a2 0 a3 ((rd_T48 l1 x13_2).f0) ((rd_T48 l1 x13_2).f1) ((rd_T48 l1 x13_2).f2) true _ ?side1 ?side2 ?side3 ?side4 ?side5 ?side6 A29.out).mono ?_
      (case side1 => exact Kd.C_below HR0_0.out HB.out)
      (case side2 => exact HC0_0.out)
      (case side3 => exact Kd.C_below HR0_1.out HB.out)
      (case side4 => exact HC0_1.out)
      (case side5 => exact Kd.C_below HR0_2.out HB.out)
      (case side6 => exact HC0_2.out)
      rintro e w35 ⟨rfl, hb⟩
      refine ⟨_, rfl, ?_⟩
      replace BK1 := mBb BK1 hb; replace BK2 := mBb BK2 hb; replace BK3 := mBb BK3 hb; replace HB := mSt HB hb
      (try clear hb)
      (try clear hb2)
      (try clear hk)
      (try clear hi)
      refine hK.out _ _ ⟨blk_cell BK1.out 0, blk_cell BK1.out 1, blk_cell BK1.out 2, blk_cell BK1.out 3, blk_cell BK3.out 0, blk_cell BK3.out 1, blk_cell BK3.out 2, blk_cell BK2.out 0, blk_cell BK2.out 1, blk_cell BK2.out 2, ((HB.out.cell (World.block_lt_of_cell? w _ hw517_0)).trans hw517_0), ((HB.out.cell (World.block_lt_of_cell? w _ hw517_1)).trans hw517_1), ((HB.out.cell (World.block_lt_of_cell? w _ hw517_2)).trans hw517_2), ((HB.out.cell (World.block_lt_of_cell? w _ hw519_0)).trans hw519_0), ((HB.out.cell (World.block_lt_of_cell? w _ hw519_1)).trans hw519_1), ((HB.out.cell (World.block_lt_of_cell? w _ hw519_2)).trans hw519_2)⟩ (fun hHeld => ?_)
      clear hK K
      refine norm_ (by show Act.put _ (some 46) _ = _; simp only [mP]; rfl) ?_
      refine pM 7 47 HT_ ?_
      refine pM 9 49 HT_ ?_
      refine pM 11 51 HT_ ?_
      refine tM 8 48 rfl HT_ HW_ (by rintro w' ⟨s0, s1, s2, s3, s4, s5, s6, s7, s8, s9, s10, s11, s12, s13, s14, s15⟩; go_simp; with_reducible rfl) hHeld ?_
      refine tM 10 50 rfl HT_ HW_ (by rintro w' ⟨s0, s1, s2, s3, s4, s5, s6, s7, s8, s9, s10, s11, s12, s13, s14, s15⟩; go_simp; with_reducible rfl) hHeld ?_
      refine pM 12 52 HT_ ?_
      refine tM 13 53 rfl HT_ HW_ (by rintro w' ⟨s0, s1, s2, s3, s4, s5, s6, s7, s8, s9, s10, s11, s12, s13, s14, s15⟩; go_simp; with_reducible rfl) hHeld ?_
      refine one_ (i := 14) (N := some 54) #[true, true, true, true, true, true, true, true, true, true, true, true, true, true, true, false] rfl rfl (one_of HT_.out (by kernel_rfl)) (by decide) (fun K hK => ?_)
      refine goes_ Try.func39 (by kernel_rfl) rfl #[.agg #[.string ((rd_T53 l0_0 a2).f0), .int .i64 ((rd_T53 l0_0 a2).f1), .slice A513_2 ((rd_T53 l0_0 a2).f2).length c513_2], .agg #[.string ((rd_T53 l0_0 x13_2).f0), .int .i64 ((rd_T53 l0_0 x13_2).f1), .slice A519_2 ((rd_T53 l0_0 x13_2).f2).length c519_2]] (by rfl) rfl rfl (by (try simp only [List.map_toArray, List.map_cons, List.map_nil]); first | done | rfl | (simp only [List.length_drop, List.length_take]; rfl)) ?_
      with_reducible refine (dancestudioref50_common.calls k2 ((rd_T53 l0_0 a2).f0) ((rd_T53 l0_0 a2).f1) _ _ ((rd_T53 l0_0 a2).f2) ((rd_T53 l0_0 x13_2).f0) ((rd_T53 l0_0 x13_2).f1) _ _ ((rd_T53 l0_0 x13_2).f2) true _ ?side1 ?side2 ?side3 ?side4 A32.out).mono ?_
      (case side1 => exact Kd.C_below HR513_2.out HB.out)
      (case side2 => exact HC513_2.out)
      (case side3 => exact Kd.C_below HR519_2.out HB.out)
      (case side4 => exact HC519_2.out)
      rintro e w36 ⟨rfl, hb⟩
      refine ⟨_, rfl, ?_⟩
      replace BK1 := mBb BK1 hb; replace BK2 := mBb BK2 hb; replace BK3 := mBb BK3 hb; replace HB := mSt HB hb
      (try clear hb)
      (try clear hb2)
      (try clear hk)
      (try clear hi)
      refine hK.out _ _ ⟨blk_cell BK1.out 0, blk_cell BK1.out 1, blk_cell BK1.out 2, blk_cell BK1.out 3, blk_cell BK3.out 0, blk_cell BK3.out 1, blk_cell BK3.out 2, blk_cell BK2.out 0, blk_cell BK2.out 1, blk_cell BK2.out 2, ((HB.out.cell (World.block_lt_of_cell? w _ hw517_0)).trans hw517_0), ((HB.out.cell (World.block_lt_of_cell? w _ hw517_1)).trans hw517_1), ((HB.out.cell (World.block_lt_of_cell? w _ hw517_2)).trans hw517_2), ((HB.out.cell (World.block_lt_of_cell? w _ hw519_0)).trans hw519_0), ((HB.out.cell (World.block_lt_of_cell? w _ hw519_1)).trans hw519_1), ((HB.out.cell (World.block_lt_of_cell? w _ hw519_2)).trans hw519_2)⟩ (fun hHeld => ?_)
      clear hK K
      refine norm_ (by show Act.put _ (some 54) _ = _; simp only [mP]; rfl) ?_
      refine pM 15 55 HT_ ?_
      refine done_ (done_of HT_.out (by kernel_rfl)) ?_
      try go_wp2
      go_ret
      exact ⟨rfl, HB.out⟩
     replace c33 := Bool.eq_false_iff.mpr c33
     subst c33
     rw [if_neg (show ¬ (false = true) by decide)] at H
     have H' := Aside0.mk H
     clear H
     try go_wp2
     replace BK1 := Aside0.mk (blk_drew BK1.out); replace BK2 := Aside0.mk (blk_drew BK2.out); replace BK3 := Aside0.mk (blk_drew BK3.out); replace HB := Aside0.mk (below_drew1 HB.out)
     have p517 : 0 ≤ (x13_2 : Int) := of_decide_eq_true (by assumption)
     have q517 : x13_2 < (l1.length : Int) := of_decide_eq_true (by assumption)
     obtain ⟨ad517, e517, hx517_0, hx517_1, hx517_2⟩ := at_T48 HR1.out x13_2 p517 q517
     have hw517_2 := hx517_2
     have hw517_1 := hx517_1
     have hw517_0 := hx517_0
     cases e517
     replace hx517_0 := mHx HB hx517_0
     replace hx517_1 := mHx HB hx517_1
     replace hx517_2 := mHx HB hx517_2
     replace p517 := eq_true p517
     replace q517 := eq_true q517
     have p519 : 0 ≤ (x13_2 : Int) := of_decide_eq_true (by assumption)
     have q519 : x13_2 < (l0_0.length : Int) := of_decide_eq_true (by assumption)
     obtain ⟨ad519, A519_2, c519_2, e519, hx519_0, hx519_1, hx519_2, hl519_2, hi519_2⟩ := at_T53 HR0_0.out x13_2 p519 q519
     have hw519_2 := hx519_2
     have hw519_1 := hx519_1
     have hw519_0 := hx519_0
     obtain rfl : ad513 = ad519 := (by injection e519)
     replace hx519_0 := mHx HB hx519_0
     replace hx519_1 := mHx HB hx519_1
     replace hx519_2 := mHx HB hx519_2
     have HR519_2 := Aside0.mk hi519_2
     have HC519_2 := Aside0.mk hl519_2
     clear hi519_2 hl519_2
     replace p519 := eq_true p519
     replace q519 := eq_true q519
     refine start_ (n := 16) (S := fun w' => w'.cell? ⟨gb1, 0, none⟩ = some (.slice (some ad513) l0_0.length c0_0) ∧ w'.cell? ⟨gb1, 1, none⟩ = some (.slice A0_1 l0_1.length c0_1) ∧ w'.cell? ⟨gb1, 2, none⟩ = some (.slice A0_2 l0_2.length c0_2) ∧ w'.cell? ⟨gb1, 3, none⟩ = some (.int .i64 a0_3) ∧ w'.cell? ⟨gb3, 0, none⟩ = some (.int .i64 a2) ∧ w'.cell? ⟨gb3, 1, none⟩ = some (.int .i64 0) ∧ w'.cell? ⟨gb3, 2, none⟩ = some (.int .i64 a3) ∧ w'.cell? ⟨gb2, 0, none⟩ = some (.string ((rd_T53 l0_0 a2).f0)) ∧ w'.cell? ⟨gb2, 1, none⟩ = some (.int .i64 ((rd_T53 l0_0 a2).f1)) ∧ w'.cell? ⟨gb2, 2, none⟩ = some (.slice A513_2 ((rd_T53 l0_0 a2).f2).length c513_2) ∧ w'.cell? (ad517.add ((x13_2).toNat * 3)) = some (.int .i64 ((rd_T48 l1 x13_2).f0)) ∧ w'.cell? ⟨(ad517.add ((x13_2).toNat * 3)).block, (ad517.add ((x13_2).toNat * 3)).off + 1, none⟩ = some (.int .i64 ((rd_T48 l1 x13_2).f1)) ∧ w'.cell? ⟨(ad517.add ((x13_2).toNat * 3)).block, (ad517.add ((x13_2).toNat * 3)).off + 2, none⟩ = some (.int .i64 ((rd_T48 l1 x13_2).f2)) ∧ w'.cell? (ad513.add ((x13_2).toNat * 3)) = some (.string ((rd_T53 l0_0 x13_2).f0)) ∧ w'.cell? ⟨(ad513.add ((x13_2).toNat * 3)).block, (ad513.add ((x13_2).toNat * 3)).off + 1, none⟩ = some (.int .i64 ((rd_T53 l0_0 x13_2).f1)) ∧ w'.cell? ⟨(ad513.add ((x13_2).toNat * 3)).block, (ad513.add ((x13_2).toNat * 3)).off + 2, none⟩ = some (.slice A519_2 ((rd_T53 l0_0 x13_2).f2).length c519_2)) (ds := []) #[false, false, false, false, false, false, false, false, false, false, false, false, false, false, false, false] (by kernel_rfl) rfl rfl ⟨(blk_cell BK1.out 0).trans rfl, (blk_cell BK1.out 1).trans rfl, (blk_cell BK1.out 2).trans rfl, (blk_cell BK1.out 3).trans rfl, (blk_cell BK3.out 0).trans rfl, (blk_cell BK3.out 1).trans rfl, (blk_cell BK3.out 2).trans rfl, (blk_cell BK2.out 0).trans rfl, (blk_cell BK2.out 1).trans rfl, (blk_cell BK2.out 2).trans rfl, ((HB.out.cell (World.block_lt_of_cell? w _ hw517_0)).trans hw517_0), ((HB.out.cell (World.block_lt_of_cell? w _ hw517_1)).trans hw517_1), ((HB.out.cell (World.block_lt_of_cell? w _ hw517_2)).trans hw517_2), ((HB.out.cell (World.block_lt_of_cell? w _ hw519_0)).trans hw519_0), ((HB.out.cell (World.block_lt_of_cell? w _ hw519_1)).trans hw519_1), ((HB.out.cell (World.block_lt_of_cell? w _ hw519_2)).trans hw519_2)⟩ (fun hHeld => ?_); refine with_tabW dancestudioref50_fits.tab8 dancestudioref50_fits.bits8 (fun HT_ HW_ => ?_)
     generalize wr.drew = w37 at BK1 BK2 BK3 HB HR519_2 hx517_0 hx517_1 hx517_2 hx519_0 hx519_1 hx519_2 hHeld ⊢
     refine pM 2 42 HT_ ?_
     refine pM 3 43 HT_ ?_
     refine pM 4 44 HT_ ?_
     refine tM 0 40 rfl HT_ HW_ (by rintro w' ⟨s0, s1, s2, s3, s4, s5, s6, s7, s8, s9, s10, s11, s12, s13, s14, s15⟩; go_simp; with_reducible rfl) hHeld ?_
     refine tM 1 41 rfl HT_ HW_ (by rintro w' ⟨s0, s1, s2, s3, s4, s5, s6, s7, s8, s9, s10, s11, s12, s13, s14, s15⟩; go_simp; with_reducible rfl) hHeld ?_
     refine tM 5 45 rfl HT_ HW_ (by rintro w' ⟨s0, s1, s2, s3, s4, s5, s6, s7, s8, s9, s10, s11, s12, s13, s14, s15⟩; go_simp; with_reducible rfl) hHeld ?_
     refine one_ (i := 6) (N := some 46) #[true, true, true, true, true, true, true, false, false, false, false, false, false, false, false, false] rfl rfl (one_of HT_.out (by kernel_rfl)) (by decide) (fun K hK => ?_)
     refine goes_ Try.func38 (by kernel_rfl) rfl #[.agg #[.slice (some ad513) l0_0.length c0_0, .slice A0_1 l0_1.length c0_1, .slice A0_2 l0_2.length c0_2, .int .i64 a0_3], .agg #[.int .i64 a2, .int .i64 0, .int .i64 a3], .agg #[.int .i64 ((rd_T48 l1 x13_2).f0), .int .i64 ((rd_T48 l1 x13_2).f1), .int .i64 ((rd_T48 l1 x13_2).f2)]] (by rfl) rfl rfl (by (try simp only [List.map_toArray, List.map_cons, List.map_nil]); first | done | rfl | (simp only [List.length_drop, List.length_take]; rfl)) ?_
     with_reducible refine (dancestudioref50_meet.calls _ _ l0_0 _ _ l0_1 _ _ l0_2 a0_3 a2 0 a3 ((rd_T48 l1 x13_2).f0) ((rd_T48 l1 x13_2).f1) ((rd_T48 l1 x13_2).f2) true _ ?side1 ?side2 ?side3 ?side4 ?side5 ?side6 A29.out).mono ?_
     (case side1 => exact Kd.C_below HR0_0.out HB.out)
     (case side2 => exact HC0_0.out)
     (case side3 => exact Kd.C_below HR0_1.out HB.out)
     (case side4 => exact HC0_1.out)
     (case side5 => exact Kd.C_below HR0_2.out HB.out)
     (case side6 => exact HC0_2.out)
     rintro e w38 ⟨rfl, hb⟩
     refine ⟨_, rfl, ?_⟩
     replace BK1 := mBb BK1 hb; replace BK2 := mBb BK2 hb; replace BK3 := mBb BK3 hb; replace HB := mSt HB hb
     (try clear hb)
     (try clear hb2)
     (try clear hk)
     (try clear hi)
     refine hK.out _ _ ⟨blk_cell BK1.out 0, blk_cell BK1.out 1, blk_cell BK1.out 2, blk_cell BK1.out 3, blk_cell BK3.out 0, blk_cell BK3.out 1, blk_cell BK3.out 2, blk_cell BK2.out 0, blk_cell BK2.out 1, blk_cell BK2.out 2, ((HB.out.cell (World.block_lt_of_cell? w _ hw517_0)).trans hw517_0), ((HB.out.cell (World.block_lt_of_cell? w _ hw517_1)).trans hw517_1), ((HB.out.cell (World.block_lt_of_cell? w _ hw517_2)).trans hw517_2), ((HB.out.cell (World.block_lt_of_cell? w _ hw519_0)).trans hw519_0), ((HB.out.cell (World.block_lt_of_cell? w _ hw519_1)).trans hw519_1), ((HB.out.cell (World.block_lt_of_cell? w _ hw519_2)).trans hw519_2)⟩ (fun hHeld => ?_)
     clear hK K
     refine norm_ (by show Act.put _ (some 46) _ = _; simp only [mP]; rfl) ?_
     refine pM 7 47 HT_ ?_
     refine pM 9 49 HT_ ?_
     refine pM 11 51 HT_ ?_
     refine tM 8 48 rfl HT_ HW_ (by rintro w' ⟨s0, s1, s2, s3, s4, s5, s6, s7, s8, s9, s10, s11, s12, s13, s14, s15⟩; go_simp; with_reducible rfl) hHeld ?_
     refine tM 10 50 rfl HT_ HW_ (by rintro w' ⟨s0, s1, s2, s3, s4, s5, s6, s7, s8, s9, s10, s11, s12, s13, s14, s15⟩; go_simp; with_reducible rfl) hHeld ?_
     refine pM 12 52 HT_ ?_
     refine tM 13 53 rfl HT_ HW_ (by rintro w' ⟨s0, s1, s2, s3, s4, s5, s6, s7, s8, s9, s10, s11, s12, s13, s14, s15⟩; go_simp; with_reducible rfl) hHeld ?_
     refine one_ (i := 14) (N := some 54) #[true, true, true, true, true, true, true, true, true, true, true, true, true, true, true, false] rfl rfl (one_of HT_.out (by kernel_rfl)) (by decide) (fun K hK => ?_)
     refine goes_ Try.func39 (by kernel_rfl) rfl #[.agg #[.string ((rd_T53 l0_0 a2).f0), .int .i64 ((rd_T53 l0_0 a2).f1), .slice A513_2 ((rd_T53 l0_0 a2).f2).length c513_2], .agg #[.string ((rd_T53 l0_0 x13_2).f0), .int .i64 ((rd_T53 l0_0 x13_2).f1), .slice A519_2 ((rd_T53 l0_0 x13_2).f2).length c519_2]] (by rfl) rfl rfl (by (try simp only [List.map_toArray, List.map_cons, List.map_nil]); first | done | rfl | (simp only [List.length_drop, List.length_take]; rfl)) ?_
     with_reducible refine (dancestudioref50_common.calls k2 ((rd_T53 l0_0 a2).f0) ((rd_T53 l0_0 a2).f1) _ _ ((rd_T53 l0_0 a2).f2) ((rd_T53 l0_0 x13_2).f0) ((rd_T53 l0_0 x13_2).f1) _ _ ((rd_T53 l0_0 x13_2).f2) false _ ?side1 ?side2 ?side3 ?side4 A32.out).mono ?_
     (case side1 => exact Kd.C_below HR513_2.out HB.out)
     (case side2 => exact HC513_2.out)
     (case side3 => exact Kd.C_below HR519_2.out HB.out)
     (case side4 => exact HC519_2.out)
     rintro e w39 ⟨rfl, hb⟩
     refine ⟨_, rfl, ?_⟩
     replace BK1 := mBb BK1 hb; replace BK2 := mBb BK2 hb; replace BK3 := mBb BK3 hb; replace HB := mSt HB hb
     (try clear hb)
     (try clear hb2)
     (try clear hk)
     (try clear hi)
     refine hK.out _ _ ⟨blk_cell BK1.out 0, blk_cell BK1.out 1, blk_cell BK1.out 2, blk_cell BK1.out 3, blk_cell BK3.out 0, blk_cell BK3.out 1, blk_cell BK3.out 2, blk_cell BK2.out 0, blk_cell BK2.out 1, blk_cell BK2.out 2, ((HB.out.cell (World.block_lt_of_cell? w _ hw517_0)).trans hw517_0), ((HB.out.cell (World.block_lt_of_cell? w _ hw517_1)).trans hw517_1), ((HB.out.cell (World.block_lt_of_cell? w _ hw517_2)).trans hw517_2), ((HB.out.cell (World.block_lt_of_cell? w _ hw519_0)).trans hw519_0), ((HB.out.cell (World.block_lt_of_cell? w _ hw519_1)).trans hw519_1), ((HB.out.cell (World.block_lt_of_cell? w _ hw519_2)).trans hw519_2)⟩ (fun hHeld => ?_)
     clear hK K
     refine norm_ (by show Act.put _ (some 54) _ = _; simp only [mP]; rfl) ?_
     refine pM 15 55 HT_ ?_
     refine done_ (done_of HT_.out (by kernel_rfl)) ?_
     try go_wp2
     go_roundg k2
     case measure => have := HJ7.out; have := HK2.out; omega
     case rel => exact ⟨(wrap64 (x13_2 + 1)), rfl, H', ⟨by have := HJ7.out; have := HK2.out; omega⟩, ⟨BK1.out⟩, ⟨BK2.out⟩, ⟨BK3.out⟩, ⟨HB.out⟩⟩
end Go.Proofs.Ytjppjppapdflmaa.PAll
