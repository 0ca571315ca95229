-- Written by wip/tools/handprint.py: walks of the functions that the law reaches; Lean checks them.
import Derived.Test.YtjppjppapdflmaaRMi
import Derived.Test.YtjppjppapdflmaaPAllx0
import Derived.Test.YtjppjppapdflmaaPAllf14
import Derived.Test.YtjppjppapdflmaaRRf
namespace Go.Proofs.Ytjppjppapdflmaa.PAll
open Go.RowKit Go.Proofs.YtjppjppapdflmaaW.PrintWords Go.Proofs.YtjppjppapdflmaaW.PrintLast Go.Proofs.YtjppjppapdflmaaW.PrintMore
attribute [local go_sem] max2_int min2_int max_two min_two max_three min_three max_four min_four   -- for this text's walks alone
set_option linter.unusedVariables false
set_option linter.unusedSimpArgs false

/-! ### dancestudioref50_Least: function 12 -/
mutual
def dancestudioref50_Least.l0 : Nat → Int → Int → Int → List (S53) → List (S55) → List (S59) → Int → Option (Int × Int)
 | 0, _, _, _, _, _, _, _ => none
 | k + 1, x5, x6, x7, x155000, x155001, x155002, x155003 => if x7 < (x155000.length : Int) then (if 0 ≤ x7 then (dancestudioref50_Least.l0 k (wrap64 (x5 + ((rd_T53 x155000 x7).f1))) x6 (wrap64 (x7 + 1)) x155000 x155001 x155002 x155003) else (none)) else (dancestudioref50_Least.l1 k x5 x6 0 x155000 x155001 x155002 x155003)
def dancestudioref50_Least.l1 : Nat → Int → Int → Int → List (S53) → List (S55) → List (S59) → Int → Option (Int × Int)
 | 0, _, _, _, _, _, _, _ => none
 | k + 1, x5, x6, x8, x155000, x155001, x155002, x155003 => if x8 < 24 then (dancestudioref50_Least.l2 k x5 x6 x8 0 0 x155000 x155001 x155002 x155003) else (if (x155001.length : Int) = 0 then (none) else (some (mx x6 (wrap64 (Int.tdiv (wrap64 ((wrap64 (x5 + (x155001.length : Int))) - 1)) (x155001.length : Int))), 0)))
def dancestudioref50_Least.l2 : Nat → Int → Int → Int → Int → Int → List (S53) → List (S55) → List (S59) → Int → Option (Int × Int)
 | 0, _, _, _, _, _, _, _, _, _ => none
 | k + 1, x5, x6, x8, x9, x10, x155000, x155001, x155002, x155003 => if x10 < (x155000.length : Int) then (if 0 ≤ x10 then ((dancestudioref50_has.f k ((rd_T53 x155000 x10).f2) x8).bind fun t158 => (if t158 = true then (dancestudioref50_Least.l2 k x5 x6 x8 (wrap64 (x9 + ((rd_T53 x155000 x10).f1))) (wrap64 (x10 + 1)) x155000 x155001 x155002 x155003) else (dancestudioref50_Least.l2 k x5 x6 x8 x9 (wrap64 (x10 + 1)) x155000 x155001 x155002 x155003))) else (none)) else (dancestudioref50_Least.l1 k x5 (mx x6 x9) (wrap64 (x8 + 1)) x155000 x155001 x155002 x155003)
end
def dancestudioref50_Least.f (k : Nat) (l0_0 : List (S53)) (l0_1 : List (S55)) (l0_2 : List (S59)) (a0_3 : Int) : Option (Int × Int) := (dancestudioref50_Check.f k l0_0 l0_1 l0_2 a0_3).bind fun t155 => (if t155 = 0 then (dancestudioref50_Least.l0 k 0 0 0 l0_0 l0_1 l0_2 a0_3) else (some (0, t155)))
set_option maxHeartbeats 8000000 in
set_option maxRecDepth 100000 in
theorem dancestudioref50_Least.calls (k : Nat) (A0_0 : Option Addr) (c0_0 : Nat) (l0_0 : List (S53)) (A0_1 : Option Addr) (c0_1 : Nat) (l0_1 : List (S55)) (A0_2 : Option Addr) (c0_2 : Nat) (l0_2 : List (S59)) (a0_3 : Int) (r1 : Int) (r2 : Int) (w : World) (hr0_0 : Kd.C k53 w A0_0 l0_0.length l0_0) (hc0_0 : l0_0.length ≤ c0_0) (hr0_1 : Kd.C k55 w A0_1 l0_1.length l0_1) (hc0_1 : l0_1.length ≤ c0_1) (hr0_2 : Kd.C k59 w A0_2 l0_2.length l0_2) (hc0_2 : l0_2.length ≤ c0_2) (h : dancestudioref50_Least.f k l0_0 l0_1 l0_2 a0_3 = some (r1, r2)) :
  Calls Try.prog 12 #[.agg #[.slice A0_0 l0_0.length c0_0, .slice A0_1 l0_1.length c0_1, .slice A0_2 l0_2.length c0_2, .int .i64 a0_3]] w fun e w' => e = .returned (.tuple #[.int .i64 r1, .int .i64 r2]) ∧ Below w.heap.size w w' := by
 have hu30 := Try.underlying26
 have HR0_0 := Aside0.mk hr0_0
 have HC0_0 := Aside0.mk hc0_0
 clear hr0_0 hc0_0
 have HR0_1 := Aside0.mk hr0_1
 have HC0_1 := Aside0.mk hc0_1
 clear hr0_1 hc0_1
 have HR0_2 := Aside0.mk hr0_2
 have HC0_2 := Aside0.mk hc0_2
 clear hr0_2 hc0_2
 have HB := Aside0.mk (Below.refl w.heap.size w)
 have H := h
 unfold dancestudioref50_Least.f at H
 clear h
 replace H := Option.bind_eq_some_iff.mp H
 obtain ⟨t155, A20, H⟩ := H
 try dsimp only at H
 have A2 := Aside0.mk A20
 clear A20
 by_cases c3 : t155 = 0
 rotate_left
 ·
  rw [if_neg c3] at H
  have c3b0 := beq_eq_false_iff_ne.mpr c3
  have c3b1 := bne_iff_ne.mpr c3
  simp only [Option.some.injEq, Prod.mk.injEq] at H
  obtain ⟨rfl, rfl⟩ := H
  go_enter Try.func12, Try.ntmps12
  go_wp2_with (first | ((with_reducible refine gate_dst (N := 1) rfl ?_); refine box_event rfl (N := 1) rfl (cs := #[.slice A0_0 l0_0.length c0_0, .slice A0_1 l0_1.length c0_1, .slice A0_2 l0_2.length c0_2, .int .i64 a0_3]) (t := 26) (by first | (go_simp; done) | (go_simp; rfl)) ?_; intro gb1 hg w23 hbox hb; have BK1 := Aside0.mk hbox; have GW1 := mGw HB hg; have GE1 := GW1; replace HB := mSt HB hb; clear hb hbox hg; have hcz24 := blk_cell BK1.out; have hfz24 := blk_frozen BK1.out) | ((with_reducible refine gate_callee (f := 14) rfl ?_); refine goesL_ (some 12) rfl rfl Try.func14 (by kernel_rfl) rfl #[.agg #[.slice A0_0 l0_0.length c0_0, .slice A0_1 l0_1.length c0_1, .slice A0_2 l0_2.length c0_2, .int .i64 a0_3]] rfl (mA1 rfl) ?_; (with_reducible refine (dancestudioref50_Check.calls k _ _ l0_0 _ _ l0_1 _ _ l0_2 a0_3 t155 _ (Kd.C_below HR0_0.out HB.out) HC0_0.out (Kd.C_below HR0_1.out HB.out) HC0_1.out (Kd.C_below HR0_2.out HB.out) HC0_2.out A2.out).mono ?_); rintro e w25 ⟨rfl, hb⟩; refine ⟨_, rfl, ?_⟩; replace BK1 := mBb BK1 hb; replace HB := mSt HB hb; (try clear hb)))
  go_ret2
  exact ⟨rfl, HB.out⟩
 rw [if_pos c3] at H
 have c3b0 := beq_iff_eq.mpr c3
 have c3b1 := bne_eq_false_iff_eq.mpr c3
 clear c3
 have H' := Aside0.mk H
 clear H
 go_enter Try.func12, Try.ntmps12
 go_wp2_with (first | ((with_reducible refine gate_dst (N := 1) rfl ?_); refine box_event rfl (N := 1) rfl (cs := #[.slice A0_0 l0_0.length c0_0, .slice A0_1 l0_1.length c0_1, .slice A0_2 l0_2.length c0_2, .int .i64 a0_3]) (t := 26) (by first | (go_simp; done) | (go_simp; rfl)) ?_; intro gb1 hg w4 hbox hb; have BK1 := Aside0.mk hbox; have GW1 := mGw HB hg; have GE1 := GW1; replace HB := mSt HB hb; clear hb hbox hg; have hcz5 := blk_cell BK1.out; have hfz5 := blk_frozen BK1.out) | ((with_reducible refine gate_callee (f := 14) rfl ?_); refine goesL_ (some 12) rfl rfl Try.func14 (by kernel_rfl) rfl #[.agg #[.slice A0_0 l0_0.length c0_0, .slice A0_1 l0_1.length c0_1, .slice A0_2 l0_2.length c0_2, .int .i64 a0_3]] rfl (mA1 rfl) ?_; (with_reducible refine (dancestudioref50_Check.calls k _ _ l0_0 _ _ l0_1 _ _ l0_2 a0_3 t155 _ (Kd.C_below HR0_0.out HB.out) HC0_0.out (Kd.C_below HR0_1.out HB.out) HC0_1.out (Kd.C_below HR0_2.out HB.out) HC0_2.out A2.out).mono ?_); rintro e w6 ⟨rfl, hb⟩; refine ⟨_, rfl, ?_⟩; replace BK1 := mBb BK1 hb; replace HB := mSt HB hb; (try clear hb)))
 go_loopg [5, 7] k (fun kq v5 v7 w' => ∃ (x5_1 : Int) (x7_1 : Int), v5 = .int .i64 x5_1 ∧ v7 = .int .i64 x7_1 ∧ Aside0 (dancestudioref50_Least.l0 kq x5_1 0 x7_1 l0_0 l0_1 l0_2 a0_3 = some (r1, r2)) ∧ Aside0 (kq ≤ k) ∧ Aside0 (w'.heap[gb1]? = some (.cells #[(.slice A0_0 l0_0.length c0_0), (.slice A0_1 l0_1.length c0_1), (.slice A0_2 l0_2.length c0_2), .int .i64 a0_3] 26 (0, 0))) ∧ Aside0 (Below w.heap.size w w'))
 case atStart => exact ⟨(0), (0), rfl, rfl, H', ⟨Nat.le_refl _⟩, ⟨BK1.out⟩, ⟨HB.out⟩⟩
 case round =>
  clear H'
  clear c3b0 c3b1
  obtain ⟨x5_1, x7_1, rfl, rfl, HA, HK1, BK1, HB⟩ := hrel
  cases gk with
  | zero => exact absurd HA.out (by simp [dancestudioref50_Least.l0])
  | succ k1 =>
   have H := HA.out
   clear HA
   simp only [dancestudioref50_Least.l0] at H
   by_cases c7 : x7_1 < (l0_0.length : Int)
   ·
    rw [if_pos c7] at H
    have c7b0 := decide_eq_true c7
    clear c7
    obtain ⟨c8, H⟩ : (0 ≤ x7_1) ∧ _ := mIf H
    have c8b0 := decide_eq_true c8
    clear c8
    have H' := Aside0.mk H
    clear H
    have hcz9 := blk_cell BK1.out; have hfz9 := blk_frozen BK1.out
    have p156 : 0 ≤ (x7_1 : Int) := of_decide_eq_true (by assumption)
    have q156 : x7_1 < (l0_0.length : Int) := of_decide_eq_true (by assumption)
    obtain ⟨ad156, A156_2, c156_2, e156, hx156_0, hx156_1, hx156_2, hl156_2, hi156_2⟩ := at_T53 HR0_0.out x7_1 p156 q156
    cases e156
    replace hx156_0 := mHx HB hx156_0
    replace hx156_1 := mHx HB hx156_1
    replace hx156_2 := mHx HB hx156_2
    have HR156_2 := Aside0.mk hi156_2
    have HC156_2 := Aside0.mk hl156_2
    clear hi156_2 hl156_2
    replace p156 := eq_true p156
    replace q156 := eq_true q156
    go_wp2
    go_roundg k1
    case measure => have := HK1.out; omega
    case rel => exact ⟨(wrap64 (x5_1 + ((rd_T53 l0_0 x7_1).f1))), (wrap64 (x7_1 + 1)), rfl, rfl, H', ⟨by have := HK1.out; omega⟩, ⟨BK1.out⟩, ⟨HB.out⟩⟩
   rw [if_neg c7] at H
   have c7b0 := decide_eq_false c7
   clear c7
   have H' := Aside0.mk H
   clear H
   have hcz10 := blk_cell BK1.out; have hfz10 := blk_frozen BK1.out
   go_wp2
   go_loopg [6, 8] k1 (fun kq v6 v8 w' => ∃ (x6_2 : Int) (x8_2 : Int), v6 = .int .i64 x6_2 ∧ v8 = .int .i64 x8_2 ∧ Aside0 (dancestudioref50_Least.l1 kq x5_1 x6_2 x8_2 l0_0 l0_1 l0_2 a0_3 = some (r1, r2)) ∧ Aside0 (kq ≤ k1) ∧ Aside0 (w'.heap[gb1]? = some (.cells #[(.slice A0_0 l0_0.length c0_0), (.slice A0_1 l0_1.length c0_1), (.slice A0_2 l0_2.length c0_2), .int .i64 a0_3] 26 (0, 0))) ∧ Aside0 (Below w.heap.size w w'))
   case atStart => exact ⟨(0), (0), rfl, rfl, H', ⟨Nat.le_refl _⟩, ⟨BK1.out⟩, ⟨HB.out⟩⟩
   case round =>
    clear H'
    clear c7b0
    obtain ⟨x6_2, x8_2, rfl, rfl, HA, HK2, BK1, HB⟩ := hrel
    cases gk with
    | zero => exact absurd HA.out (by simp [dancestudioref50_Least.l1])
    | succ k2 =>
     have H := HA.out
     clear HA
     simp only [dancestudioref50_Least.l1] at H
     by_cases c11 : x8_2 < 24
     rotate_left
     ·
      rw [if_neg c11] at H
      have c11b0 := decide_eq_false c11
      clear c11
      obtain ⟨c20, H⟩ : (¬ ((l0_1.length : Int) = 0)) ∧ _ := mIfn H
      have c20b0 := beq_eq_false_iff_ne.mpr c20
      have c20b1 := bne_iff_ne.mpr c20
      have c20b2 : ¬ (l0_1 = []) := fun h_ => c20 (by rw [h_]; rfl)
      obtain ⟨ji21, hji21⟩ : ∃ j_ : Int, (mx x6_2 (wrap64 (Int.tdiv (wrap64 ((wrap64 (x5_1 + (l0_1.length : Int))) - 1)) (l0_1.length : Int)))) = j_ := ⟨_, rfl⟩
      replace H : (some (ji21, 0)) = some (r1, r2) := by first | (rw [hji21] at H; exact H) | (simp only [hji21] at H ⊢; exact H)
      have hji21_ : (if x6_2 < (wrap64 (Int.tdiv (wrap64 ((wrap64 (x5_1 + (l0_1.length : Int))) - 1)) (l0_1.length : Int))) then (wrap64 (Int.tdiv (wrap64 ((wrap64 (x5_1 + (l0_1.length : Int))) - 1)) (l0_1.length : Int))) else x6_2) = ji21 := hji21
      simp only [Option.some.injEq, Prod.mk.injEq] at H
      obtain ⟨rfl, rfl⟩ := H
      have hcz22 := blk_cell BK1.out; have hfz22 := blk_frozen BK1.out
      go_wp2
      go_ret2
      exact ⟨by first | rfl | (simp [errW_none, errW_some] <;> rfl) | (simp only [← hji21]; first | rfl | (simp [errW_none, errW_some] <;> rfl)) | (simp [*, errW_none, errW_some] <;> rfl), HB.out⟩
     rw [if_pos c11] at H
     have c11b0 := decide_eq_true c11
     clear c11
     have H' := Aside0.mk H
     clear H
     go_wp2
     go_loopg [9, 10] k2 (fun kq v9 v10 w' => ∃ (x9_3 : Int) (x10_3 : Int), v9 = .int .i64 x9_3 ∧ v10 = .int .i64 x10_3 ∧ Aside0 (dancestudioref50_Least.l2 kq x5_1 x6_2 x8_2 x9_3 x10_3 l0_0 l0_1 l0_2 a0_3 = some (r1, r2)) ∧ Aside0 (kq ≤ k2) ∧ Aside0 (w'.heap[gb1]? = some (.cells #[(.slice A0_0 l0_0.length c0_0), (.slice A0_1 l0_1.length c0_1), (.slice A0_2 l0_2.length c0_2), .int .i64 a0_3] 26 (0, 0))) ∧ Aside0 (Below w.heap.size w w'))
     case atStart => exact ⟨(0), (0), rfl, rfl, H', ⟨Nat.le_refl _⟩, ⟨BK1.out⟩, ⟨HB.out⟩⟩
     case round =>
      clear H'
      clear c11b0
      obtain ⟨x9_3, x10_3, rfl, rfl, HA, HK3, BK1, HB⟩ := hrel
      cases gk with
      | zero => exact absurd HA.out (by simp [dancestudioref50_Least.l2])
      | succ k3 =>
       have H := HA.out
       clear HA
       simp only [dancestudioref50_Least.l2] at H
       by_cases c12 : x10_3 < (l0_0.length : Int)
       rotate_left
       ·
        rw [if_neg c12] at H
        have c12b0 := decide_eq_false c12
        clear c12
        obtain ⟨ji18, hji18⟩ : ∃ j_ : Int, (mx x6_2 x9_3) = j_ := ⟨_, rfl⟩
        replace H : (dancestudioref50_Least.l1 k3 x5_1 ji18 (wrap64 (x8_2 + 1)) l0_0 l0_1 l0_2 a0_3) = some (r1, r2) := by first | (rw [hji18] at H; exact H) | (simp only [hji18] at H ⊢; exact H)
        have hji18_ : (if x6_2 < x9_3 then x9_3 else x6_2) = ji18 := hji18
        have H' := Aside0.mk H
        clear H
        have hcz19 := blk_cell BK1.out; have hfz19 := blk_frozen BK1.out
        go_wp2
        go_roundg k3
        case measure => have := HK1.out; have := HK2.out; have := HK3.out; omega
        case rel => exact ⟨(ji18), (wrap64 (x8_2 + 1)), (by first | rfl | (simp; done) | (simp only [← hji18] <;> (first | rfl | simp)) | (simp [*]; done)), rfl, H', ⟨by have := HK1.out; have := HK2.out; have := HK3.out; omega⟩, ⟨BK1.out⟩, ⟨HB.out⟩⟩
       rw [if_pos c12] at H
       have c12b0 := decide_eq_true c12
       clear c12
       obtain ⟨c13, H⟩ : (0 ≤ x10_3) ∧ _ := mIf H
       have c13b0 := decide_eq_true c13
       clear c13
       replace H := Option.bind_eq_some_iff.mp H
       obtain ⟨t158, A140, H⟩ := H
       try dsimp only at H
       have A14 := Aside0.mk A140
       clear A140
       by_cases c15 : t158 = true
       ·
        subst c15
        rw [if_pos rfl] at H
        have H' := Aside0.mk H
        clear H
        have hcz16 := blk_cell BK1.out; have hfz16 := blk_frozen BK1.out
        have p157 : 0 ≤ (x10_3 : Int) := of_decide_eq_true (by assumption)
        have q157 : x10_3 < (l0_0.length : Int) := of_decide_eq_true (by assumption)
        obtain ⟨ad157, A157_2, c157_2, e157, hx157_0, hx157_1, hx157_2, hl157_2, hi157_2⟩ := at_T53 HR0_0.out x10_3 p157 q157
        cases e157
        replace hx157_0 := mHx HB hx157_0
        replace hx157_1 := mHx HB hx157_1
        replace hx157_2 := mHx HB hx157_2
        have HR157_2 := Aside0.mk hi157_2
        have HC157_2 := Aside0.mk hl157_2
        clear hi157_2 hl157_2
        replace p157 := eq_true p157
        replace q157 := eq_true q157
        go_wp2_with (first | ((with_reducible refine gate_callee (f := 27) rfl ?_); refine goesL_ (some 49) rfl rfl Try.func27 (by kernel_rfl) rfl #[.slice A157_2 ((rd_T53 l0_0 x10_3).f2).length c157_2, .int .i64 x8_2] rfl (mA2 rfl rfl) ?_; (with_reducible refine (dancestudioref50_has.calls k3 _ _ ((rd_T53 l0_0 x10_3).f2) x8_2 true _ (Kd.C_below HR157_2.out HB.out) HC157_2.out A14.out).mono ?_); rintro e w' ⟨rfl, ⟨nd, rfl⟩⟩; refine ⟨_, rfl, ?_⟩; have p159 : 0 ≤ (x10_3 : Int) := of_decide_eq_true (by assumption); have q159 : x10_3 < (l0_0.length : Int) := of_decide_eq_true (by assumption); obtain ⟨ad159, A159_2, c159_2, e159, hx159_0, hx159_1, hx159_2, hl159_2, hi159_2⟩ := at_T53 HR0_0.out x10_3 p159 q159; obtain rfl : ad157 = ad159 := (by injection e159); replace hx159_0 := mHx HB hx159_0; replace hx159_1 := mHx HB hx159_1; replace hx159_2 := mHx HB hx159_2; have HR159_2 := Aside0.mk hi159_2; have HC159_2 := Aside0.mk hl159_2; clear hi159_2 hl159_2; replace p159 := eq_true p159; replace q159 := eq_true q159; have ea_ := Option.some.inj (hx157_2.symm.trans hx159_2); injection ea_ with ea_ en_ ec_; subst ea_; subst ec_; clear en_))
        go_roundg k3
        case measure => have := HK1.out; have := HK2.out; have := HK3.out; omega
        case rel => exact ⟨(wrap64 (x9_3 + ((rd_T53 l0_0 x10_3).f1))), (wrap64 (x10_3 + 1)), rfl, rfl, H', ⟨by have := HK1.out; have := HK2.out; have := HK3.out; omega⟩, ⟨BK1.out⟩, ⟨hO HB⟩⟩
       replace c15 := Bool.eq_false_iff.mpr c15
       subst c15
       rw [if_neg (show ¬ (false = true) by decide)] at H
       have H' := Aside0.mk H
       clear H
       have hcz17 := blk_cell BK1.out; have hfz17 := blk_frozen BK1.out
       have p157 : 0 ≤ (x10_3 : Int) := of_decide_eq_true (by assumption)
       have q157 : x10_3 < (l0_0.length : Int) := of_decide_eq_true (by assumption)
       obtain ⟨ad157, A157_2, c157_2, e157, hx157_0, hx157_1, hx157_2, hl157_2, hi157_2⟩ := at_T53 HR0_0.out x10_3 p157 q157
       cases e157
       replace hx157_0 := mHx HB hx157_0
       replace hx157_1 := mHx HB hx157_1
       replace hx157_2 := mHx HB hx157_2
       have HR157_2 := Aside0.mk hi157_2
       have HC157_2 := Aside0.mk hl157_2
       clear hi157_2 hl157_2
       replace p157 := eq_true p157
       replace q157 := eq_true q157
       go_wp2_with (first | ((with_reducible refine gate_callee (f := 27) rfl ?_); refine goesL_ (some 49) rfl rfl Try.func27 (by kernel_rfl) rfl #[.slice A157_2 ((rd_T53 l0_0 x10_3).f2).length c157_2, .int .i64 x8_2] rfl (mA2 rfl rfl) ?_; (with_reducible refine (dancestudioref50_has.calls k3 _ _ ((rd_T53 l0_0 x10_3).f2) x8_2 false _ (Kd.C_below HR157_2.out HB.out) HC157_2.out A14.out).mono ?_); rintro e w' ⟨rfl, ⟨nd, rfl⟩⟩; refine ⟨_, rfl, ?_⟩))
       go_roundg k3
       case measure => have := HK1.out; have := HK2.out; have := HK3.out; omega
       case rel => exact ⟨(x9_3), (wrap64 (x10_3 + 1)), rfl, rfl, H', ⟨by have := HK1.out; have := HK2.out; have := HK3.out; omega⟩, ⟨BK1.out⟩, ⟨hO HB⟩⟩
end Go.Proofs.Ytjppjppapdflmaa.PAll
