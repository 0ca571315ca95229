-- Written by wip/tools/handprint.py: walks of the functions that the law reaches; Lean checks them.
import Derived.Test.YtaggccbndmmbhaaDoorBase
import Derived.Test.YtaggccbndmmbhaaDoorPAllf12
namespace Go.Proofs.YtaggccbndmmbhaaDoor.PAll
open Go.RowKit Go.Proofs.YtaggccbndmmbhaaDoorW.PrintWords Go.Proofs.YtaggccbndmmbhaaDoorW.PrintLast Go.Proofs.YtaggccbndmmbhaaDoorW.PrintMore
attribute [local go_sem] max2_int min2_int max_two min_two max_three min_three max_four min_four   -- for this text's walks alone
set_option linter.unusedVariables false
set_option linter.unusedSimpArgs false

/-! ### dancestudioref45_Rotate: function 26 -/
mutual
def dancestudioref45_Rotate.l0 : Nat → Int → Int → ByteArray → List (S52) → ByteArray → List (S52) → Option (ByteArray × (List (S52)) × Int)
 | 0, _, _, _, _, _, _ => none
 | k + 1, x1, x8, x675000, x675001, x678000, x678001 => if x8 < (x675001.length : Int) then (if 0 ≤ x8 then (dancestudioref45_Rotate.l1 k x1 x8 0 x675000 x675001 x678000 x678001 ((rd_T52 x675001 x8).f0) ((rd_T52 x675001 x8).f1)) else (none)) else (some (x678000, x678001, 0))
def dancestudioref45_Rotate.l1 : Nat → Int → Int → Int → ByteArray → List (S52) → ByteArray → List (S52) → Int → Int → Option (ByteArray × (List (S52)) × Int)
 | 0, _, _, _, _, _, _, _, _, _ => none
 | k + 1, x1, x8, x10, x675000, x675001, x678000, x678001, x680000, x680001 => if x10 < (Int.tmod (wrap64 ((Int.tmod x1 4) + 4)) 4) then (dancestudioref45_Rotate.l1 k x1 x8 (wrap64 (x10 + 1)) x675000 x675001 x678000 x678001 x680001 (wrap64 (-x680000))) else (if x678001.length < 8796093022208 then (dancestudioref45_Rotate.l0 k x1 (wrap64 (x8 + 1)) x675000 x675001 x678000 (x678001 ++ [(⟨x680000, x680001⟩ : S52)])) else (none))
end
def dancestudioref45_Rotate.f (k : Nat) (a0_0 : ByteArray) (l0_1 : List (S52)) (a1 : Int) : Option (ByteArray × (List (S52)) × Int) := (dancestudioref45_Check.f k a0_0 l0_1).bind fun t676 => (if t676 = 0 then (dancestudioref45_Rotate.l0 k a1 0 a0_0 l0_1 a0_0 ([] : List (S52))) else (some ((⟨#[]⟩ : ByteArray), ([] : List (S52)), t676)))
set_option maxHeartbeats 8000000 in
set_option maxRecDepth 100000 in
theorem dancestudioref45_Rotate.calls (k : Nat) (a0_0 : ByteArray) (A0_1 : Option Addr) (c0_1 : Nat) (l0_1 : List (S52)) (a1 : Int) (r1 : ByteArray) (r2 : List (S52)) (r3 : Int) (w : World) (hr0_1 : Kd.C k52 w A0_1 l0_1.length l0_1) (hc0_1 : l0_1.length ≤ c0_1) (h : dancestudioref45_Rotate.f k a0_0 l0_1 a1 = some (r1, r2, r3)) :
  Calls Tryd.prog 26 #[.agg #[.string a0_0, .slice A0_1 l0_1.length c0_1], .int .i64 a1] w fun e w' => ∃ v1_ : Value, e = .returned (.tuple #[.agg #[.string r1, v1_], .int .i64 r3]) ∧ Kd.R k52 52 w' w.heap.size (fun _ => True) v1_ r2 ∧ Below w.heap.size w w' := by
 have hu24 := Tryd.underlying24
 have hu52 := Tryd.underlying52
 have HR0_1 := Aside0.mk hr0_1
 have HC0_1 := Aside0.mk hc0_1
 clear hr0_1 hc0_1
 have HB := Aside0.mk (Below.refl w.heap.size w)
 have H := h
 unfold dancestudioref45_Rotate.f at H
 clear h
 replace H := Option.bind_eq_some_iff.mp H
 obtain ⟨t676, A30, H⟩ := H
 try dsimp only at H
 have A3 := Aside0.mk A30
 clear A30
 by_cases c4 : t676 = 0
 rotate_left
 ·
  rw [if_neg c4] at H
  have c4b0 := beq_eq_false_iff_ne.mpr c4
  have c4b1 := bne_iff_ne.mpr c4
  simp only [Option.some.injEq, Prod.mk.injEq] at H
  obtain ⟨rfl, rfl, rfl⟩ := H
  go_enter Tryd.func26, Tryd.ntmps26
  go_wp2_with (first | ((with_reducible refine gate_dst (N := 2) rfl ?_); refine box_event rfl (N := 2) rfl (cs := #[.string a0_0, .slice A0_1 l0_1.length c0_1]) (t := 24) (by first | (go_simp; done) | (go_simp; rfl)) ?_; intro gb1 hg w48 hbox hb; have BK1 := Aside0.mk hbox; have GW1 := mGw HB hg; have GE1 := GW1; replace HB := mSt HB hb; clear hb hbox hg) | ((with_reducible refine gate_dst (N := 4) rfl ?_); refine box_event rfl (N := 4) rfl (cs := #[.string (⟨#[]⟩ : ByteArray), .slice none 0 0]) (t := 24) (by first | (go_simp; done) | (go_simp; rfl)) ?_; intro gb2 hg w49 hbox hb; have BK2 := Aside0.mk hbox; have GW2 := mGw HB hg; have GE2 := GW2; replace HB := mSt HB hb; have NB1_2 := mNe BK1 hg; have NB2_1 := mSy NB1_2; replace BK1 := mBb BK1 hb; clear hb hbox hg; have hnb50 := NB1_2.out; have hnc50 := NB2_1.out; have hcz51 := blk_cell BK1.out; have hfz51 := blk_frozen BK1.out) | ((with_reducible refine gate_callee (f := 12) rfl ?_); refine goesL_ (some 12) rfl rfl Tryd.func12 (by kernel_rfl) rfl #[.agg #[.string a0_0, .slice A0_1 l0_1.length c0_1]] rfl (mA1 rfl) ?_; (with_reducible refine (dancestudioref45_Check.calls k a0_0 _ _ l0_1 t676 _ (Kd.C_below HR0_1.out HB.out) HC0_1.out A3.out).mono ?_); rintro e w52 ⟨rfl, hb⟩; refine ⟨_, rfl, ?_⟩; replace BK1 := mBb BK1 hb; replace BK2 := mBb BK2 hb; replace HB := mSt HB hb; (try clear hb); have hcz53 := blk_cell BK2.out; have hfz53 := blk_frozen BK2.out))
  refine bodyPost_ret (results_ct rfl _ _ gb2 24 #[.string (⟨#[]⟩ : ByteArray), .slice none 0 0] (0, 0) _ rfl (by refine blk_put (cs := #[.string (⟨#[]⟩ : ByteArray), .slice none 0 0]) ?_ 1 _ rfl; refine blk_put (cs := #[.string (⟨#[]⟩ : ByteArray), .slice none 0 0]) ?_ 0 _ rfl; exact BK2.out) Tryd.underlying24 rfl (by kernel_rfl)) rfl ?_
  exact ⟨_, rfl, by first | exact Kd.R_nil _ _ _ _ _ | exact Kd.N_nil _ _ _ _ _ | exact Kd.V_nil _ _ _ _ _ | exact Kd.Q_nil _ _ _ _ _ | exact Kd.S_nil _ _ _ _ _, hO HB⟩
 rw [if_pos c4] at H
 have c4b0 := beq_iff_eq.mpr c4
 have c4b1 := bne_eq_false_iff_eq.mpr c4
 clear c4
 have H' := Aside0.mk H
 clear H
 go_enter Tryd.func26, Tryd.ntmps26
 go_wp2_with (first | ((with_reducible refine gate_dst (N := 2) rfl ?_); refine box_event rfl (N := 2) rfl (cs := #[.string a0_0, .slice A0_1 l0_1.length c0_1]) (t := 24) (by first | (go_simp; done) | (go_simp; rfl)) ?_; intro gb1 hg w5 hbox hb; have BK1 := Aside0.mk hbox; have GW1 := mGw HB hg; have GE1 := GW1; replace HB := mSt HB hb; clear hb hbox hg) | ((with_reducible refine gate_dst (N := 4) rfl ?_); refine box_event rfl (N := 4) rfl (cs := #[.string (⟨#[]⟩ : ByteArray), .slice none 0 0]) (t := 24) (by first | (go_simp; done) | (go_simp; rfl)) ?_; intro gb2 hg w6 hbox hb; have BK2 := Aside0.mk hbox; have GW2 := mGw HB hg; have GE2 := GW2; replace HB := mSt HB hb; have NB1_2 := mNe BK1 hg; have NB2_1 := mSy NB1_2; replace BK1 := mBb BK1 hb; clear hb hbox hg; have hnb7 := NB1_2.out; have hnc7 := NB2_1.out; have hcz8 := blk_cell BK1.out; have hfz8 := blk_frozen BK1.out) | ((with_reducible refine gate_callee (f := 12) rfl ?_); refine goesL_ (some 12) rfl rfl Tryd.func12 (by kernel_rfl) rfl #[.agg #[.string a0_0, .slice A0_1 l0_1.length c0_1]] rfl (mA1 rfl) ?_; (with_reducible refine (dancestudioref45_Check.calls k a0_0 _ _ l0_1 t676 _ (Kd.C_below HR0_1.out HB.out) HC0_1.out A3.out).mono ?_); rintro e w9 ⟨rfl, hb⟩; refine ⟨_, rfl, ?_⟩; replace BK1 := mBb BK1 hb; replace BK2 := mBb BK2 hb; replace HB := mSt HB hb; (try clear hb); have hcz10 := blk_cell BK1.out; have hfz10 := blk_frozen BK1.out) | ((with_reducible refine gate_dst (N := 7) rfl ?_); refine box_event rfl (N := 7) rfl (cs := #[.string (⟨#[]⟩ : ByteArray), .slice none 0 0]) (t := 24) (by first | (go_simp; done) | (go_simp; rfl)) ?_; intro gb3 hg w11 hbox hb; have BK3 := Aside0.mk hbox; have GW3 := mGw HB hg; have GE3 := GW3; replace HB := mSt HB hb; have NB1_3 := mNe BK1 hg; have NB3_1 := mSy NB1_3; replace BK1 := mBb BK1 hb; have NB2_3 := mNe BK2 hg; have NB3_2 := mSy NB2_3; replace BK2 := mBb BK2 hb; clear hb hbox hg; have hnb12 := NB3_1.out; have hnc12 := NB1_3.out; have hnb13 := NB3_2.out; have hnc13 := NB2_3.out; have hcz14 := blk_cell BK3.out; have hfz14 := blk_frozen BK3.out))
 go_loopg [8] k (fun kq v8 w' => ∃ (x8_1 : Int) (x678001_1 : List (S52)) (u678001 : Value), v8 = .int .i64 x8_1 ∧ Aside0 (dancestudioref45_Rotate.l0 kq a1 x8_1 a0_0 l0_1 a0_0 x678001_1 = some (r1, r2, r3)) ∧ Aside0 (kq ≤ k) ∧ Aside0 (Kd.R k52 52 w' w.heap.size (fun _ => True) u678001 x678001_1) ∧ Aside0 (w'.heap[gb1]? = some (.cells #[.string a0_0, (.slice A0_1 l0_1.length c0_1)] 24 (0, 0))) ∧ Aside0 (w'.heap[gb2]? = some (.cells #[.string (⟨#[]⟩ : ByteArray), (.slice none 0 0)] 24 (0, 0))) ∧ Aside0 (w'.heap[gb3]? = some (.cells #[.string a0_0, u678001] 24 (0, 0))) ∧ Aside0 (Below w.heap.size w w'))
 case atStart => exact ⟨(0), (([] : List (S52))), (.slice none 0 0), rfl, H', ⟨Nat.le_refl _⟩, ⟨by first | exact Kd.R_nil _ _ _ _ _ | exact Kd.N_nil _ _ _ _ _ | exact Kd.V_nil _ _ _ _ _ | exact Kd.Q_nil _ _ _ _ _ | exact Kd.S_nil _ _ _ _ _⟩, ⟨by refine blk_far ?_ NB1_3.out _; refine blk_far ?_ NB1_3.out _; exact BK1.out⟩, ⟨by refine blk_far ?_ NB2_3.out _; refine blk_far ?_ NB2_3.out _; exact BK2.out⟩, ⟨by refine blk_put (cs := #[.string a0_0, .slice none 0 0]) ?_ 1 _ rfl; refine blk_put (cs := #[.string (⟨#[]⟩ : ByteArray), .slice none 0 0]) ?_ 0 _ rfl; exact BK3.out⟩, ⟨hO HB⟩⟩
 case round =>
  clear H'
  skip
  obtain ⟨x8_1, x678001_1, u678001, rfl, HA, HK1, HO_678001, BK1, BK2, BK3, HB⟩ := hrel
  cases gk with
  | zero => exact absurd HA.out (by simp [dancestudioref45_Rotate.l0])
  | succ k1 =>
   have H := HA.out
   clear HA
   simp only [dancestudioref45_Rotate.l0] at H
   by_cases c15 : x8_1 < (l0_1.length : Int)
   rotate_left
   ·
    rw [if_neg c15] at H
    have c15b0 := decide_eq_false c15
    clear c15
    simp only [Option.some.injEq, Prod.mk.injEq] at H
    obtain ⟨rfl, rfl, rfl⟩ := H
    have hnb41 := NB1_2.out
    have hnc41 := NB2_1.out
    have hnb42 := NB1_3.out
    have hnc42 := NB3_1.out
    have hcz43 := blk_cell BK1.out; have hfz43 := blk_frozen BK1.out
    have hnb44 := NB3_2.out
    have hnc44 := NB2_3.out
    have hcz45 := blk_cell BK3.out; have hfz45 := blk_frozen BK3.out; have hcz46 := blk_cell BK2.out; have hfz46 := blk_frozen BK2.out
    obtain ⟨Ao47, co47, eo47⟩ := Kd.R_slice HO_678001.out
    subst eo47
    go_wp2
    refine bodyPost_ret (results_ct rfl _ _ gb2 24 #[.string a0_0, .slice Ao47 x678001_1.length co47] (0, 0) _ rfl (by refine blk_put (cs := #[.string a0_0, .slice none 0 0]) ?_ 1 _ rfl; refine blk_put (cs := #[.string (⟨#[]⟩ : ByteArray), .slice none 0 0]) ?_ 0 _ rfl; exact BK2.out) Tryd.underlying24 rfl (by kernel_rfl)) rfl ?_
    exact ⟨_, rfl, by exact Kd.R_mono (Kd.R_far (p := ⟨gb2, 1, none⟩) (Kd.R_far (p := ⟨gb2, 0, none⟩) (Kd.R_types HO_678001.out BK2.out (by decide)) (fun _ hk => hk.2) (.string a0_0)) (fun _ hk => hk.2) (.slice Ao47 x678001_1.length co47)) (fun _ hk => trivial), hO HB⟩
   rw [if_pos c15] at H
   have c15b0 := decide_eq_true c15
   clear c15
   obtain ⟨c16, H⟩ : (0 ≤ x8_1) ∧ _ := mIf H
   have c16b0 := decide_eq_true c16
   clear c16
   have H' := Aside0.mk H
   clear H
   have hnb17 := NB1_2.out
   have hnc17 := NB2_1.out
   have hnb18 := NB1_3.out
   have hnc18 := NB3_1.out
   have hcz19 := blk_cell BK1.out; have hfz19 := blk_frozen BK1.out
   have p678 : 0 ≤ (x8_1 : Int) := of_decide_eq_true (by assumption)
   have q678 : x8_1 < (l0_1.length : Int) := of_decide_eq_true (by assumption)
   obtain ⟨ad678, e678, hx678_0, hx678_1⟩ := at_T52 HR0_1.out x8_1 p678 q678
   cases e678
   replace hx678_0 := mHx HB hx678_0
   replace hx678_1 := mHx HB hx678_1
   replace p678 := eq_true p678
   replace q678 := eq_true q678
   go_wp2_with (first | ((with_reducible refine gate_dst (N := 9) rfl ?_); refine box_event rfl (N := 9) rfl (cs := #[.int .i64 0, .int .i64 0]) (t := 52) (by first | (go_simp; done) | (go_simp; rfl)) ?_; intro gb4 hg w20 hbox hb; replace HO_678001 := Aside0.mk (Kd.R_below (Kd.R_elderB HO_678001.out gb4 (Nat.le_of_eq hg.symm)) hb); have BK4 := Aside0.mk hbox; have GW4 := mGw HB hg; have GE4 := GW4; replace HB := mSt HB hb; have NB1_4 := mNe BK1 hg; have NB4_1 := mSy NB1_4; replace BK1 := mBb BK1 hb; have NB2_4 := mNe BK2 hg; have NB4_2 := mSy NB2_4; replace BK2 := mBb BK2 hb; have NB3_4 := mNe BK3 hg; have NB4_3 := mSy NB3_4; replace BK3 := mBb BK3 hb; clear hb hbox hg; have hnb21 := NB4_1.out; have hnc21 := NB1_4.out; have hnb22 := NB4_2.out; have hnc22 := NB2_4.out; have hnb23 := NB4_3.out; have hnc23 := NB3_4.out; have hcz24 := blk_cell BK4.out; have hfz24 := blk_frozen BK4.out))
   go_loopg [10] k1 (fun kq v10 w' => ∃ (x10_2 : Int) (x680000_2 : Int) (x680001_2 : Int), v10 = .int .i64 x10_2 ∧ Aside0 (dancestudioref45_Rotate.l1 kq a1 x8_1 x10_2 a0_0 l0_1 a0_0 x678001_1 x680000_2 x680001_2 = some (r1, r2, r3)) ∧ Aside0 (kq ≤ k1) ∧ Aside0 (Kd.R k52 52 w' w.heap.size (fun k_ => k_ ≠ gb4) u678001 x678001_1) ∧ Aside0 (w'.heap[gb1]? = some (.cells #[.string a0_0, (.slice (some ad678) l0_1.length c0_1)] 24 (0, 0))) ∧ Aside0 (w'.heap[gb2]? = some (.cells #[.string (⟨#[]⟩ : ByteArray), (.slice none 0 0)] 24 (0, 0))) ∧ Aside0 (w'.heap[gb3]? = some (.cells #[.string a0_0, u678001] 24 (0, 0))) ∧ Aside0 (w'.heap[gb4]? = some (.cells #[.int .i64 x680000_2, .int .i64 x680001_2] 52 (0, 0))) ∧ Aside0 (Below w.heap.size w w'))
   case atStart => exact ⟨(0), ((rd_T52 l0_1 x8_1).f0), ((rd_T52 l0_1 x8_1).f1), rfl, H', ⟨Nat.le_refl _⟩, ⟨Kd.R_mono (Kd.R_far (p := ⟨gb4, 1, none⟩) (Kd.R_far (p := ⟨gb4, 0, none⟩) (Kd.R_mono HO_678001.out (fun k_ hk => (⟨hk, hk.2⟩ : _ ∧ k_ ≠ gb4))) (fun _ hk => hk.2) (.int .i64 ((rd_T52 l0_1 x8_1).f0))) (fun _ hk => hk.2) (.int .i64 ((rd_T52 l0_1 x8_1).f1))) (fun _ hk => hk.1.2)⟩, ⟨by refine blk_far ?_ NB1_4.out _; refine blk_far ?_ NB1_4.out _; exact BK1.out⟩, ⟨by refine blk_far ?_ NB2_4.out _; refine blk_far ?_ NB2_4.out _; exact BK2.out⟩, ⟨by refine blk_far ?_ NB3_4.out _; refine blk_far ?_ NB3_4.out _; exact BK3.out⟩, ⟨by refine blk_put (cs := #[.int .i64 ((rd_T52 l0_1 x8_1).f0), .int .i64 0]) ?_ 1 _ rfl; refine blk_put (cs := #[.int .i64 0, .int .i64 0]) ?_ 0 _ rfl; exact BK4.out⟩, ⟨hO HB⟩⟩
   case round =>
    clear H'
    skip
    obtain ⟨x10_2, x680000_2, x680001_2, rfl, HA, HK2, HO_678001, BK1, BK2, BK3, BK4, HB⟩ := hrel
    cases gk with
    | zero => exact absurd HA.out (by simp [dancestudioref45_Rotate.l1])
    | succ k2 =>
     have H := HA.out
     clear HA
     simp only [dancestudioref45_Rotate.l1] at H
     by_cases c25 : x10_2 < (Int.tmod (wrap64 ((Int.tmod a1 4) + 4)) 4)
     ·
      rw [if_pos c25] at H
      have c25b0 := decide_eq_true c25
      clear c25
      have H' := Aside0.mk H
      clear H
      have hnb26 := NB4_1.out
      have hnc26 := NB1_4.out
      have hnb27 := NB4_2.out
      have hnc27 := NB2_4.out
      have hnb28 := NB4_3.out
      have hnc28 := NB3_4.out
      have hcz29 := blk_cell BK4.out; have hfz29 := blk_frozen BK4.out
      go_wp2
      go_roundg k2
      case measure => have := HK1.out; have := HK2.out; omega
      case rel => exact ⟨(wrap64 (x10_2 + 1)), (x680001_2), (wrap64 (-x680000_2)), rfl, H', ⟨by have := HK1.out; have := HK2.out; omega⟩, ⟨Kd.R_mono (Kd.R_far (p := ⟨gb4, 1, none⟩) (Kd.R_far (p := ⟨gb4, 0, none⟩) (Kd.R_mono HO_678001.out (fun k_ hk => (⟨hk, hk⟩ : _ ∧ k_ ≠ gb4))) (fun _ hk => hk.2) (.int .i64 x680001_2)) (fun _ hk => hk.2) (.int .i64 (wrap64 (-x680000_2)))) (fun _ hk => hk.1)⟩, ⟨by refine blk_far ?_ NB1_4.out _; refine blk_far ?_ NB1_4.out _; exact BK1.out⟩, ⟨by refine blk_far ?_ NB2_4.out _; refine blk_far ?_ NB2_4.out _; exact BK2.out⟩, ⟨by refine blk_far ?_ NB3_4.out _; refine blk_far ?_ NB3_4.out _; exact BK3.out⟩, ⟨by refine blk_put (cs := #[.int .i64 x680001_2, .int .i64 x680001_2]) ?_ 1 _ rfl; refine blk_put (cs := #[.int .i64 x680000_2, .int .i64 x680001_2]) ?_ 0 _ rfl; exact BK4.out⟩, ⟨hO HB⟩⟩
     rw [if_neg c25] at H
     have c25b0 := decide_eq_false c25
     clear c25
     obtain ⟨c30, H⟩ : (x678001_1.length < 8796093022208) ∧ _ := mIf H
     have LMc30 := Aside0.mk c30
     clear c30
     obtain ⟨y680, hy680⟩ : ∃ y_ : List (S52), y_ = (x678001_1 ++ [(⟨x680000_2, x680001_2⟩ : S52)]) := ⟨_, rfl⟩
     rw [← hy680] at H
     have Ny680 := Aside0.mk hy680
     clear hy680
     have H' := Aside0.mk H
     clear H
     have hnb31 := NB3_1.out
     have hnc31 := NB1_3.out
     have hnb32 := NB3_2.out
     have hnc32 := NB2_3.out
     have hnb33 := NB3_4.out
     have hnc33 := NB4_3.out
     have hcz34 := blk_cell BK3.out; have hfz34 := blk_frozen BK3.out
     have hnb35 := NB4_1.out
     have hnc35 := NB1_4.out
     have hnb36 := NB4_2.out
     have hnc36 := NB2_4.out
     have hcz37 := blk_cell BK4.out; have hfz37 := blk_frozen BK4.out
     go_wp2_with (first | ((with_reducible refine gate_builtin (b := .append) (xs := #[.tmp 47, .tmp 49]) rfl ?_); at_builtin; refine Kd.R_append k52 (w0 := w) w.heap.size rfl (.tmp 47) (.tmp 49) 22 52 (.agg #[(.int .i64 0), (.int .i64 0)]) 16 rfl Tryd.underlying22 info52 rfl (by decide) (by omega) u678001 x678001_1 (⟨x680000_2, x680001_2⟩ : S52) [.int .i64 x680000_2, .int .i64 x680001_2] (fun k_ => k_ ≠ gb4) (fun _ => False) rfl rfl ?aP (fun _ hk => hk.elim) ?aF ?aO ?aB ?aS ?aL ?_; (case aP => exact k52_mkM _ _ _ (⟨x680000_2, x680001_2⟩ : S52)); (case aB => exact HB.out); (case aF => exact (fun k_ hk => Kd.freshB (g := gb4) (o := .cells #[.int .i64 x680000_2, .int .i64 x680001_2] 52 (0, 0)) BK4.out k_ hk)); (case aO => exact HO_678001.out); (case aS => exact (below_size HB.out)); (case aL => have := LMc30.out; omega); intro v681 w38 ho hb hg hat; rw [← Ny680.out] at ho; replace BK1 := Aside0.mk (blk_grown (g := gb1) (o := .cells #[.string a0_0, .slice (some ad678) l0_1.length c0_1] 24 (0, 0)) BK1.out hg (Kd.R_ne HO_678001.out BK1.out (by decide))); replace BK2 := Aside0.mk (blk_grown (g := gb2) (o := .cells #[.string (⟨#[]⟩ : ByteArray), .slice none 0 0] 24 (0, 0)) BK2.out hg (Kd.R_ne HO_678001.out BK2.out (by decide))); replace BK3 := Aside0.mk (blk_grown (g := gb3) (o := .cells #[.string a0_0, u678001] 24 (0, 0)) BK3.out hg (Kd.R_ne HO_678001.out BK3.out (by decide))); replace BK4 := Aside0.mk (blk_grown (g := gb4) (o := .cells #[.int .i64 x680000_2, .int .i64 x680001_2] 52 (0, 0)) BK4.out hg (Kd.R_away HO_678001.out (fun _ hk => hk))); replace HB := Aside0.mk hb; have HO682 := Aside0.mk ho; clear HO_678001; clear ho hb hg hat; obtain ⟨Ao39, co39, eo39⟩ := Kd.R_slice HO682.out; subst eo39; have hcz40 := blk_cell BK3.out; have hfz40 := blk_frozen BK3.out))
     go_roundg k2
     case measure => have := HK1.out; have := HK2.out; omega
     case rel => exact ⟨(wrap64 (x8_1 + 1)), (y680), (.slice Ao39 y680.length co39), rfl, H', ⟨by have := HK1.out; have := HK2.out; omega⟩, ⟨Kd.R_mono (Kd.R_far (p := ⟨gb3, 1, none⟩) (Kd.R_types HO682.out BK3.out (by decide)) (fun _ hk => hk.2) (.slice Ao39 y680.length co39)) (fun _ hk => trivial)⟩, ⟨by refine blk_far ?_ NB1_3.out _; exact BK1.out⟩, ⟨by refine blk_far ?_ NB2_3.out _; exact BK2.out⟩, ⟨by refine blk_put (cs := #[.string a0_0, u678001]) ?_ 1 _ rfl; exact BK3.out⟩, ⟨hO HB⟩⟩
end Go.Proofs.YtaggccbndmmbhaaDoor.PAll
