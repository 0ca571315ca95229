-- Written by wip/tools/handprint.py: walks of the functions that the law reaches; Lean checks them.
import Derived.Test.YtaggccbndmmbhaaDoorBase
namespace Go.Proofs.YtaggccbndmmbhaaDoor.PAll
open Go.RowKit Go.Proofs.YtaggccbndmmbhaaDoorW.PrintWords Go.Proofs.YtaggccbndmmbhaaDoorW.PrintLast Go.Proofs.YtaggccbndmmbhaaDoorW.PrintMore
attribute [local go_sem] max2_int min2_int max_two min_two max_three min_three max_four min_four   -- for this text's walks alone
set_option linter.unusedVariables false
set_option linter.unusedSimpArgs false

/-! ### geom_valid: function 46 -/
mutual
def geom_valid.l0 : Nat → List Int → List (S52) → Int → Int → Option (Bool)
 | 0, _, _, _, _ => none
 | k + 1, x1, x9, x10, x11 => if x11 < x10 then (if 0 ≤ x11 then (if x11 < (x9.length : Int) then (if ((rd_T52 x9 x11).f0) < (-32768) then (some false) else (if ((rd_T52 x9 x11).f0) > 32768 then (some false) else (if ((rd_T52 x9 x11).f1) < (-32768) then (some false) else (if ((rd_T52 x9 x11).f1) > 32768 then (some false) else (geom_valid.l0 k x1 x9 x10 (wrap64 (x11 + 1))))))) else (none)) else (none)) else (geom_valid.l1 k x1 (x1.length : Int) 0)
def geom_valid.l1 : Nat → List Int → Int → Int → Option (Bool)
 | 0, _, _, _ => none
 | k + 1, x34, x35, x36 => if x36 < x35 then (if 0 ≤ x36 then (if x36 < (x34.length : Int) then (if (rd x34 x36) < 0 then (some false) else (if (rd x34 x36) > 32768 then (some false) else (geom_valid.l1 k x34 x35 (wrap64 (x36 + 1))))) else (none)) else (none)) else (some true)
end
def geom_valid.f (k : Nat) (l0 : List (S52)) (l1 : List Int) : Option (Bool) := geom_valid.l0 k l1 l0 (l0.length : Int) 0
set_option maxHeartbeats 8000000 in
set_option maxRecDepth 100000 in
theorem geom_valid.calls (k : Nat) (A0 : Option Addr) (c0 : Nat) (l0 : List (S52)) (A1 : Option Addr) (c1 : Nat) (l1 : List Int) (r : Bool) (w : World) (hr0 : Kd.C k52 w A0 l0.length l0) (hc0 : l0.length ≤ c0) (hr1 : Kd.C (Kd.int .i64) w A1 l1.length l1) (hc1 : l1.length ≤ c1) (h : geom_valid.f k l0 l1 = some r) :
  Calls Tryd.prog 46 #[.slice A0 l0.length c0, .slice A1 l1.length c1] w fun e w' => e = .returned (.bool r) ∧ Below w.heap.size w w' := by
 have hu52 := Tryd.underlying52
 have HR0 := Aside0.mk hr0
 have HC0 := Aside0.mk hc0
 clear hr0 hc0
 have HR1 := Aside0.mk hr1
 have HC1 := Aside0.mk hc1
 clear hr1 hc1
 have HB := Aside0.mk (Below.refl w.heap.size w)
 have H := h
 unfold geom_valid.f at H
 clear h
 have H' := Aside0.mk H
 clear H
 go_enter Tryd.func46, Tryd.ntmps46
 go_wp2
 go_loopg [11] k (fun kq v11 w' => ∃ (x11_1 : Int), v11 = .int .i64 x11_1 ∧ Aside0 (geom_valid.l0 kq l1 l0 (l0.length : Int) x11_1 = some r) ∧ Aside0 (kq ≤ k) ∧ Aside0 (Below w.heap.size w w'))
 case atStart => exact ⟨(0), rfl, H', ⟨Nat.le_refl _⟩, ⟨HB.out⟩⟩
 case round =>
  clear H'
  skip
  obtain ⟨x11_1, rfl, HA, HK1, HB⟩ := hrel
  cases gk with
  | zero => exact absurd HA.out (by simp [geom_valid.l0])
  | succ k1 =>
   have H := HA.out
   clear HA
   simp only [geom_valid.l0] at H
   by_cases c3 : x11_1 < (l0.length : Int)
   rotate_left
   ·
    rw [if_neg c3] at H
    have c3b0 := decide_eq_false c3
    clear c3
    have H' := Aside0.mk H
    clear H
    go_wp2
    go_loopg [36] k1 (fun kq v36 w' => ∃ (x36_2 : Int), v36 = .int .i64 x36_2 ∧ Aside0 (geom_valid.l1 kq l1 (l1.length : Int) x36_2 = some r) ∧ Aside0 (kq ≤ k1) ∧ Aside0 (Below w.heap.size w w'))
    case atStart => exact ⟨(0), rfl, H', ⟨Nat.le_refl _⟩, ⟨HB.out⟩⟩
    case round =>
     clear H'
     skip
     obtain ⟨x36_2, rfl, HA, HK2, HB⟩ := hrel
     cases gk with
     | zero => exact absurd HA.out (by simp [geom_valid.l1])
     | succ k2 =>
      have H := HA.out
      clear HA
      simp only [geom_valid.l1] at H
      by_cases c20 : x36_2 < (l1.length : Int)
      rotate_left
      ·
       rw [if_neg c20] at H
       have c20b0 := decide_eq_false c20
       clear c20
       obtain rfl := Option.some.inj H
       go_wp2
       go_ret
       exact ⟨rfl, HB.out⟩
      rw [if_pos c20] at H
      have c20b0 := decide_eq_true c20
      clear c20
      obtain ⟨c21, H⟩ : (0 ≤ x36_2) ∧ _ := mIf H
      have c21b0 := decide_eq_true c21
      clear c21
      obtain ⟨c22, H⟩ : (x36_2 < (l1.length : Int)) ∧ _ := mIf H
      have c22b0 := decide_eq_true c22
      clear c22
      by_cases c23 : (rd l1 x36_2) < 0
      ·
       rw [if_pos c23] at H
       have c23b0 := decide_eq_true c23
       clear c23
       obtain rfl := Option.some.inj H
       have p126 : 0 ≤ (x36_2 : Int) := of_decide_eq_true (by assumption)
       have q126 : x36_2 < (l1.length : Int) := of_decide_eq_true (by assumption)
       obtain ⟨ad126, e126, hx126_0⟩ := Kd.at_int HR1.out x36_2 p126 q126
       cases e126
       replace hx126_0 := mHx HB hx126_0
       replace p126 := eq_true p126
       replace q126 := eq_true q126
       go_wp2
       go_ret
       exact ⟨rfl, HB.out⟩
      rw [if_neg c23] at H
      have c23b0 := decide_eq_false c23
      clear c23
      by_cases c24 : (rd l1 x36_2) > 32768
      ·
       rw [if_pos c24] at H
       have c24b0 := decide_eq_true c24
       clear c24
       obtain rfl := Option.some.inj H
       have p126 : 0 ≤ (x36_2 : Int) := of_decide_eq_true (by assumption)
       have q126 : x36_2 < (l1.length : Int) := of_decide_eq_true (by assumption)
       obtain ⟨ad126, e126, hx126_0⟩ := Kd.at_int HR1.out x36_2 p126 q126
       cases e126
       replace hx126_0 := mHx HB hx126_0
       replace p126 := eq_true p126
       replace q126 := eq_true q126
       go_wp2
       go_ret
       exact ⟨rfl, HB.out⟩
      rw [if_neg c24] at H
      have c24b0 := decide_eq_false c24
      clear c24
      have H' := Aside0.mk H
      clear H
      have p126 : 0 ≤ (x36_2 : Int) := of_decide_eq_true (by assumption)
      have q126 : x36_2 < (l1.length : Int) := of_decide_eq_true (by assumption)
      obtain ⟨ad126, e126, hx126_0⟩ := Kd.at_int HR1.out x36_2 p126 q126
      cases e126
      replace hx126_0 := mHx HB hx126_0
      replace p126 := eq_true p126
      replace q126 := eq_true q126
      go_wp2
      go_roundg k2
      case measure => have := HK1.out; have := HK2.out; omega
      case rel => exact ⟨(wrap64 (x36_2 + 1)), rfl, H', ⟨by have := HK1.out; have := HK2.out; omega⟩, ⟨HB.out⟩⟩
   rw [if_pos c3] at H
   have c3b0 := decide_eq_true c3
   clear c3
   obtain ⟨c4, H⟩ : (0 ≤ x11_1) ∧ _ := mIf H
   have c4b0 := decide_eq_true c4
   clear c4
   obtain ⟨c5, H⟩ : (x11_1 < (l0.length : Int)) ∧ _ := mIf H
   have c5b0 := decide_eq_true c5
   clear c5
   by_cases c6 : ((rd_T52 l0 x11_1).f0) < (-32768)
   ·
    rw [if_pos c6] at H
    have c6b0 := decide_eq_true c6
    clear c6
    obtain rfl := Option.some.inj H
    have p124 : 0 ≤ (x11_1 : Int) := of_decide_eq_true (by assumption)
    have q124 : x11_1 < (l0.length : Int) := of_decide_eq_true (by assumption)
    obtain ⟨ad124, e124, hx124_0, hx124_1⟩ := at_T52 HR0.out x11_1 p124 q124
    cases e124
    replace hx124_0 := mHx HB hx124_0
    replace hx124_1 := mHx HB hx124_1
    replace p124 := eq_true p124
    replace q124 := eq_true q124
    go_wp2_with (first | ((with_reducible refine gate_dst (N := 6) rfl ?_); refine box_event rfl (N := 6) rfl (cs := #[.int .i64 0, .int .i64 0]) (t := 52) (by first | (go_simp; done) | (go_simp; rfl)) ?_; intro gb1 hg w7 hbox hb; have BK1 := Aside0.mk hbox; have GW1 := mGw HB hg; have GE1 := GW1; replace HB := mSt HB hb; clear hb hbox hg; have hcz8 := blk_cell BK1.out; have hfz8 := blk_frozen BK1.out))
    go_ret
    exact ⟨rfl, hO HB⟩
   rw [if_neg c6] at H
   have c6b0 := decide_eq_false c6
   clear c6
   by_cases c9 : ((rd_T52 l0 x11_1).f0) > 32768
   ·
    rw [if_pos c9] at H
    have c9b0 := decide_eq_true c9
    clear c9
    obtain rfl := Option.some.inj H
    have p124 : 0 ≤ (x11_1 : Int) := of_decide_eq_true (by assumption)
    have q124 : x11_1 < (l0.length : Int) := of_decide_eq_true (by assumption)
    obtain ⟨ad124, e124, hx124_0, hx124_1⟩ := at_T52 HR0.out x11_1 p124 q124
    cases e124
    replace hx124_0 := mHx HB hx124_0
    replace hx124_1 := mHx HB hx124_1
    replace p124 := eq_true p124
    replace q124 := eq_true q124
    go_wp2_with (first | ((with_reducible refine gate_dst (N := 6) rfl ?_); refine box_event rfl (N := 6) rfl (cs := #[.int .i64 0, .int .i64 0]) (t := 52) (by first | (go_simp; done) | (go_simp; rfl)) ?_; intro gb1 hg w10 hbox hb; have BK1 := Aside0.mk hbox; have GW1 := mGw HB hg; have GE1 := GW1; replace HB := mSt HB hb; clear hb hbox hg; have hcz11 := blk_cell BK1.out; have hfz11 := blk_frozen BK1.out))
    go_ret
    exact ⟨rfl, hO HB⟩
   rw [if_neg c9] at H
   have c9b0 := decide_eq_false c9
   clear c9
   by_cases c12 : ((rd_T52 l0 x11_1).f1) < (-32768)
   ·
    rw [if_pos c12] at H
    have c12b0 := decide_eq_true c12
    clear c12
    obtain rfl := Option.some.inj H
    have p124 : 0 ≤ (x11_1 : Int) := of_decide_eq_true (by assumption)
    have q124 : x11_1 < (l0.length : Int) := of_decide_eq_true (by assumption)
    obtain ⟨ad124, e124, hx124_0, hx124_1⟩ := at_T52 HR0.out x11_1 p124 q124
    cases e124
    replace hx124_0 := mHx HB hx124_0
    replace hx124_1 := mHx HB hx124_1
    replace p124 := eq_true p124
    replace q124 := eq_true q124
    go_wp2_with (first | ((with_reducible refine gate_dst (N := 6) rfl ?_); refine box_event rfl (N := 6) rfl (cs := #[.int .i64 0, .int .i64 0]) (t := 52) (by first | (go_simp; done) | (go_simp; rfl)) ?_; intro gb1 hg w13 hbox hb; have BK1 := Aside0.mk hbox; have GW1 := mGw HB hg; have GE1 := GW1; replace HB := mSt HB hb; clear hb hbox hg; have hcz14 := blk_cell BK1.out; have hfz14 := blk_frozen BK1.out))
    go_ret
    exact ⟨rfl, hO HB⟩
   rw [if_neg c12] at H
   have c12b0 := decide_eq_false c12
   clear c12
   by_cases c15 : ((rd_T52 l0 x11_1).f1) > 32768
   ·
    rw [if_pos c15] at H
    have c15b0 := decide_eq_true c15
    clear c15
    obtain rfl := Option.some.inj H
    have p124 : 0 ≤ (x11_1 : Int) := of_decide_eq_true (by assumption)
    have q124 : x11_1 < (l0.length : Int) := of_decide_eq_true (by assumption)
    obtain ⟨ad124, e124, hx124_0, hx124_1⟩ := at_T52 HR0.out x11_1 p124 q124
    cases e124
    replace hx124_0 := mHx HB hx124_0
    replace hx124_1 := mHx HB hx124_1
    replace p124 := eq_true p124
    replace q124 := eq_true q124
    go_wp2_with (first | ((with_reducible refine gate_dst (N := 6) rfl ?_); refine box_event rfl (N := 6) rfl (cs := #[.int .i64 0, .int .i64 0]) (t := 52) (by first | (go_simp; done) | (go_simp; rfl)) ?_; intro gb1 hg w16 hbox hb; have BK1 := Aside0.mk hbox; have GW1 := mGw HB hg; have GE1 := GW1; replace HB := mSt HB hb; clear hb hbox hg; have hcz17 := blk_cell BK1.out; have hfz17 := blk_frozen BK1.out))
    go_ret
    exact ⟨rfl, hO HB⟩
   rw [if_neg c15] at H
   have c15b0 := decide_eq_false c15
   clear c15
   have H' := Aside0.mk H
   clear H
   have p124 : 0 ≤ (x11_1 : Int) := of_decide_eq_true (by assumption)
   have q124 : x11_1 < (l0.length : Int) := of_decide_eq_true (by assumption)
   obtain ⟨ad124, e124, hx124_0, hx124_1⟩ := at_T52 HR0.out x11_1 p124 q124
   cases e124
   replace hx124_0 := mHx HB hx124_0
   replace hx124_1 := mHx HB hx124_1
   replace p124 := eq_true p124
   replace q124 := eq_true q124
   go_wp2_with (first | ((with_reducible refine gate_dst (N := 6) rfl ?_); refine box_event rfl (N := 6) rfl (cs := #[.int .i64 0, .int .i64 0]) (t := 52) (by first | (go_simp; done) | (go_simp; rfl)) ?_; intro gb1 hg w18 hbox hb; have BK1 := Aside0.mk hbox; have GW1 := mGw HB hg; have GE1 := GW1; replace HB := mSt HB hb; clear hb hbox hg; have hcz19 := blk_cell BK1.out; have hfz19 := blk_frozen BK1.out))
   go_roundg k1
   case measure => have := HK1.out; omega
   case rel => exact ⟨(wrap64 (x11_1 + 1)), rfl, H', ⟨by have := HK1.out; omega⟩, ⟨hO HB⟩⟩
end Go.Proofs.YtaggccbndmmbhaaDoor.PAll
