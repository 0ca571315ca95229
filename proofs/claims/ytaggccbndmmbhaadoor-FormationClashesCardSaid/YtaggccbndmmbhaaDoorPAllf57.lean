-- Written by wip/tools/handprint.py: walks of the functions that the law reaches; Lean checks them.
import Derived.Test.YtaggccbndmmbhaaDoorBase
import Derived.Test.YtaggccbndmmbhaaDoorPAllf70
namespace Go.Proofs.YtaggccbndmmbhaaDoor.PAll
open Go.RowKit Go.Proofs.YtaggccbndmmbhaaDoorW.PrintWords Go.Proofs.YtaggccbndmmbhaaDoorW.PrintLast Go.Proofs.YtaggccbndmmbhaaDoorW.PrintMore
attribute [local go_sem] max2_int min2_int max_two min_two max_three min_three max_four min_four   -- for this text's walks alone
set_option linter.unusedVariables false
set_option linter.unusedSimpArgs false

/-! ### assign_cost: function 57 -/
def assign_cost.l0 : Nat → List (List Int) → Int → Int → List Int → List Int → List Int → Option (Int)
 | 0, _, _, _, _, _, _ => none
 | k + 1, x0, x4, x5, x204000, x204001, x204002 => if x5 ≤ (x0.length : Int) then (if 0 ≤ x5 then (if x5 < (x204002.length : Int) then (if 0 ≤ (wrap64 ((rd x204002 x5) - 1)) then (if (wrap64 ((rd x204002 x5) - 1)) < (x0.length : Int) then (if 0 ≤ (wrap64 (x5 - 1)) then (if (wrap64 (x5 - 1)) < ((rd_L2 x0 (wrap64 ((rd x204002 x5) - 1))).length : Int) then (assign_cost.l0 k x0 (wrap64 (x4 + (rd (rd_L2 x0 (wrap64 ((rd x204002 x5) - 1))) (wrap64 (x5 - 1))))) (wrap64 (x5 + 1)) x204000 x204001 x204002) else (none)) else (none)) else (none)) else (none)) else (none)) else (none)) else (some x4)
def assign_cost.f (k : Nat) (l0 : List (List Int)) : Option (Int) := (assign_solve.f k l0).bind fun bt194 => (assign_cost.l0 k l0 0 1 bt194.1 bt194.2.1 bt194.2.2)
set_option maxHeartbeats 8000000 in
set_option maxRecDepth 100000 in
theorem assign_cost.calls (k : Nat) (A0 : Option Addr) (c0 : Nat) (l0 : List (List Int)) (r : Int) (w : World) (hr0 : Kd.C (Kd.slice 3 (Kd.int .i64)) w A0 l0.length l0) (hc0 : l0.length ≤ c0) (h : assign_cost.f k l0 = some r) :
  Calls Tryd.prog 57 #[.slice A0 l0.length c0] w fun e w' => e = .returned (.int .i64 r) ∧ Below w.heap.size w w' := by
 have hu90 := Tryd.underlying90
 have HR0 := Aside0.mk hr0
 have HC0 := Aside0.mk hc0
 clear hr0 hc0
 have HB := Aside0.mk (Below.refl w.heap.size w)
 have H := h
 unfold assign_cost.f at H
 clear h
 replace H := Option.bind_eq_some_iff.mp H
 obtain ⟨⟨t194, t197, t200⟩, A20, H⟩ := H
 try dsimp only at H
 have A2 := Aside0.mk A20
 clear A20
 have H' := Aside0.mk H
 clear H
 go_enter Tryd.func57, Tryd.ntmps57
 go_wp2_with (first | ((with_reducible refine gate_callee (f := 70) rfl ?_); refine goesL_ (some 7) rfl rfl Tryd.func70 (by kernel_rfl) rfl #[.slice A0 l0.length c0] rfl (mA1 rfl) ?_; (with_reducible refine (assign_solve.calls k _ _ l0 t194 t197 t200 _ HR0.out HC0.out A2.out).mono ?_); rintro e w3 ⟨v195, v198, v201, rfl, ho0, ho1, ho2, hb⟩; refine ⟨_, rfl, ?_⟩; have HO196 := Aside0.mk (Kd.R_lower ho0 (below_size HB.out)); have HO199 := Aside0.mk (Kd.R_lower ho1 (below_size HB.out)); have HO202 := Aside0.mk (Kd.R_lower ho2 (below_size HB.out)); replace HB := mSt HB hb; (try clear hb); (try clear ho0); (try clear ho1); (try clear ho2)) | ((with_reducible refine gate_dst (N := 3) rfl ?_); refine box_event rfl (N := 3) rfl (cs := #[.slice none 0 0, .slice none 0 0, .slice none 0 0]) (t := 90) (by first | (go_simp; done) | (go_simp; rfl)) ?_; intro gb1 hg w4 hbox hb; replace HO196 := Aside0.mk (Kd.R_below HO196.out hb); replace HO199 := Aside0.mk (Kd.R_below HO199.out hb); replace HO202 := Aside0.mk (Kd.R_below HO202.out hb); have BK1 := Aside0.mk hbox; have GW1 := mGw HB hg; have GE1 := GW1; replace HB := mSt HB hb; clear hb hbox hg; obtain ⟨Ao5, co5, eo5⟩ := Kd.R_slice HO196.out; subst eo5; have hcz6 := blk_cell BK1.out; have hfz6 := blk_frozen BK1.out; obtain ⟨Ao7, co7, eo7⟩ := Kd.R_slice HO199.out; subst eo7; obtain ⟨Ao8, co8, eo8⟩ := Kd.R_slice HO202.out; subst eo8))
 go_loopg [4, 5] k (fun kq v4 v5 w' => ∃ (x4_1 : Int) (x5_1 : Int), v4 = .int .i64 x4_1 ∧ v5 = .int .i64 x5_1 ∧ Aside0 (assign_cost.l0 kq l0 x4_1 x5_1 t194 t197 t200 = some r) ∧ Aside0 (kq ≤ k) ∧ Aside0 (Kd.R (Kd.int .i64) 3 w' w.heap.size (fun k_ => some k_ ≠ ((.slice Ao7 t197.length co7) : Value).ownBlock ∧ some k_ ≠ ((.slice Ao8 t200.length co8) : Value).ownBlock) (.slice Ao5 t194.length co5) t194) ∧ Aside0 (Kd.R (Kd.int .i64) 3 w' w.heap.size (fun k_ => some k_ ≠ ((.slice Ao5 t194.length co5) : Value).ownBlock ∧ some k_ ≠ ((.slice Ao8 t200.length co8) : Value).ownBlock) (.slice Ao7 t197.length co7) t197) ∧ Aside0 (Kd.R (Kd.int .i64) 3 w' w.heap.size (fun k_ => some k_ ≠ ((.slice Ao5 t194.length co5) : Value).ownBlock ∧ some k_ ≠ ((.slice Ao7 t197.length co7) : Value).ownBlock) (.slice Ao8 t200.length co8) t200) ∧ Aside0 (w'.heap[gb1]? = some (.cells #[(.slice Ao5 t194.length co5), (.slice Ao7 t197.length co7), (.slice Ao8 t200.length co8)] 90 (0, 0))) ∧ Aside0 (Below w.heap.size w w'))
 case atStart => exact ⟨(0), (1), rfl, rfl, H', ⟨Nat.le_refl _⟩, ⟨Kd.R_mono (Kd.R_far (p := ⟨gb1, 2, none⟩) (Kd.R_far (p := ⟨gb1, 1, none⟩) (Kd.R_far (p := ⟨gb1, 0, none⟩) (Kd.R_types HO196.out BK1.out (by decide)) (fun _ hk => hk.2) (.slice Ao5 t194.length co5)) (fun _ hk => hk.2) (.slice Ao7 t197.length co7)) (fun _ hk => hk.2) (.slice Ao8 t200.length co8)) (fun _ hk => ⟨hk.1.1, hk.1.2⟩)⟩, ⟨Kd.R_mono (Kd.R_far (p := ⟨gb1, 2, none⟩) (Kd.R_far (p := ⟨gb1, 1, none⟩) (Kd.R_far (p := ⟨gb1, 0, none⟩) (Kd.R_types HO199.out BK1.out (by decide)) (fun _ hk => hk.2) (.slice Ao5 t194.length co5)) (fun _ hk => hk.2) (.slice Ao7 t197.length co7)) (fun _ hk => hk.2) (.slice Ao8 t200.length co8)) (fun _ hk => ⟨hk.1.1, hk.1.2⟩)⟩, ⟨Kd.R_mono (Kd.R_far (p := ⟨gb1, 2, none⟩) (Kd.R_far (p := ⟨gb1, 1, none⟩) (Kd.R_far (p := ⟨gb1, 0, none⟩) (Kd.R_types HO202.out BK1.out (by decide)) (fun _ hk => hk.2) (.slice Ao5 t194.length co5)) (fun _ hk => hk.2) (.slice Ao7 t197.length co7)) (fun _ hk => hk.2) (.slice Ao8 t200.length co8)) (fun _ hk => ⟨hk.1.1, hk.1.2⟩)⟩, ⟨by refine blk_put (cs := #[.slice Ao5 t194.length co5, .slice Ao7 t197.length co7, .slice none 0 0]) ?_ 2 _ rfl; refine blk_put (cs := #[.slice Ao5 t194.length co5, .slice none 0 0, .slice none 0 0]) ?_ 1 _ rfl; refine blk_put (cs := #[.slice none 0 0, .slice none 0 0, .slice none 0 0]) ?_ 0 _ rfl; exact BK1.out⟩, ⟨hO HB⟩⟩
 case round =>
  clear H'
  skip
  obtain ⟨x4_1, x5_1, rfl, rfl, HA, HK1, HO_204000, HO_204001, HO_204002, BK1, HB⟩ := hrel
  cases gk with
  | zero => exact absurd HA.out (by simp [assign_cost.l0])
  | succ k1 =>
   have H := HA.out
   clear HA
   simp only [assign_cost.l0] at H
   by_cases c9 : x5_1 ≤ (l0.length : Int)
   rotate_left
   ·
    rw [if_neg c9] at H
    have c9b0 := decide_eq_false c9
    clear c9
    obtain rfl := Option.some.inj H
    go_wp2
    go_ret
    exact ⟨rfl, HB.out⟩
   rw [if_pos c9] at H
   have c9b0 := decide_eq_true c9
   clear c9
   obtain ⟨c10, H⟩ : (0 ≤ x5_1) ∧ _ := mIf H
   have c10b0 := decide_eq_true c10
   clear c10
   obtain ⟨c11, H⟩ : (x5_1 < (t200.length : Int)) ∧ _ := mIf H
   have c11b0 := decide_eq_true c11
   clear c11
   obtain ⟨ji12, hji12⟩ : ∃ j_ : Int, (wrap64 ((rd t200 x5_1) - 1)) = j_ := ⟨_, rfl⟩
   replace H : (if 0 ≤ (ji12) then (if (ji12) < (l0.length : Int) then (if 0 ≤ (wrap64 (x5_1 - 1)) then (if (wrap64 (x5_1 - 1)) < ((rd_L2 l0 (ji12)).length : Int) then (assign_cost.l0 k1 l0 (wrap64 (x4_1 + (rd (rd_L2 l0 (ji12)) (wrap64 (x5_1 - 1))))) (wrap64 (x5_1 + 1)) t194 t197 t200) else (none)) else (none)) else (none)) else (none)) = some r := by first | (rw [hji12] at H; exact H) | (simp only [hji12] at H ⊢; exact H)
   have hji12w : (IntKind.i64.wrap ((rd t200 x5_1) - 1)) = ji12 := (i64_w _).trans hji12
   obtain ⟨c13, H⟩ : (0 ≤ (ji12)) ∧ _ := mIf H
   have c13b0 := decide_eq_true c13
   clear c13
   obtain ⟨c14, H⟩ : ((ji12) < (l0.length : Int)) ∧ _ := mIf H
   have c14b0 := decide_eq_true c14
   clear c14
   obtain ⟨ji15, hji15⟩ : ∃ j_ : Int, (wrap64 (x5_1 - 1)) = j_ := ⟨_, rfl⟩
   replace H : (if 0 ≤ (ji15) then (if (ji15) < ((rd_L2 l0 (ji12)).length : Int) then (assign_cost.l0 k1 l0 (wrap64 (x4_1 + (rd (rd_L2 l0 (ji12)) (ji15)))) (wrap64 (x5_1 + 1)) t194 t197 t200) else (none)) else (none)) = some r := by first | (rw [hji15] at H; exact H) | (simp only [hji15] at H ⊢; exact H)
   have hji15w : (IntKind.i64.wrap (x5_1 - 1)) = ji15 := (i64_w _).trans hji15
   obtain ⟨c16, H⟩ : (0 ≤ (ji15)) ∧ _ := mIf H
   have c16b0 := decide_eq_true c16
   clear c16
   obtain ⟨c17, H⟩ : ((ji15) < ((rd_L2 l0 (ji12)).length : Int)) ∧ _ := mIf H
   have c17b0 := decide_eq_true c17
   clear c17
   have H' := Aside0.mk H
   clear H
   have hcz18 := blk_cell BK1.out; have hfz18 := blk_frozen BK1.out
   have p204 : 0 ≤ (x5_1 : Int) := of_decide_eq_true (by assumption)
   have q204 : x5_1 < (t200.length : Int) := of_decide_eq_true (by assumption)
   obtain ⟨ad204, e204, hx204_0⟩ := Kd.at_int (Kd.R_reads' HO_204002.out).2.2 x5_1 p204 q204
   cases e204
   replace p204 := eq_true p204
   replace q204 := eq_true q204
   have p205 : 0 ≤ ((ji12) : Int) := of_decide_eq_true (by assumption)
   have q205 : (ji12) < (l0.length : Int) := of_decide_eq_true (by assumption)
   obtain ⟨ad205, A205_0, c205_0, e205, hx205_0, hl205_0, hi205_0⟩ := at_L2 HR0.out (ji12) p205 q205
   cases e205
   replace hx205_0 := mHx HB hx205_0
   have HR205_0 := Aside0.mk hi205_0
   have HC205_0 := Aside0.mk hl205_0
   clear hi205_0 hl205_0
   replace p205 := eq_true p205
   replace q205 := eq_true q205
   have p206 : 0 ≤ ((ji15) : Int) := of_decide_eq_true (by assumption)
   have q206 : (ji15) < ((rd_L2 l0 (ji12)).length : Int) := of_decide_eq_true (by assumption)
   obtain ⟨ad206, e206, hx206_0⟩ := Kd.at_int HR205_0.out (ji15) p206 q206
   cases e206
   replace hx206_0 := mHx HB hx206_0
   replace p206 := eq_true p206
   replace q206 := eq_true q206
   go_wp2
   go_roundg k1
   case measure => have := HK1.out; omega
   case rel => exact ⟨(wrap64 (x4_1 + (rd (rd_L2 l0 (ji12)) (ji15)))), (wrap64 (x5_1 + 1)), (by first | rfl | (simp; done) | (simp only [← hji12, ← hji15] <;> (first | rfl | simp)) | (simp [*]; done)), rfl, H', ⟨by have := HK1.out; omega⟩, HO_204000, HO_204001, HO_204002, ⟨BK1.out⟩, ⟨HB.out⟩⟩
end Go.Proofs.YtaggccbndmmbhaaDoor.PAll
