import Derived.Test.YtimikhbnihedkaaDoorZMC0
namespace Go.Proofs.YtimikhbnihedkaaDoor.PAll
open Go.RowKit Go.Proofs.YtimikhbnihedkaaDoorW.PrintWords Go.Proofs.YtimikhbnihedkaaDoorW.PrintLast Go.Proofs.YtimikhbnihedkaaDoorW.PrintMore
attribute [local go_sem] max2_int min2_int max_two min_two max_three min_three max_four min_four
set_option linter.unusedVariables false
set_option linter.unusedSimpArgs false

/-! ### dancestudioref35_whole: function 45 -/
mutual
def dancestudioref35_whole.l0 : Nat → List (List (S43)) → List (S43) → Int → Option ((List (S43)))
 | 0, _, _, _ => none
 | k + 1, x0, x3, x4 => if x4 < (x0.length : Int) then (if 0 ≤ x4 then (if x3.length + (rd_L3 x0 x4).length < 3518437208883 then (dancestudioref35_whole.l0 k x0 (x3 ++ (rd_L3 x0 x4)) (wrap64 (x4 + 1))) else (none)) else (none)) else (some x3)
def dancestudioref35_whole.l1 : Nat → List (List (S43)) → List (List (S43)) → Int → Option ((List (S43)))
 | 0, _, _, _ => none
 | k + 1, x0, x5, x6 => if x6 < (x0.length : Int) then (if 0 ≤ x6 then (if x6 ≤ (mn (wrap64 (x6 + 8)) (x0.length : Int)) then (if (mn (wrap64 (x6 + 8)) (x0.length : Int)) ≤ (x0.length : Int) then ((dancestudioref35_whole.f k ((x0.take ((mn (wrap64 (x6 + 8)) (x0.length : Int)) : Int).toNat).drop (x6 : Int).toNat)).bind fun t708 => (if x5.length < 5864062014805 then (dancestudioref35_whole.l1 k x0 (x5 ++ [t708]) (wrap64 (x6 + 8))) else (none))) else (none)) else (none)) else (none)) else ((dancestudioref35_whole.f k x5).bind fun t714 => (some t714))
def dancestudioref35_whole.f : Nat → List (List (S43)) → Option ((List (S43)))
 | 0, _ => none
 | k + 1, l0 => if (l0.length : Int) = 1 then (if 0 < (l0.length : Int) then (some (rd_L3 l0 0)) else (none)) else (if (l0.length : Int) ≤ 8 then (dancestudioref35_whole.l0 k l0 (([(⟨2, (⟨#[]⟩ : ByteArray), 0, (l0.length : Int)⟩ : S43)] : List (S43))) 0) else (dancestudioref35_whole.l1 k l0 ([] : List (List (S43))) 0))
end
set_option maxHeartbeats 8000000 in
set_option maxRecDepth 100000 in
theorem dancestudioref35_whole.calls (k : Nat) : ∀ (P0_ : Nat → Prop) (A0 : Option Addr) (c0 : Nat) (l0 : List (List (S43))) (r : List (S43)) (w : World) (hs0 : Kd.V (Kd.slice 43 k43) 22 w w.heap.size (fun k_ => P0_ k_) (.slice A0 l0.length c0) l0) (h : dancestudioref35_whole.f k l0 = some r),
  Calls Tryd.prog 45 #[.slice A0 l0.length c0] w fun e w' => ∃ v0_ : Value, e = .returned (v0_) ∧ Kd.V k43 43 w' w.heap.size (fun k_ => (P0_ k_ ∨ w.heap.size ≤ k_)) v0_ r ∧ Below w.heap.size w w' := by
 induction k using Nat.strongRecOn with
 | _ k ih =>
 intro P0_ A0 c0 l0 r w hs0 h
 cases k with
 | zero => exact absurd h (by simp [dancestudioref35_whole.f])
 | succ k =>
 simp only [dancestudioref35_whole.f] at h
 have hu43 := Tryd.underlying43
 have HO0 := Aside0.mk (show Kd.V (Kd.slice 43 k43) 22 w w.heap.size (fun k_ => (P0_ k_ ∨ w.heap.size ≤ k_)) (.slice A0 l0.length c0) l0 from Kd.V_mono hs0 (fun k_ hk => .inl hk))
 have HB := Aside0.mk (Below.refl w.heap.size w)
 have H := h
 unfold dancestudioref35_whole.f at H
 clear h
 by_cases c2 : (l0.length : Int) = 1
 ·
  rw [if_pos c2] at H
  have c2b0 := beq_iff_eq.mpr c2
  have c2b1 := bne_eq_false_iff_eq.mpr c2
  clear c2
  obtain ⟨c3, H⟩ : (0 < (l0.length : Int)) ∧ _ := mIf H
  have c3b0 := decide_eq_true c3
  have c3b1 : decide (0 < l0.length) = true := decide_eq_true (by omega)
  clear c3
  obtain rfl := Option.some.inj H
  have p695 : 0 ≤ (0 : Int) := (by omega)
  have q695 : 0 < (l0.length : Int) := of_decide_eq_true (by assumption)
  obtain ⟨ad695, A695_0, c695_0, e695, hx695_0, hl695_0, hi695_0⟩ := at_L3 (Kd.V_reads' HO0.out).2.2 0 p695 q695
  cases e695
  obtain ⟨ce695, hce695, hMe695, hcc695⟩ := Kd.V_get HO0.out [] 0 p695 (by first | exact q695 | exact of_decide_eq_true (by assumption) | (have e_ := (Kd.V_reads' HO0.out).1; omega))
  obtain ⟨ua695_0, uc695_0, rfl, ul695_0, ge695_0⟩ := Kd.FK_slice_open hMe695
  have hv695_0 := hcc695 0 _ rfl
  rw [Nat.add_zero, show ((Kd.slice 43 k43)).sz = 1 from rfl, Nat.mul_one] at hv695_0
  replace hv695_0 := Option.some.inj (hv695_0.symm.trans hx695_0)
  injection hv695_0 with hva_ hvn_ hvc_
  rw [hva_] at ge695_0
  rw [hvc_] at ul695_0
  have HL695_0 := Aside0.mk (show Kd.V k43 43 _ w.heap.size _ _ (rd_L3 l0 0) from Kd.V_mk ul695_0 ge695_0)
  clear hva_ hvn_ hvc_ ge695_0 ul695_0 hcc695 hce695
  have qi695 : (0 < l0.length) = True := eq_true (by omega)
  (try rw [show ((0 : Int)).toNat = 0 from rfl] at hx695_0)
  (try rw [Addr.add_zero'] at hx695_0)
  have HR695_0 := Aside0.mk hi695_0
  have HC695_0 := Aside0.mk hl695_0
  clear hi695_0 hl695_0
  replace p695 := eq_true p695
  replace q695 := eq_true q695
  go_enter Tryd.func45, Tryd.ntmps45
  go_wp2
  go_ret
  exact ⟨_, rfl, by (with_reducible repeat (first | apply Kd.V_alloc | apply Kd.V_drewN | apply Kd.V_drew)); exact HL695_0.out, HB.out⟩
 rw [if_neg c2] at H
 have c2b0 := beq_eq_false_iff_ne.mpr c2
 have c2b1 := bne_iff_ne.mpr c2
 by_cases c4 : (l0.length : Int) ≤ 8
 ·
  rw [if_pos c4] at H
  have c4b0 := decide_eq_true c4
  have c4b1 : decide (l0.length ≤ 8) = true := decide_eq_true (by omega)
  clear c4
  obtain ⟨y696, hy696⟩ : ∃ y_ : List (S43), y_ = (([(⟨2, (⟨#[]⟩ : ByteArray), 0, (l0.length : Int)⟩ : S43)] : List (S43))) := ⟨_, rfl⟩
  rw [← hy696] at H
  have Ny696 := Aside0.mk hy696
  clear hy696
  have H' := Aside0.mk H
  clear H
  go_enter Tryd.func45, Tryd.ntmps45
  go_wp2_with (first | ((with_reducible refine gate_dst (N := 19) rfl ?_); refine Kd.R_lit k43 _ 43 ?hg (N := 19) ?hd (xs := ([(⟨2, (⟨#[]⟩ : ByteArray), 0, (l0.length : Int)⟩ : S43)] : List (S43))) (inner := [.int .i64 2, .string (⟨#[]⟩ : ByteArray), .int .i64 0, .int .i64 (l0.length : Int)]) (ok := fun _ => True) (okp := fun _ => True) ?hr ?hp (fun _ hk => hk) trivial (Below.refl _ _) (Nat.le_refl _) (by simp) ?_; (case hd => rfl); (case hg => rfl); (case hr => first | (go_simp; done) | (go_simp; rfl)); (case hp => exact (Reps.c4 (show Kd.M k43 _ _ _ (⟨2, (⟨#[]⟩ : ByteArray), 0, (l0.length : Int)⟩ : S43) [.int .i64 2, .string (⟨#[]⟩ : ByteArray), .int .i64 0, .int .i64 (l0.length : Int)] from (k43_mkM _ _ _ (⟨2, (⟨#[]⟩ : ByteArray), 0, (l0.length : Int)⟩ : S43) )) (Reps.none _ _))); intro v697 w5 ho6 hb hg_ hnew_; clear hg_ hnew_; (first | rw [← Ny696.out] at ho6 | (simp only [Int.reduceToNat] at ho6; rw [← Ny696.out] at ho6)); replace HO0 := Aside0.mk (Kd.V_elder' HO0.out (Kd.R_base ho6) hb); have HO698 := Aside0.mk (Kd.R_lower (Kd.R_newM (M := fun k_ => (w.heap.size ≤ k_)) ho6 (below_size HB.out) (fun k_ h_ => h_)) (below_size HB.out)); replace HB := mSt HB hb; clear hb ho6))
  go_loopg [3, 4] k (fun kq v3 v4 w' => ∃ (x3_1 : List (S43)) (x4_1 : Int), v4 = .int .i64 x4_1 ∧ Aside0 (dancestudioref35_whole.l0 kq l0 x3_1 x4_1 = some r) ∧ Aside0 (kq ≤ k) ∧ Aside0 (Kd.V (Kd.slice 43 k43) 22 w' w.heap.size (fun k_ => (P0_ k_ ∨ w.heap.size ≤ k_) ∧ some k_ ≠ (v3 : Value).ownBlock) (.slice A0 l0.length c0) l0) ∧ Aside0 (Kd.R k43 43 w' w.heap.size (fun k_ => (w.heap.size ≤ k_)) v3 x3_1) ∧ Aside0 (Below w.heap.size w w'))
  case atStart => exact ⟨(y696), (0), rfl, H', ⟨Nat.le_refl _⟩, HO0, ⟨Kd.R_mono HO698.out (fun _ hk => hk.1)⟩, ⟨HB.out⟩⟩
  case round =>
   clear H' c2 c2b0 c2b1 c4b0 c4b1
   obtain ⟨x3_1, x4_1, rfl, HA, HK1, HO_0, HO_3, HB⟩ := hrel
   cases gk with
   | zero => exact absurd HA.out (by simp [dancestudioref35_whole.l0])
   | succ k1 =>
    have H := HA.out
    clear HA
    simp only [dancestudioref35_whole.l0] at H
    by_cases c7 : x4_1 < (l0.length : Int)
    rotate_left
    ·
     rw [if_neg c7] at H
     have c7b0 := decide_eq_false c7
     clear c7
     obtain rfl := Option.some.inj H
     go_wp2
     go_ret
     exact ⟨_, rfl, Kd.V_mono (Kd.R_V HO_3.out) (fun k_ hk => by first | exact ⟨(.inr (hk.1)), hk.2⟩ | exact (.inr (hk))), HB.out⟩
    rw [if_pos c7] at H
    have c7b0 := decide_eq_true c7
    clear c7
    obtain ⟨c8, H⟩ : (0 ≤ x4_1) ∧ _ := mIf H
    have c8b0 := decide_eq_true c8
    clear c8
    obtain ⟨c9, H⟩ : (x3_1.length + (rd_L3 l0 x4_1).length < 3518437208883) ∧ _ := mIf H
    have LMc9 := Aside0.mk c9
    clear c9
    obtain ⟨y700, hy700⟩ : ∃ y_ : List (S43), y_ = (x3_1 ++ (rd_L3 l0 x4_1)) := ⟨_, rfl⟩
    rw [← hy700] at H
    have Ny700 := Aside0.mk hy700
    clear hy700
    have H' := Aside0.mk H
    clear H
    have p699 : 0 ≤ (x4_1 : Int) := of_decide_eq_true (by assumption)
    have q699 : x4_1 < (l0.length : Int) := of_decide_eq_true (by assumption)
    obtain ⟨ad699, A699_0, c699_0, e699, hx699_0, hl699_0, hi699_0⟩ := at_L3 (Kd.V_reads' HO_0.out).2.2 x4_1 p699 q699
    cases e699
    obtain ⟨ce699, hce699, hMe699, hcc699⟩ := Kd.V_get HO_0.out [] x4_1 p699 (by first | exact q699 | exact of_decide_eq_true (by assumption) | (have e_ := (Kd.V_reads' HO_0.out).1; omega))
    obtain ⟨ua699_0, uc699_0, rfl, ul699_0, ge699_0⟩ := Kd.FK_slice_open hMe699
    have hv699_0 := hcc699 0 _ rfl
    rw [Nat.add_zero, show ((Kd.slice 43 k43)).sz = 1 from rfl, Nat.mul_one] at hv699_0
    replace hv699_0 := Option.some.inj (hv699_0.symm.trans hx699_0)
    injection hv699_0 with hva_ hvn_ hvc_
    rw [hva_] at ge699_0
    rw [hvc_] at ul699_0
    have HL699_0 := Aside0.mk (show Kd.V k43 43 _ w.heap.size _ _ (rd_L3 l0 x4_1) from Kd.V_mk ul699_0 ge699_0)
    clear hva_ hvn_ hvc_ ge699_0 ul699_0 hcc699 hce699
    have HR699_0 := Aside0.mk hi699_0
    have HC699_0 := Aside0.mk hl699_0
    clear hi699_0 hl699_0
    replace p699 := eq_true p699
    replace q699 := eq_true q699
    go_wp2_with (first | ((with_reducible refine gate_builtin (b := .append) (xs := #[.tmp 26, .tmp 30]) rfl ?_); at_builtin; refine Kd.R_append_rows k43 (w0 := w) w.heap.size rfl (.tmp 26) (.tmp 30) 22 43 (.agg #[(.int .i64 0), (.string ⟨#[]⟩), (.int .i64 0), (.int .i64 0)]) 40 rfl Tryd.underlying22 info43 rfl (by decide) (by omega) u3 x3_1 (rd_L3 l0 x4_1) _ _ _ (fun k_ => (w.heap.size ≤ k_)) (fun _ => False) rfl rfl ?aO ?aR (fun _ _ h => h) (fun _ h => h.elim) ?aF ?aB ?aS ?aL ?_; (case aR => repeat (first | exact (by repeat (first | (with_reducible exact HR699_0.out) | (with_reducible refine Kd.C_alloc ?_ _) | (with_reducible refine Kd.C_drewN ?_ _) | (with_reducible refine Kd.C_drew ?_) | exact HR699_0.out)) | (with_reducible refine Kd.C_alloc ?_ _) | (with_reducible refine Kd.C_drewN ?_ _) | (with_reducible refine Kd.C_drew ?_))); (case aB => exact HB.out); (case aF => exact (fun k_ hk => (Nat.le_trans (below_size HB.out) hk))); (case aO => exact HO_3.out); (case aS => exact (below_size HB.out)); (case aL => have := LMc9.out; omega); intro v701 w10 ho hb hg hat; rw [← Ny700.out] at ho; replace HO_0 := Aside0.mk (Kd.V_afterv (ok := (fun k_ => (P0_ k_ ∨ w.heap.size ≤ k_))) HO_0.out hg hat); replace HL699_0 := Aside0.mk (Kd.V_afterv (ok := (fun k_ => (P0_ k_ ∨ w.heap.size ≤ k_))) HL699_0.out hg hat); replace HB := Aside0.mk hb; have HO702 := Aside0.mk ho; clear HO_3; clear ho hb hg hat))
    go_roundg k1
    case measure => have := HK1.out; omega
    case rel => exact ⟨(y700), (wrap64 (x4_1 + 1)), rfl, H', ⟨by have := HK1.out; omega⟩, HO_0, HO702, ⟨HB.out⟩⟩
 rw [if_neg c4] at H
 have c4b0 := decide_eq_false c4
 have c4b1 : decide (l0.length ≤ 8) = false := decide_eq_false (by omega)
 clear c4
 have H' := Aside0.mk H
 clear H
 go_enter Tryd.func45, Tryd.ntmps45
 go_wp2
 go_loopg [5, 6] k (fun kq v5 v6 w' => ∃ (x5_1 : List (List (S43))) (x6_1 : Int), v6 = .int .i64 x6_1 ∧ Aside0 (dancestudioref35_whole.l1 kq l0 x5_1 x6_1 = some r) ∧ Aside0 (kq ≤ k) ∧ Aside0 (Kd.V (Kd.slice 43 k43) 22 w' w.heap.size (fun k_ => (P0_ k_ ∨ w.heap.size ≤ k_) ∧ some k_ ≠ (v5 : Value).ownBlock) (.slice A0 l0.length c0) l0) ∧ Aside0 (Kd.N (Kd.slice 43 k43) 22 w' w.heap.size (fun k_ => (P0_ k_ ∨ w.heap.size ≤ k_)) v5 x5_1) ∧ Aside0 (Below w.heap.size w w'))
 case atStart => exact ⟨(([] : List (List (S43)))), (0), rfl, H', ⟨Nat.le_refl _⟩, ⟨Kd.V_mono HO0.out (fun _ hk => ⟨hk, (by simp [Value.ownBlock])⟩)⟩, ⟨by first | exact Kd.S_nil _ _ _ _ _ | exact Kd.N_nil _ _ _ _ _ | exact Kd.V_nil _ _ _ _ _ | exact Kd.Q_nil _ _ _ _ _ | exact Kd.R_nil _ _ _ _ _⟩, ⟨HB.out⟩⟩
 case round =>
  clear H' c2 c2b0 c2b1 c4b0 c4b1
  obtain ⟨x5_1, x6_1, rfl, HA, HK1, HO_0, HO_5, HB⟩ := hrel
  cases gk with
  | zero => exact absurd HA.out (by simp [dancestudioref35_whole.l1])
  | succ k1 =>
   have H := HA.out
   clear HA
   simp only [dancestudioref35_whole.l1] at H
   by_cases c11 : x6_1 < (l0.length : Int)
   rotate_left
   ·
    rw [if_neg c11] at H
    have c11b0 := decide_eq_false c11
    clear c11
    replace H := Option.bind_eq_some_iff.mp H
    obtain ⟨t714, A220, H⟩ := H
    try dsimp only at H
    have A22 := Aside0.mk A220
    clear A220
    obtain rfl := Option.some.inj H
    obtain ⟨Ao23, co23, eo23⟩ := Kd.N_slice HO_5.out
    subst eo23
    go_wp2_with (first | ((with_reducible refine gate_callee (f := 45) rfl ?_); refine goesL_ (some 52) rfl rfl Tryd.func45 (by kernel_rfl) rfl #[.slice Ao23 x5_1.length co23] rfl (mA1 rfl) ?_; (with_reducible refine (ih k1 (by have := HK1.out; omega) (fun k_ => (P0_ k_ ∨ w.heap.size ≤ k_)) _ _ x5_1 t714 _ ?side1 A22.out).mono ?_); (case side1 => exact Kd.N_V (HO_5.out)); rintro e w24 ⟨v715, rfl, ho0, hb⟩; refine ⟨_, rfl, ?_⟩; replace HO_0 := Aside0.mk (Kd.V_below HO_0.out hb); replace HO_5 := Aside0.mk (Kd.N_below HO_5.out hb); have HO716 := Aside0.mk (Kd.V_lower (Kd.V_mono (ok' := fun k_ => (P0_ k_ ∨ w.heap.size ≤ k_)) ho0 (fun k_ hk_ => Or.elim hk_ (fun hs_ => hs_) (fun hn_ => (.inr (Nat.le_trans (below_size HB.out) hn_))))) (below_size HB.out)); replace HB := mSt HB hb; (try clear hb); (try clear ho0)))
    go_ret
    exact ⟨_, rfl, by (with_reducible repeat (first | apply Kd.V_alloc | apply Kd.V_drewN | apply Kd.V_drew)); exact HO716.out, HB.out⟩
   rw [if_pos c11] at H
   have c11b0 := decide_eq_true c11
   clear c11
   obtain ⟨ji12, hji12⟩ : ∃ j_ : Int, (mn (wrap64 (x6_1 + 8)) (l0.length : Int)) = j_ := ⟨_, rfl⟩
   replace H : (if 0 ≤ x6_1 then (if x6_1 ≤ (ji12) then (if (ji12) ≤ (l0.length : Int) then ((dancestudioref35_whole.f k1 ((l0.take ((ji12) : Int).toNat).drop (x6_1 : Int).toNat)).bind fun t708 => (if x5_1.length < 5864062014805 then (dancestudioref35_whole.l1 k1 l0 (x5_1 ++ [t708]) (wrap64 (x6_1 + 8))) else (none))) else (none)) else (none)) else (none)) = some r := by first | (rw [hji12] at H; exact H) | (simp only [hji12] at H ⊢; exact H)
   have hji12_ : (if (l0.length : Int) < (wrap64 (x6_1 + 8)) then (l0.length : Int) else (wrap64 (x6_1 + 8))) = ji12 := hji12
   obtain ⟨c13, H⟩ : (0 ≤ x6_1) ∧ _ := mIf H
   have c13b0 := eq_true c13
   have c13b1 := decide_eq_true c13
   clear c13
   obtain ⟨c14, H⟩ : (x6_1 ≤ (ji12)) ∧ _ := mIf H
   have c14b0 := eq_true c14
   have c14b1 := decide_eq_true c14
   clear c14
   obtain ⟨c15, H⟩ : ((ji12) ≤ (l0.length : Int)) ∧ _ := mIf H
   have c15b0 := eq_true c15
   have c15b1 := decide_eq_true c15
   clear c15
   obtain ⟨y703, hy703⟩ : ∃ y_ : List (List (S43)), y_ = ((l0.take ((ji12) : Int).toNat).drop (x6_1 : Int).toNat) := ⟨_, rfl⟩
   rw [← hy703] at H
   have Ny703 := Aside0.mk hy703
   clear hy703
   replace H := Option.bind_eq_some_iff.mp H
   obtain ⟨t708, A160, H⟩ := H
   try dsimp only at H
   have A16 := Aside0.mk A160
   clear A160
   obtain ⟨c17, H⟩ : (x5_1.length < 5864062014805) ∧ _ := mIf H
   have LMc17 := Aside0.mk c17
   clear c17
   obtain ⟨y711, hy711⟩ : ∃ y_ : List (List (S43)), y_ = (x5_1 ++ [t708]) := ⟨_, rfl⟩
   rw [← hy711] at H
   have Ny711 := Aside0.mk hy711
   clear hy711
   have H' := Aside0.mk H
   clear H
   have q18 : ((ji12) : Int) ≤ ((l0.length : Int) : Int) := of_decide_eq_true (by assumption)
   obtain ⟨i018, hi018, _, hsz18, _⟩ := info_parts info22
   have hroom18 : l0.length ≤ c0 := (Kd.V_reads' HO_0.out).2.1
   have hC18 : Kd.F (Kd.slice 43 k43) _ _ A0 l0.length l0 := (Kd.V_at (base := w.heap.size) HO_0.out).2.2
   have ql18 : (x6_1 : Int) ≤ ((ji12) : Int) := of_decide_eq_true (by assumption)
   have q018 : (0 : Int) ≤ (x6_1 : Int) := of_decide_eq_true (by assumption)
   have hcut18 := cut_mid (P := Tryd.prog) 61 22 .i64 .i64 Tryd.underlying61 hi018 1 hsz18 A0 l0.length c0 x6_1 (ji12) q018 ql18 q18 hroom18
   have hr18 := Kd.F_mid (lo := (x6_1 : Int).toNat) (hi := ((ji12) : Int).toNat) (c := c0) hC18 (by omega) (by omega) hroom18
   obtain ⟨A18, hA18⟩ : ∃ A1, A1 = (if c0 = (x6_1 : Int).toNat then A0 else (A0 : Option Addr).map (·.add ((x6_1 : Int).toNat * 1))) := ⟨_, rfl⟩
   obtain ⟨c18, hc18⟩ : ∃ c1, c1 = c0 - (x6_1 : Int).toNat := ⟨_, rfl⟩
   have hy18 : y703.length = ((ji12) : Int).toNat - (x6_1 : Int).toNat := (by rw [Ny703.out, List.length_drop, List.length_take] <;> omega)
   rw [show ((l0).take ((ji12) : Int).toNat).drop (x6_1 : Int).toNat = y703 from Ny703.out.symm] at hr18
   replace hr18 : Kd.F (Kd.slice 43 k43) _ _ A18 y703.length y703 := (by rw [hA18]; exact hr18)
   rw [← hy18, ← hA18, ← hc18] at hcut18
   have HO707 := Aside0.mk (show Kd.V (Kd.slice 43 k43) 22 _ w.heap.size _ (.slice A18 y703.length c18) y703 from Kd.V_mk (by rw [hy18, hc18]; exact Nat.sub_le_sub_right (Nat.le_trans (by omega) hroom18) _) hr18)
   have HC707 := Aside0.mk (show y703.length ≤ c18 from by rw [hy18, hc18]; exact Nat.sub_le_sub_right (Nat.le_trans (by omega) hroom18) _)
   clear hr18 hC18 hroom18 hi018 hsz18 hc18
   have KY18 := Aside0.mk hy18
   have KA18 := Aside0.mk hA18
   clear hy18 hA18
   replace q18 := eq_true q18
   go_wp2_with (first | ((with_reducible refine gate_callee (f := 45) rfl ?_); refine goesL_ (some 48) rfl rfl Tryd.func45 (by kernel_rfl) rfl #[.slice A18 y703.length c18] rfl (mA1 rfl) ?_; (with_reducible refine (ih k1 (by have := HK1.out; omega) (fun k_ => ((P0_ k_ ∨ w.heap.size ≤ k_) ∧ some k_ ≠ (u5 : Value).ownBlock)) _ _ y703 t708 _ ?side1 A16.out).mono ?_); (case side1 => exact HO707.out); rintro e w19 ⟨v709, rfl, ho0, hb⟩; refine ⟨_, rfl, ?_⟩; replace HO_0 := Aside0.mk (Kd.V_below HO_0.out hb); replace HO707 := Aside0.mk (Kd.V_below HO707.out hb); have HO710 := Aside0.mk (Kd.V_lower (Kd.V_mono (ok' := fun k_ => (P0_ k_ ∨ w.heap.size ≤ k_) ∧ some k_ ≠ (u5 : Value).ownBlock) ho0 (fun k_ hk_ => ⟨Or.elim hk_ (fun hs_ => hs_.1) (fun hn_ => (.inr (Nat.le_trans (below_size HB.out) hn_))), Or.elim hk_ (fun hs_ => hs_.2) (fun hn_ => (Kd.fresh' (Kd.N_lt HO_5.out) k_ hn_))⟩)) (below_size HB.out)); replace HO_5 := Aside0.mk (Kd.N_below HO_5.out hb); replace HB := mSt HB hb; (try clear hb); (try clear ho0); obtain ⟨Ao21, co21, eo21⟩ := Kd.V_slice HO710.out; subst eo21) | ((with_reducible refine gate_builtin (b := .append) (xs := #[.tmp 39, .tmp 49]) rfl ?_); at_builtin; refine Kd.N_append (Kd.slice 43 k43) (w0 := w) w.heap.size rfl (.tmp 39) (.tmp 49) 61 22 (.slice none 0 0) 24 rfl Tryd.underlying61 info22 rfl (by decide) (by omega) u5 x5_1 t708 [.slice Ao21 t708.length co21] (fun k_ => (P0_ k_ ∨ w.heap.size ≤ k_)) (fun k_ => ((fun k_ => (P0_ k_ ∨ w.heap.size ≤ k_))) k_ ∧ some k_ ≠ (u5 : Value).ownBlock) rfl rfl ?aP (fun _ hk => hk) ?aF ?aO ?aB ?aS ?aL ?_; (case aP => exact (Kd.FK_slice_mk (Kd.V_reads' (Kd.V_mono (ok' := (fun k_ => ((fun k_ => (P0_ k_ ∨ w.heap.size ≤ k_))) k_ ∧ some k_ ≠ (u5 : Value).ownBlock)) (HO710.out) (fun k_ hk => ⟨hk.1, hk.2⟩))).2.1 (Kd.V_F (Kd.V_mono (ok' := (fun k_ => ((fun k_ => (P0_ k_ ∨ w.heap.size ≤ k_))) k_ ∧ some k_ ≠ (u5 : Value).ownBlock)) (HO710.out) (fun k_ hk => ⟨hk.1, hk.2⟩))))); (case aB => exact HB.out); (case aF => exact (fun k_ hk => (.inr (Nat.le_trans (below_size HB.out) hk)))); (case aO => exact HO_5.out); (case aS => exact (below_size HB.out)); (case aL => have := LMc17.out; omega); intro v712 w20 ho hb hg hat; rw [← Ny711.out] at ho; replace HO_0 := Aside0.mk (Kd.V_afterv (ok := (fun k_ => (P0_ k_ ∨ w.heap.size ≤ k_))) HO_0.out hg hat); replace HO707 := Aside0.mk (Kd.V_afterv (ok := (fun k_ => (P0_ k_ ∨ w.heap.size ≤ k_))) HO707.out hg hat); replace HO710 := Aside0.mk (Kd.V_afterv (ok := (fun k_ => (P0_ k_ ∨ w.heap.size ≤ k_))) HO710.out hg hat); replace HB := Aside0.mk hb; have HO713 := Aside0.mk ho; clear HO_5; clear ho hb hg hat))
   go_roundg k1
   case measure => have := HK1.out; omega
   case rel => exact ⟨(y711), (wrap64 (x6_1 + 8)), rfl, H', ⟨by have := HK1.out; omega⟩, HO_0, HO713, ⟨HB.out⟩⟩
end Go.Proofs.YtimikhbnihedkaaDoor.PAll
