import Derived.Test.YtimikhbnihedkaaDoorZMC0
namespace Go.Proofs.YtimikhbnihedkaaDoor.PAll
open Go.RowKit Go.Proofs.YtimikhbnihedkaaDoorW.PrintWords Go.Proofs.YtimikhbnihedkaaDoorW.PrintLast Go.Proofs.YtimikhbnihedkaaDoorW.PrintMore
attribute [local go_sem] max2_int min2_int max_two min_two max_three min_three max_four min_four
set_option linter.unusedVariables false
set_option linter.unusedSimpArgs false

/-! ### dancestudioref35_arguments: function 55 -/
def dancestudioref35_arguments.l0 : Nat → List (S43) → List (List (S43)) → Option ((List (List (S43))))
 | 0, _, _ => none
 | k + 1, x0, x3 => if (x0.length : Int) > 0 then ((dancestudioref35_Size.f k x0).bind fun t444 => (if 0 ≤ t444 then (if t444 ≤ (x0.length : Int) then (if x3.length < 5864062014805 then (dancestudioref35_arguments.l0 k (x0.drop (t444 : Int).toNat) (x3 ++ [(x0.take (t444 : Int).toNat)])) else (none)) else (none)) else (none))) else (some x3)
def dancestudioref35_arguments.f (k : Nat) (l0 : List (S43)) : Option ((List (List (S43)))) := dancestudioref35_arguments.l0 k l0 ([] : List (List (S43)))
set_option maxHeartbeats 8000000 in
set_option maxRecDepth 100000 in
theorem dancestudioref35_arguments.calls (k : Nat) (P0_ : Nat → Prop) (A0 : Option Addr) (c0 : Nat) (l0 : List (S43)) (r : List (List (S43))) (w : World) (hs0 : Kd.V k43 43 w w.heap.size (fun k_ => P0_ k_) (.slice A0 l0.length c0) l0) (h : dancestudioref35_arguments.f k l0 = some r) :
  Calls Tryd.prog 55 #[.slice A0 l0.length c0] w fun e w' => ∃ v0_ : Value, e = .returned (v0_) ∧ Kd.N (Kd.slice 43 k43) 22 w' w.heap.size (fun k_ => (P0_ k_ ∨ w.heap.size ≤ k_)) v0_ r ∧ Below w.heap.size w w' := by
 have HO0 := Aside0.mk (show Kd.V k43 43 w w.heap.size (fun k_ => (P0_ k_ ∨ w.heap.size ≤ k_)) (.slice A0 l0.length c0) l0 from Kd.V_mono hs0 (fun k_ hk => .inl hk))
 have HB := Aside0.mk (Below.refl w.heap.size w)
 have H := h
 unfold dancestudioref35_arguments.f at H
 clear h
 have H' := Aside0.mk H
 clear H
 go_enter Tryd.func55, Tryd.ntmps55
 go_wp2
 go_loopg [0, 3] k (fun kq v0 v3 w' => ∃ (x0_1 : List (S43)) (x3_1 : List (List (S43))), Aside0 (dancestudioref35_arguments.l0 kq x0_1 x3_1 = some r) ∧ Aside0 (kq ≤ k) ∧ Aside0 (Kd.V k43 43 w' w.heap.size (fun k_ => (P0_ k_ ∨ w.heap.size ≤ k_) ∧ some k_ ≠ (v3 : Value).ownBlock) v0 x0_1) ∧ Aside0 (Kd.N (Kd.slice 43 k43) 22 w' w.heap.size (fun k_ => (P0_ k_ ∨ w.heap.size ≤ k_)) v3 x3_1) ∧ Aside0 (Below w.heap.size w w'))
 case atStart => exact ⟨(l0), (([] : List (List (S43)))), H', ⟨Nat.le_refl _⟩, ⟨Kd.V_mono HO0.out (fun _ hk => ⟨hk, (by simp [Value.ownBlock])⟩)⟩, ⟨by first | exact Kd.S_nil _ _ _ _ _ | exact Kd.N_nil _ _ _ _ _ | exact Kd.V_nil _ _ _ _ _ | exact Kd.Q_nil _ _ _ _ _ | exact Kd.R_nil _ _ _ _ _⟩, ⟨HB.out⟩⟩
 case round =>
  clear H'
  obtain ⟨x0_1, x3_1, HA, HK1, HO_0, HO_3, HB⟩ := hrel
  cases gk with
  | zero => exact absurd HA.out (by simp [dancestudioref35_arguments.l0])
  | succ k1 =>
   have H := HA.out
   clear HA
   simp only [dancestudioref35_arguments.l0] at H
   by_cases c2 : (x0_1.length : Int) > 0
   rotate_left
   ·
    rw [if_neg c2] at H
    have c2b0 := decide_eq_false c2
    have c2b1 : decide (0 < x0_1.length) = false := decide_eq_false (by omega)
    clear c2
    obtain rfl := Option.some.inj H
    obtain ⟨Ao13, co13, eo13⟩ := Kd.V_slice HO_0.out
    subst eo13
    go_wp2
    go_ret
    exact ⟨_, rfl, by (with_reducible repeat (first | apply Kd.N_alloc | apply Kd.N_drewN | apply Kd.N_drew)); exact HO_3.out, HB.out⟩
   rw [if_pos c2] at H
   have c2b0 := decide_eq_true c2
   have c2b1 : decide (0 < x0_1.length) = true := decide_eq_true (by omega)
   clear c2
   replace H := Option.bind_eq_some_iff.mp H
   obtain ⟨t444, A30, H⟩ := H
   try dsimp only at H
   have A3 := Aside0.mk A30
   clear A30
   obtain ⟨c4, H⟩ : (0 ≤ t444) ∧ _ := mIf H
   have c4b0 := eq_true c4
   have c4b1 := decide_eq_true c4
   clear c4
   obtain ⟨c5, H⟩ : (t444 ≤ (x0_1.length : Int)) ∧ _ := mIf H
   have c5b0 := eq_true c5
   have c5b1 := decide_eq_true c5
   clear c5
   obtain ⟨y445, hy445⟩ : ∃ y_ : List (S43), y_ = (x0_1.take (t444 : Int).toNat) := ⟨_, rfl⟩
   rw [← hy445] at H
   have Ny445 := Aside0.mk hy445
   clear hy445
   obtain ⟨c6, H⟩ : (x3_1.length < 5864062014805) ∧ _ := mIf H
   have LMc6 := Aside0.mk c6
   clear c6
   obtain ⟨y450, hy450⟩ : ∃ y_ : List (List (S43)), y_ = (x3_1 ++ [y445]) := ⟨_, rfl⟩
   rw [← hy450] at H
   have Ny450 := Aside0.mk hy450
   clear hy450
   have c7b0 := eq_true (of_decide_eq_true (by assumption) : 0 ≤ t444)
   have c8b0 := eq_true (of_decide_eq_true (by assumption) : t444 ≤ (x0_1.length : Int))
   obtain ⟨y453, hy453⟩ : ∃ y_ : List (S43), y_ = (x0_1.drop (t444 : Int).toNat) := ⟨_, rfl⟩
   rw [← hy453] at H
   have Ny453 := Aside0.mk hy453
   clear hy453
   have H' := Aside0.mk H
   clear H
   obtain ⟨Ao9, co9, eo9⟩ := Kd.V_slice HO_0.out
   subst eo9
   go_wp2_with (first | ((with_reducible refine gate_callee (f := 36) rfl ?_); refine goesL_ (some 9) rfl rfl Tryd.func36 (by kernel_rfl) rfl #[.slice Ao9 x0_1.length co9] rfl (mA1 rfl) ?_; (with_reducible refine (dancestudioref35_Size.calls k1 _ _ x0_1 t444 _ (cO (Kd.V_reads' HO_0.out).2.2) ((Kd.V_reads' HO_0.out).2.1) A3.out).mono ?_); rintro e w' ⟨rfl, ⟨nd, rfl⟩⟩; refine ⟨_, rfl, ?_⟩; have q10 : (t444 : Int) ≤ ((x0_1.length : Int) : Int) := of_decide_eq_true (by assumption); obtain ⟨i010, hi010, _, hsz10, _⟩ := info_parts info43; have hroom10 : x0_1.length ≤ co9 := (Kd.V_reads' HO_0.out).2.1; have hC10 : Kd.F k43 _ _ Ao9 x0_1.length x0_1 := (Kd.V_at (base := w.heap.size) HO_0.out).2.2; have hcut10 := cut_to (P := Tryd.prog) 22 43 .i64 Tryd.underlying22 hi010 Ao9 x0_1.length co9 t444 (of_decide_eq_true (by assumption)) q10 hroom10; have hr10 := Kd.F_take (m := (t444 : Int).toNat) hC10 (by omega); have hy10 : y445.length = (t444 : Int).toNat := (by rw [Ny445.out, List.length_take]; omega); rw [← Ny445.out] at hr10; rw [← hy10] at hcut10; have HO449 := Aside0.mk (show Kd.V k43 43 _ w.heap.size _ (.slice Ao9 y445.length co9) y445 from Kd.V_mk (by omega) hr10); have HC449 := Aside0.mk (show y445.length ≤ co9 from by omega); clear hr10 hC10 hroom10 hi010 hsz10; have KY10 := Aside0.mk hy10; clear hy10; replace q10 := eq_true q10) | ((with_reducible refine gate_builtin (b := .append) (xs := #[.tmp 10, .tmp 14]) rfl ?_); at_builtin; refine Kd.N_append (Kd.slice 43 k43) (w0 := w) w.heap.size rfl (.tmp 10) (.tmp 14) 61 22 (.slice none 0 0) 24 rfl Tryd.underlying61 info22 rfl (by decide) (by omega) u3 x3_1 y445 [.slice Ao9 y445.length co9] (fun k_ => (P0_ k_ ∨ w.heap.size ≤ k_)) (fun k_ => ((fun k_ => (P0_ k_ ∨ w.heap.size ≤ k_))) k_ ∧ some k_ ≠ (u3 : Value).ownBlock) rfl rfl ?aP (fun _ hk => hk) ?aF ?aO ?aB ?aS ?aL ?_; (case aP => exact (Kd.FK_slice_mk (Kd.V_reads' (Kd.V_mono (ok' := (fun k_ => ((fun k_ => (P0_ k_ ∨ w.heap.size ≤ k_))) k_ ∧ some k_ ≠ (u3 : Value).ownBlock)) (HO449.out) (fun k_ hk => ⟨hk.1, hk.2⟩))).2.1 (Kd.V_F (Kd.V_mono (ok' := (fun k_ => ((fun k_ => (P0_ k_ ∨ w.heap.size ≤ k_))) k_ ∧ some k_ ≠ (u3 : Value).ownBlock)) (Kd.V_drewN HO449.out nd) (fun k_ hk => ⟨hk.1, hk.2⟩))))); (case aB => exact (hO HB)); (case aF => exact (fun k_ hk => (.inr (Nat.le_trans (below_size (hO HB)) hk)))); (case aO => exact (by (with_reducible repeat (first | apply Kd.N_alloc | apply Kd.N_drewN | apply Kd.N_drew)); exact HO_3.out)); (case aS => exact (below_size (hO HB))); (case aL => have := LMc6.out; omega); intro v451 w11 ho hb hg hat; rw [← Ny450.out] at ho; replace HO_0 := Aside0.mk (Kd.V_afterv (ok := (fun k_ => (P0_ k_ ∨ w.heap.size ≤ k_))) (by (with_reducible repeat (first | apply Kd.V_alloc | apply Kd.V_drewN | apply Kd.V_drew)); exact HO_0.out) hg hat); replace HO449 := Aside0.mk (Kd.V_afterv (ok := (fun k_ => (P0_ k_ ∨ w.heap.size ≤ k_))) (by (with_reducible repeat (first | apply Kd.V_alloc | apply Kd.V_drewN | apply Kd.V_drew)); exact HO449.out) hg hat); replace HB := Aside0.mk hb; have HO452 := Aside0.mk ho; clear HO_3; clear ho hb hg hat; have q12 : (t444 : Int) ≤ ((x0_1.length : Int) : Int) := of_decide_eq_true (by assumption); obtain ⟨i012, hi012, _, hsz12, _⟩ := info_parts info43; have hroom12 : x0_1.length ≤ co9 := (Kd.V_reads' HO_0.out).2.1; have hC12 : Kd.F k43 _ _ Ao9 x0_1.length x0_1 := (Kd.V_at (base := w.heap.size) HO_0.out).2.2; have q012 : (0 : Int) ≤ (t444 : Int) := of_decide_eq_true (by assumption); have hcut12 := cut_from (P := Tryd.prog) 22 43 .i64 Tryd.underlying22 hi012 4 hsz12 Ao9 x0_1.length co9 t444 q012 q12; have hr12 := Kd.F_cut (m := (t444 : Int).toNat) (c := co9) hC12 (by omega) hroom12; obtain ⟨A12, hA12⟩ : ∃ A1, A1 = (if co9 = (t444 : Int).toNat then Ao9 else (Ao9 : Option Addr).map (·.add ((t444 : Int).toNat * 4))) := ⟨_, rfl⟩; obtain ⟨c12, hc12⟩ : ∃ c1, c1 = co9 - (t444 : Int).toNat := ⟨_, rfl⟩; have hy12 : y453.length = x0_1.length - (t444 : Int).toNat := (by rw [Ny453.out, List.length_drop] <;> omega); rw [show (x0_1).drop (t444 : Int).toNat = y453 from Ny453.out.symm] at hr12; replace hr12 : Kd.F k43 _ _ A12 y453.length y453 := (by rw [hA12]; exact hr12); rw [← hy12, ← hA12, ← hc12] at hcut12; have HO457 := Aside0.mk (show Kd.V k43 43 _ w.heap.size _ (.slice A12 y453.length c12) y453 from Kd.V_mk (by rw [hy12, hc12]; exact Nat.sub_le_sub_right hroom12 _) hr12); have HC457 := Aside0.mk (show y453.length ≤ c12 from by rw [hy12, hc12]; exact Nat.sub_le_sub_right hroom12 _); clear hr12 hC12 hroom12 hi012 hsz12 hc12; have KY12 := Aside0.mk hy12; have KA12 := Aside0.mk hA12; clear hy12 hA12; replace q12 := eq_true q12))
   go_roundg k1
   case measure => have := HK1.out; omega
   case rel => exact ⟨(y453), (y450), H', ⟨by have := HK1.out; omega⟩, HO457, HO452, ⟨HB.out⟩⟩
end Go.Proofs.YtimikhbnihedkaaDoor.PAll
