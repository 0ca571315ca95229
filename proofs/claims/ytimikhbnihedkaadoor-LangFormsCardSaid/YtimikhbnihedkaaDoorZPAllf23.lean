import Derived.Test.YtimikhbnihedkaaDoorZKx
import Derived.Test.YtimikhbnihedkaaDoorZMC0
import Derived.Test.YtimikhbnihedkaaDoorZPAllf43
import Derived.Test.YtimikhbnihedkaaDoorZPAllf44
import Derived.Test.YtimikhbnihedkaaDoorZPAllf45
namespace Go.Proofs.YtimikhbnihedkaaDoor.PAll
open Go.RowKit Go.Proofs.YtimikhbnihedkaaDoorW.PrintWords Go.Proofs.YtimikhbnihedkaaDoorW.PrintLast Go.Proofs.YtimikhbnihedkaaDoorW.PrintMore
attribute [local go_sem] max2_int min2_int max_two min_two max_three min_three max_four min_four
set_option linter.unusedVariables false
set_option linter.unusedSimpArgs false

/-! ### dancestudioref35_Norm: function 23 -/
def dancestudioref35_Norm.l0 : Nat → List (S72) → List (List (S43)) → Int → Option ((List (S43)) × Int)
 | 0, _, _, _ => none
 | k + 1, x5, x7, x8 => if x8 < (x5.length : Int) then (if 0 ≤ x8 then ((dancestudioref35_written.f k ((rd_T72 x5 x8).f0) ((rd_T72 x5 x8).f1) ((rd_T72 x5 x8).f2) ((rd_T72 x5 x8).f3) ((rd_T72 x5 x8).f4)).bind fun t723 => (if x7.length < 5864062014805 then (dancestudioref35_Norm.l0 k x5 (x7 ++ [t723]) (wrap64 (x8 + 1))) else (none))) else (none)) else ((dancestudioref35_whole.f k x7).bind fun t729 => (if (t729.length : Int) > 64 then (some (([] : List (S43)), 3)) else ((some (([] : List (S43)) : List (S43))).bind fun y732 => (if y732.length + t729.length < 3518437208883 then (some ((y732 ++ t729), 0)) else (none)))))
def dancestudioref35_Norm.f (k : Nat) (l0 : List (S43)) : Option ((List (S43)) × Int) := (dancestudioref35_Check.f k l0).bind fun t717 => (if t717 = 0 then ((dancestudioref35_Leaves.f k l0).bind fun bt718 => (if bt718.2 = true then (dancestudioref35_Norm.l0 k bt718.1 ([] : List (List (S43))) 0) else (some (([] : List (S43)), 3)))) else (some (([] : List (S43)), t717)))
set_option maxHeartbeats 8000000 in
set_option maxRecDepth 100000 in
theorem dancestudioref35_Norm.calls (k : Nat) (A0 : Option Addr) (c0 : Nat) (l0 : List (S43)) (r1 : List (S43)) (r2 : Int) (w : World) (hr0 : Kd.C k43 w A0 l0.length l0) (hc0 : l0.length ≤ c0) (h : dancestudioref35_Norm.f k l0 = some (r1, r2)) :
  Calls Tryd.prog 23 #[.slice A0 l0.length c0] w fun e w' => ∃ v0_ : Value, e = .returned (.tuple #[v0_, .int .i64 r2]) ∧ Kd.R k43 43 w' w.heap.size (fun _ => True) v0_ r1 ∧ Below w.heap.size w w' := by
 have hu72 := Tryd.underlying72
 have HR0 := Aside0.mk hr0
 have HC0 := Aside0.mk hc0
 clear hr0 hc0
 have HB := Aside0.mk (Below.refl w.heap.size w)
 have H := h
 unfold dancestudioref35_Norm.f at H
 clear h
 replace H := Option.bind_eq_some_iff.mp H
 obtain ⟨t717, A20, H⟩ := H
 try dsimp only at H
 have A2 := Aside0.mk A20
 clear A20
 by_cases c3 : t717 = 0
 rotate_left
 ·
  rw [if_neg c3] at H
  have c3b0 := beq_eq_false_iff_ne.mpr c3
  have c3b1 := bne_iff_ne.mpr c3
  simp only [Option.some.injEq, Prod.mk.injEq] at H
  obtain ⟨rfl, rfl⟩ := H
  go_enter Tryd.func23, Tryd.ntmps23
  go_wp2_with (first | ((with_reducible refine gate_callee (f := 17) rfl ?_); refine goesL_ (some 11) rfl rfl Tryd.func17 (by kernel_rfl) rfl #[.slice A0 l0.length c0] rfl (mA1 rfl) ?_; (with_reducible refine (dancestudioref35_Check.calls k _ _ l0 t717 _ HR0.out HC0.out A2.out).mono ?_); rintro e w32 ⟨rfl, hb⟩; refine ⟨_, rfl, ?_⟩; replace HB := mSt HB hb; (try clear hb)))
  go_ret2
  exact ⟨_, rfl, by first | exact Kd.R_nil _ _ _ _ _ | exact Kd.N_nil _ _ _ _ _ | exact Kd.V_nil _ _ _ _ _ | exact Kd.Q_nil _ _ _ _ _ | exact Kd.S_nil _ _ _ _ _, HB.out⟩
 rw [if_pos c3] at H
 have c3b0 := beq_iff_eq.mpr c3
 have c3b1 := bne_eq_false_iff_eq.mpr c3
 clear c3
 replace H := Option.bind_eq_some_iff.mp H
 obtain ⟨⟨t718, t719⟩, A40, H⟩ := H
 try dsimp only at H
 have A4 := Aside0.mk A40
 clear A40
 by_cases c5 : t719 = true
 rotate_left
 ·
  replace c5 := Bool.eq_false_iff.mpr c5
  subst c5
  rw [if_neg (show ¬ (false = true) by decide)] at H
  simp only [Option.some.injEq, Prod.mk.injEq] at H
  obtain ⟨rfl, rfl⟩ := H
  go_enter Tryd.func23, Tryd.ntmps23
  go_wp2_with (first | ((with_reducible refine gate_callee (f := 17) rfl ?_); refine goesL_ (some 11) rfl rfl Tryd.func17 (by kernel_rfl) rfl #[.slice A0 l0.length c0] rfl (mA1 rfl) ?_; (with_reducible refine (dancestudioref35_Check.calls k _ _ l0 t717 _ HR0.out HC0.out A2.out).mono ?_); rintro e w30 ⟨rfl, hb⟩; refine ⟨_, rfl, ?_⟩; replace HB := mSt HB hb; (try clear hb)) | ((with_reducible refine gate_callee (f := 43) rfl ?_); refine goesL_ (some 17) rfl rfl Tryd.func43 (by kernel_rfl) rfl #[.slice A0 l0.length c0] rfl (mA1 rfl) ?_; (with_reducible refine (dancestudioref35_Leaves.calls k _ _ l0 t718 false _ (Kd.C_below HR0.out HB.out) HC0.out A4.out).mono ?_); rintro e w31 ⟨v720, rfl, ho0, hb⟩; refine ⟨_, rfl, ?_⟩; have HO721 := Aside0.mk (Kd.R_lower ho0 (below_size HB.out)); replace HB := mSt HB hb; (try clear hb); (try clear ho0)))
  go_ret2
  exact ⟨_, rfl, by first | exact Kd.R_nil _ _ _ _ _ | exact Kd.N_nil _ _ _ _ _ | exact Kd.V_nil _ _ _ _ _ | exact Kd.Q_nil _ _ _ _ _ | exact Kd.S_nil _ _ _ _ _, HB.out⟩
 subst c5
 rw [if_pos rfl] at H
 have H' := Aside0.mk H
 clear H
 go_enter Tryd.func23, Tryd.ntmps23
 go_wp2_with (first | ((with_reducible refine gate_callee (f := 17) rfl ?_); refine goesL_ (some 11) rfl rfl Tryd.func17 (by kernel_rfl) rfl #[.slice A0 l0.length c0] rfl (mA1 rfl) ?_; (with_reducible refine (dancestudioref35_Check.calls k _ _ l0 t717 _ HR0.out HC0.out A2.out).mono ?_); rintro e w6 ⟨rfl, hb⟩; refine ⟨_, rfl, ?_⟩; replace HB := mSt HB hb; (try clear hb)) | ((with_reducible refine gate_callee (f := 43) rfl ?_); refine goesL_ (some 17) rfl rfl Tryd.func43 (by kernel_rfl) rfl #[.slice A0 l0.length c0] rfl (mA1 rfl) ?_; (with_reducible refine (dancestudioref35_Leaves.calls k _ _ l0 t718 true _ (Kd.C_below HR0.out HB.out) HC0.out A4.out).mono ?_); rintro e w7 ⟨v720, rfl, ho0, hb⟩; refine ⟨_, rfl, ?_⟩; have HO721 := Aside0.mk (Kd.R_lower ho0 (below_size HB.out)); replace HB := mSt HB hb; (try clear hb); (try clear ho0)))
 go_loopg [7, 8] k (fun kq v7 v8 w' => ∃ (x7_1 : List (List (S43))) (x8_1 : Int), v8 = .int .i64 x8_1 ∧ Aside0 (dancestudioref35_Norm.l0 kq t718 x7_1 x8_1 = some (r1, r2)) ∧ Aside0 (kq ≤ k) ∧ Aside0 (Kd.R k72 72 w' w.heap.size (fun _ => True) v720 t718) ∧ Aside0 (Kd.S (Kd.slice 43 k43) 22 w' w.heap.size (fun _ => True) v7 x7_1) ∧ Aside0 (Below w.heap.size w w'))
 case atStart => exact ⟨(([] : List (List (S43)))), (0), rfl, H', ⟨Nat.le_refl _⟩, HO721, ⟨by first | exact Kd.S_nil _ _ _ _ _ | exact Kd.N_nil _ _ _ _ _ | exact Kd.V_nil _ _ _ _ _ | exact Kd.Q_nil _ _ _ _ _ | exact Kd.R_nil _ _ _ _ _⟩, ⟨HB.out⟩⟩
 case round =>
  clear H'
  try clear c1; try clear c2; try clear p2; try clear c3; try clear c3b0; try clear c3b1; try clear c4; try clear c5
  obtain ⟨x7_1, x8_1, rfl, HA, HK1, HO_5, HO_7, HB⟩ := hrel
  cases gk with
  | zero => exact absurd HA.out (by simp [dancestudioref35_Norm.l0])
  | succ k1 =>
   have H := HA.out
   clear HA
   simp only [dancestudioref35_Norm.l0] at H
   by_cases c8 : x8_1 < (t718.length : Int)
   ·
    rw [if_pos c8] at H
    have c8b0 := decide_eq_true c8
    clear c8
    obtain ⟨c9, H⟩ : (0 ≤ x8_1) ∧ _ := mIf H
    have c9b0 := decide_eq_true c9
    clear c9
    replace H := Option.bind_eq_some_iff.mp H
    obtain ⟨t723, A100, H⟩ := H
    try dsimp only at H
    have A10 := Aside0.mk A100
    clear A100
    obtain ⟨c11, H⟩ : (x7_1.length < 5864062014805) ∧ _ := mIf H
    have LMc11 := Aside0.mk c11
    clear c11
    obtain ⟨y726, hy726⟩ : ∃ y_ : List (List (S43)), y_ = (x7_1 ++ [t723]) := ⟨_, rfl⟩
    rw [← hy726] at H
    have Ny726 := Aside0.mk hy726
    clear hy726
    have H' := Aside0.mk H
    clear H
    obtain ⟨Ao12, co12, eo12⟩ := Kd.R_slice HO_5.out
    subst eo12
    have p722 : 0 ≤ (x8_1 : Int) := of_decide_eq_true (by assumption)
    have q722 : x8_1 < (t718.length : Int) := of_decide_eq_true (by assumption)
    obtain ⟨ad722, e722, hx722_0, hx722_1, hx722_2, hx722_3, hx722_4⟩ := at_T72 (Kd.R_reads' HO_5.out).2.2 x8_1 p722 q722
    cases e722
    replace p722 := eq_true p722
    replace q722 := eq_true q722
    go_wp2_with (first | ((with_reducible refine gate_callee (f := 44) rfl ?_); refine goesL_ (some 33) rfl rfl Tryd.func44 (by kernel_rfl) rfl #[.agg #[.string ((rd_T72 t718 x8_1).f0), .int .i64 ((rd_T72 t718 x8_1).f1), .bool ((rd_T72 t718 x8_1).f2), .bool ((rd_T72 t718 x8_1).f3), .int .i64 ((rd_T72 t718 x8_1).f4)]] rfl (mA1 rfl) ?_; (with_reducible refine (dancestudioref35_written.calls k1 ((rd_T72 t718 x8_1).f0) ((rd_T72 t718 x8_1).f1) ((rd_T72 t718 x8_1).f2) ((rd_T72 t718 x8_1).f3) ((rd_T72 t718 x8_1).f4) t723 _ A10.out).mono ?_); rintro e w13 ⟨v724, rfl, ho0, hb⟩; refine ⟨_, rfl, ?_⟩; replace HO_5 := Aside0.mk (Kd.R_below HO_5.out hb); replace HO_7 := Aside0.mk (Kd.S_elder' HO_7.out (Kd.R_base ho0) hb); have HO725 := Aside0.mk (Kd.R_lower ho0 (below_size HB.out)); replace HB := mSt HB hb; (try clear hb); (try clear ho0); obtain ⟨Ao15, co15, eo15⟩ := Kd.R_slice HO725.out; subst eo15) | ((with_reducible refine gate_builtin (b := .append) (xs := #[.tmp 28, .tmp 34]) rfl ?_); at_builtin; refine Kd.S_append (Kd.slice 43 k43) (w0 := w) w.heap.size rfl (.tmp 28) (.tmp 34) 61 22 (.slice none 0 0) 24 rfl Tryd.underlying61 info22 rfl (by decide) (by omega) u7 x7_1 t723 [.slice Ao15 t723.length co15] (fun _ => True) (fun k_ => some k_ = (.slice Ao15 t723.length co15 : Value).ownBlock) rfl rfl ?aP (fun k_ hk_ => ((Kd.R_mono (ok' := fun k_ => ((fun _ => True)) k_ ∧ some k_ ≠ (u7 : Value).ownBlock) (Kd.R_apart' (HO725.out) (Kd.S_typed HO_7.out) (by decide)) (fun k_ hk => ⟨trivial, hk.2⟩))).1 k_ hk_.symm) ?aF ?aO ?aB ?aS ?aL ?_; (case aP => exact Kd.M_row (Kd.R_mono (Kd.R_tight rfl (Kd.R_mono (ok' := fun k_ => ((fun _ => True)) k_ ∧ some k_ ≠ (u7 : Value).ownBlock) (Kd.R_apart' (HO725.out) (Kd.S_typed HO_7.out) (by decide)) (fun k_ hk => ⟨trivial, hk.2⟩))) (fun _ h_ => h_))); (case aB => exact HB.out); (case aF => exact (fun _ _ => trivial)); (case aO => exact (by (with_reducible repeat (first | apply Kd.S_alloc | apply Kd.S_drewN | apply Kd.S_drew)); exact Kd.S_mono HO_7.out (fun k_ hk => ⟨trivial, fun e_ => hk.2 e_⟩))); (case aS => exact (below_size HB.out)); (case aL => have := LMc11.out; omega); intro v727 w14 ho hb hg hat; rw [← Ny726.out] at ho; replace HO_5 := Aside0.mk (Kd.R_over' HO_5.out (Kd.S_typed HO_7.out) (by decide) hg); replace HB := Aside0.mk hb; have HO728 := Aside0.mk ho; clear HO_7 HO725; clear ho hb hg hat))
    go_roundg k1
    case measure => have := HK1.out; omega
    case rel => exact ⟨(y726), (wrap64 (x8_1 + 1)), rfl, H', ⟨by have := HK1.out; omega⟩, HO_5, HO728, ⟨HB.out⟩⟩
   rw [if_neg c8] at H
   have c8b0 := decide_eq_false c8
   clear c8
   replace H := Option.bind_eq_some_iff.mp H
   obtain ⟨t729, A160, H⟩ := H
   try dsimp only at H
   have A16 := Aside0.mk A160
   clear A160
   by_cases c17 : (t729.length : Int) > 64
   ·
    rw [if_pos c17] at H
    have c17b0 := decide_eq_true c17
    have c17b1 : decide (64 < t729.length) = true := decide_eq_true (by omega)
    clear c17
    simp only [Option.some.injEq, Prod.mk.injEq] at H
    obtain ⟨rfl, rfl⟩ := H
    obtain ⟨Ao18, co18, eo18⟩ := Kd.R_slice HO_5.out
    subst eo18
    obtain ⟨Ao19, co19, eo19⟩ := Kd.S_slice HO_7.out
    subst eo19
    go_wp2_with (first | ((with_reducible refine gate_callee (f := 45) rfl ?_); refine goesL_ (some 37) rfl rfl Tryd.func45 (by kernel_rfl) rfl #[.slice Ao19 x7_1.length co19] rfl (mA1 rfl) ?_; (with_reducible refine (dancestudioref35_whole.calls k1 (fun k_ => (True ∧ some k_ ≠ (.slice Ao18 t718.length co18 : Value).ownBlock)) _ _ x7_1 t729 _ (Kd.S_V (Kd.S_apart' (HO_7.out) (Kd.R_typed HO_5.out) (by decide))) A16.out).mono ?_); rintro e w20 ⟨v730, rfl, ho0, hb⟩; refine ⟨_, rfl, ?_⟩; replace HO_7 := Aside0.mk (Kd.S_below HO_7.out hb); have HO731 := Aside0.mk (Kd.V_lower (Kd.V_mono (ok' := fun k_ => some k_ ≠ (.slice Ao18 t718.length co18 : Value).ownBlock) ho0 (fun k_ hk_ => Or.elim hk_ (fun hs_ => hs_.2) (fun hn_ => (Kd.fresh' (Kd.R_lt HO_5.out) k_ hn_)))) (below_size HB.out)); replace HO_5 := Aside0.mk (Kd.R_below HO_5.out hb); replace HB := mSt HB hb; (try clear hb); (try clear ho0); obtain ⟨Ao21, co21, eo21⟩ := Kd.V_slice HO731.out; subst eo21))
    go_ret2
    exact ⟨_, rfl, by first | exact Kd.R_nil _ _ _ _ _ | exact Kd.N_nil _ _ _ _ _ | exact Kd.V_nil _ _ _ _ _ | exact Kd.Q_nil _ _ _ _ _ | exact Kd.S_nil _ _ _ _ _, HB.out⟩
   rw [if_neg c17] at H
   have c17b0 := decide_eq_false c17
   have c17b1 : decide (64 < t729.length) = false := decide_eq_false (by omega)
   clear c17
   obtain ⟨y732, hy732⟩ : ∃ y_ : List (S43), y_ = (([] : List (S43))) := ⟨_, rfl⟩
   rw [← hy732] at H
   have Ny732 := Aside0.mk hy732
   clear hy732
   obtain ⟨c22, H⟩ : (y732.length + t729.length < 3518437208883) ∧ _ := mIf H
   have LMc22 := Aside0.mk c22
   clear c22
   obtain ⟨y735, hy735⟩ : ∃ y_ : List (S43), y_ = (y732 ++ t729) := ⟨_, rfl⟩
   rw [← hy735] at H
   have Ny735 := Aside0.mk hy735
   clear hy735
   simp only [Option.some.injEq, Prod.mk.injEq] at H
   obtain ⟨rfl, rfl⟩ := H
   obtain ⟨Ao23, co23, eo23⟩ := Kd.R_slice HO_5.out
   subst eo23
   obtain ⟨Ao24, co24, eo24⟩ := Kd.S_slice HO_7.out
   subst eo24
   go_wp2_with (first | ((with_reducible refine gate_callee (f := 45) rfl ?_); refine goesL_ (some 37) rfl rfl Tryd.func45 (by kernel_rfl) rfl #[.slice Ao24 x7_1.length co24] rfl (mA1 rfl) ?_; (with_reducible refine (dancestudioref35_whole.calls k1 (fun k_ => (True ∧ some k_ ≠ (.slice Ao23 t718.length co23 : Value).ownBlock)) _ _ x7_1 t729 _ (Kd.S_V (Kd.S_apart' (HO_7.out) (Kd.R_typed HO_5.out) (by decide))) A16.out).mono ?_); rintro e w25 ⟨v730, rfl, ho0, hb⟩; refine ⟨_, rfl, ?_⟩; replace HO_7 := Aside0.mk (Kd.S_below HO_7.out hb); have HO731 := Aside0.mk (Kd.V_lower (Kd.V_mono (ok' := fun k_ => some k_ ≠ (.slice Ao23 t718.length co23 : Value).ownBlock) ho0 (fun k_ hk_ => Or.elim hk_ (fun hs_ => hs_.2) (fun hn_ => (Kd.fresh' (Kd.R_lt HO_5.out) k_ hn_)))) (below_size HB.out)); replace HO_5 := Aside0.mk (Kd.R_below HO_5.out hb); replace HB := mSt HB hb; (try clear hb); (try clear ho0); obtain ⟨Ao26, co26, eo26⟩ := Kd.V_slice HO731.out; subst eo26) | ((with_reducible refine gate_dst (N := 41) rfl ?_); refine Kd.R_lit k43 _ 43 ?hg (N := 41) ?hd (xs := ([] : List (S43))) (inner := []) (ok := fun _ => True) (okp := fun _ => True) ?hr ?hp (fun _ hk => hk) trivial (Below.refl _ _) (Nat.le_refl _) (by simp) ?_; (case hd => rfl); (case hg => rfl); (case hr => first | (go_simp; done) | (go_simp; rfl)); (case hp => exact (Reps.none _ _)); intro v733 w27 ho28 hb hg_ hnew_; clear hg_ hnew_; (first | rw [← Ny732.out] at ho28 | (simp only [Int.reduceToNat] at ho28; rw [← Ny732.out] at ho28)); replace HO_5 := Aside0.mk (Kd.R_below HO_5.out hb); replace HO_7 := Aside0.mk (Kd.S_elder' HO_7.out (Kd.R_base ho28) hb); replace HO731 := Aside0.mk (Kd.V_elder' HO731.out (Kd.R_base ho28) hb); have HO734 := Aside0.mk (Kd.R_lower ho28 (below_size HB.out)); replace HB := mSt HB hb; clear hb ho28) | ((with_reducible refine gate_builtin (b := .append) (xs := #[.tmp 41, .tmp 42]) rfl ?_); at_builtin; refine Kd.R_append_rows k43 (w0 := w) w.heap.size rfl (.tmp 41) (.tmp 42) 22 43 (.agg #[(.int .i64 0), (.string ⟨#[]⟩), (.int .i64 0), (.int .i64 0)]) 40 rfl Tryd.underlying22 info43 rfl (by decide) (by omega) v733 y732 t729 _ _ _ (fun _ => True) (fun _ => False) rfl rfl ?aO ?aR (fun _ _ h => h) (fun _ h => h.elim) ?aF ?aB ?aS ?aL ?_; (case aR => repeat (first | exact (Kd.V_reads' HO731.out).2.2 | (with_reducible refine Kd.C_alloc ?_ _) | (with_reducible refine Kd.C_drewN ?_ _) | (with_reducible refine Kd.C_drew ?_))); (case aB => exact HB.out); (case aF => exact (fun _ _ => trivial)); (case aO => exact HO734.out); (case aS => exact (below_size HB.out)); (case aL => have := LMc22.out; omega); intro v736 w29 ho hb hg hat; rw [← Ny735.out] at ho; replace HO_5 := Aside0.mk (Kd.R_over' HO_5.out (Kd.R_typed HO734.out) (by decide) hg); replace HO_7 := Aside0.mk (Kd.S_after (ok := (fun _ => True)) HO_7.out hg hat); replace HO731 := Aside0.mk (Kd.V_afterv (ok := (fun k_ => some k_ ≠ (.slice Ao23 t718.length co23 : Value).ownBlock)) HO731.out hg hat); replace HB := Aside0.mk hb; have HO737 := Aside0.mk ho; clear HO734; clear ho hb hg hat))
   go_ret2
   exact ⟨_, rfl, by exact HO737.out, HB.out⟩
end Go.Proofs.YtimikhbnihedkaaDoor.PAll
