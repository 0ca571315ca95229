import Derived.Test.YtimikhbnihedkaaDoorZMC0
namespace Go.Proofs.YtimikhbnihedkaaDoor.PAll
open Go.RowKit Go.Proofs.YtimikhbnihedkaaDoorW.PrintWords Go.Proofs.YtimikhbnihedkaaDoorW.PrintLast Go.Proofs.YtimikhbnihedkaaDoorW.PrintMore
attribute [local go_sem] max2_int min2_int max_two min_two max_three min_three max_four min_four
set_option linter.unusedVariables false
set_option linter.unusedSimpArgs false

/-! ### dancestudioref35_turned: function 72 -/
def dancestudioref35_turned.l0 : Nat → List (S72) → List (S72) → Int → Option ((List (S72)))
 | 0, _, _, _ => none
 | k + 1, x0, x3, x4 => if x4 ≥ 0 then (if 0 ≤ x4 then (if x4 < (x0.length : Int) then (if x3.length < 3518437208883 then (dancestudioref35_turned.l0 k x0 (x3 ++ [(⟨(rd_T72 x0 x4).f0, (rd_T72 x0 x4).f1, (rd_T72 x0 x4).f2, (rd_T72 x0 x4).f3, (rd_T72 x0 x4).f4⟩ : S72)]) (wrap64 (x4 - 1))) else (none)) else (none)) else (none)) else (some x3)
def dancestudioref35_turned.f (k : Nat) (l0 : List (S72)) : Option ((List (S72))) := dancestudioref35_turned.l0 k l0 ([] : List (S72)) (wrap64 ((l0.length : Int) - 1))
set_option maxHeartbeats 8000000 in
set_option maxRecDepth 100000 in
theorem dancestudioref35_turned.calls (k : Nat) (A0 : Option Addr) (c0 : Nat) (l0 : List (S72)) (r : List (S72)) (w : World) (hr0 : Kd.C k72 w A0 l0.length l0) (hc0 : l0.length ≤ c0) (h : dancestudioref35_turned.f k l0 = some r) :
  Calls Tryd.prog 72 #[.slice A0 l0.length c0] w fun e w' => ∃ v0_ : Value, e = .returned (v0_) ∧ Kd.R k72 72 w' w.heap.size (fun _ => True) v0_ r ∧ Below w.heap.size w w' := by
 have hu72 := Tryd.underlying72
 have HR0 := Aside0.mk hr0
 have HC0 := Aside0.mk hc0
 clear hr0 hc0
 have HB := Aside0.mk (Below.refl w.heap.size w)
 have H := h
 unfold dancestudioref35_turned.f at H
 clear h
 have H' := Aside0.mk H
 clear H
 go_enter Tryd.func72, Tryd.ntmps72
 go_wp2
 go_loopg [3, 4] k (fun kq v3 v4 w' => ∃ (x3_1 : List (S72)) (x4_1 : Int), v4 = .int .i64 x4_1 ∧ Aside0 (dancestudioref35_turned.l0 kq l0 x3_1 x4_1 = some r) ∧ Aside0 (kq ≤ k) ∧ Aside0 (Kd.R k72 72 w' w.heap.size (fun _ => True) v3 x3_1) ∧ Aside0 (Below w.heap.size w w'))
 case atStart => exact ⟨(([] : List (S72))), (wrap64 ((l0.length : Int) - 1)), rfl, H', ⟨Nat.le_refl _⟩, ⟨by first | exact Kd.R_nil _ _ _ _ _ | exact Kd.N_nil _ _ _ _ _ | exact Kd.V_nil _ _ _ _ _ | exact Kd.Q_nil _ _ _ _ _ | exact Kd.S_nil _ _ _ _ _⟩, ⟨HB.out⟩⟩
 case round =>
  clear H'
  obtain ⟨x3_1, x4_1, rfl, HA, HK1, HO_3, HB⟩ := hrel
  cases gk with
  | zero => exact absurd HA.out (by simp [dancestudioref35_turned.l0])
  | succ k1 =>
   have H := HA.out
   clear HA
   simp only [dancestudioref35_turned.l0] at H
   by_cases c2 : x4_1 ≥ 0
   rotate_left
   ·
    rw [if_neg c2] at H
    have c2b0 := decide_eq_false c2
    clear c2
    obtain rfl := Option.some.inj H
    go_wp2
    go_ret
    exact ⟨_, rfl, by exact HO_3.out, HB.out⟩
   rw [if_pos c2] at H
   have c2b0 := decide_eq_true c2
   clear c2
   obtain ⟨c3, H⟩ : (0 ≤ x4_1) ∧ _ := mIf H
   have c3b0 := decide_eq_true c3
   clear c3
   obtain ⟨c4, H⟩ : (x4_1 < (l0.length : Int)) ∧ _ := mIf H
   have c4b0 := decide_eq_true c4
   clear c4
   obtain ⟨c5, H⟩ : (x3_1.length < 3518437208883) ∧ _ := mIf H
   have LMc5 := Aside0.mk c5
   clear c5
   obtain ⟨y626, hy626⟩ : ∃ y_ : List (S72), y_ = (x3_1 ++ [(⟨(rd_T72 l0 x4_1).f0, (rd_T72 l0 x4_1).f1, (rd_T72 l0 x4_1).f2, (rd_T72 l0 x4_1).f3, (rd_T72 l0 x4_1).f4⟩ : S72)]) := ⟨_, rfl⟩
   rw [← hy626] at H
   have Ny626 := Aside0.mk hy626
   clear hy626
   have H' := Aside0.mk H
   clear H
   have p625 : 0 ≤ (x4_1 : Int) := of_decide_eq_true (by assumption)
   have q625 : x4_1 < (l0.length : Int) := of_decide_eq_true (by assumption)
   obtain ⟨ad625, e625, hx625_0, hx625_1, hx625_2, hx625_3, hx625_4⟩ := at_T72 HR0.out x4_1 p625 q625
   cases e625
   replace hx625_0 := mHx HB hx625_0
   replace hx625_1 := mHx HB hx625_1
   replace hx625_2 := mHx HB hx625_2
   replace hx625_3 := mHx HB hx625_3
   replace hx625_4 := mHx HB hx625_4
   replace p625 := eq_true p625
   replace q625 := eq_true q625
   go_wp2_with (first | ((with_reducible refine gate_builtin (b := .append) (xs := #[.tmp 12, .tmp 17]) rfl ?_); at_builtin; refine Kd.R_append k72 (w0 := w) w.heap.size rfl (.tmp 12) (.tmp 17) 67 72 (.agg #[(.string ⟨#[]⟩), (.int .i64 0), (.bool false), (.bool false), (.int .i64 0)]) 40 rfl Tryd.underlying67 info72 rfl (by decide) (by omega) u3 x3_1 (⟨(rd_T72 l0 x4_1).f0, (rd_T72 l0 x4_1).f1, (rd_T72 l0 x4_1).f2, (rd_T72 l0 x4_1).f3, (rd_T72 l0 x4_1).f4⟩ : S72) [.string ((rd_T72 l0 x4_1).f0), .int .i64 ((rd_T72 l0 x4_1).f1), .bool ((rd_T72 l0 x4_1).f2), .bool ((rd_T72 l0 x4_1).f3), .int .i64 ((rd_T72 l0 x4_1).f4)] (fun _ => True) (fun _ => False) rfl rfl ?aP (fun _ hk => hk.elim) ?aF ?aO ?aB ?aS ?aL ?_; (case aP => exact k72_mkM _ _ _ (⟨(rd_T72 l0 x4_1).f0, (rd_T72 l0 x4_1).f1, (rd_T72 l0 x4_1).f2, (rd_T72 l0 x4_1).f3, (rd_T72 l0 x4_1).f4⟩ : S72)); (case aB => exact HB.out); (case aF => exact (fun _ _ => trivial)); (case aO => exact HO_3.out); (case aS => exact (below_size HB.out)); (case aL => have := LMc5.out; omega); intro v627 w6 ho hb hg hat; rw [← Ny626.out] at ho; replace HB := Aside0.mk hb; have HO628 := Aside0.mk ho; clear HO_3; clear ho hb hg hat))
   go_roundg k1
   case measure => have := HK1.out; omega
   case rel => exact ⟨(y626), (wrap64 (x4_1 - 1)), rfl, H', ⟨by have := HK1.out; omega⟩, HO628, ⟨HB.out⟩⟩
end Go.Proofs.YtimikhbnihedkaaDoor.PAll
