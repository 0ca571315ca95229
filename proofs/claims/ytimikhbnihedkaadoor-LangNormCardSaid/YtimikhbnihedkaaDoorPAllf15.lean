-- Written by wip/tools/handprint.py: walks of the functions that the law reaches; Lean checks them.
import Derived.Test.YtimikhbnihedkaaDoorMC0
import Derived.Test.YtimikhbnihedkaaDoorPAllf33
namespace Go.Proofs.YtimikhbnihedkaaDoor.PAll
open Go.RowKit Go.Proofs.YtimikhbnihedkaaDoorW.PrintWords Go.Proofs.YtimikhbnihedkaaDoorW.PrintLast Go.Proofs.YtimikhbnihedkaaDoorW.PrintMore
attribute [local go_sem] max2_int min2_int max_two min_two max_three min_three max_four min_four   -- for this text's walks alone
set_option linter.unusedVariables false
set_option linter.unusedSimpArgs false

/-! ### dancestudioref35_Names: function 15 -/
def dancestudioref35_Names.l0 : Nat → List (S43) → List ByteArray → Int → Option (List ByteArray × Int)
 | 0, _, _, _ => none
 | k + 1, x0, x5, x6 => if x6 < (x0.length : Int) then (if 0 ≤ x6 then (if ((rd_T43 x0 x6).f0) = 1 then ((dancestudioref35_index.f k x5 ((rd_T43 x0 x6).f1)).bind fun t484 => (if t484 < 0 then (if x5.length < 8796093022208 then (dancestudioref35_Names.l0 k x0 (x5 ++ [(rd_T43 x0 x6).f1]) (wrap64 (x6 + 1))) else (none)) else (dancestudioref35_Names.l0 k x0 x5 (wrap64 (x6 + 1))))) else (dancestudioref35_Names.l0 k x0 x5 (wrap64 (x6 + 1)))) else (none)) else (some (x5, 0))
def dancestudioref35_Names.f (k : Nat) (l0 : List (S43)) : Option (List ByteArray × Int) := (dancestudioref35_Check.f k l0).bind fun t481 => (if t481 = 0 then (dancestudioref35_Names.l0 k l0 ([] : List ByteArray) 0) else (some (([] : List ByteArray), t481)))
set_option maxHeartbeats 8000000 in
set_option maxRecDepth 100000 in
theorem dancestudioref35_Names.calls (k : Nat) (A0 : Option Addr) (c0 : Nat) (l0 : List (S43)) (r1 : List ByteArray) (r2 : Int) (w : World) (hr0 : Kd.C k43 w A0 l0.length l0) (hc0 : l0.length ≤ c0) (h : dancestudioref35_Names.f k l0 = some (r1, r2)) :
  Calls Tryd.prog 15 #[.slice A0 l0.length c0] w fun e w' => ∃ v0_ : Value, e = .returned (.tuple #[v0_, .int .i64 r2]) ∧ Kd.R Kd.string 9 w' w.heap.size (fun _ => True) v0_ r1 ∧ Below w.heap.size w w' := by
 have HR0 := Aside0.mk hr0
 have HC0 := Aside0.mk hc0
 clear hr0 hc0
 have HB := Aside0.mk (Below.refl w.heap.size w)
 have H := h
 unfold dancestudioref35_Names.f at H
 clear h
 replace H := Option.bind_eq_some_iff.mp H
 obtain ⟨t481, A20, H⟩ := H
 try dsimp only at H
 have A2 := Aside0.mk A20
 clear A20
 by_cases c3 : t481 = 0
 rotate_left
 ·
  rw [if_neg c3] at H
  have c3b0 := beq_eq_false_iff_ne.mpr c3
  have c3b1 := bne_iff_ne.mpr c3
  simp only [Option.some.injEq, Prod.mk.injEq] at H
  obtain ⟨rfl, rfl⟩ := H
  go_enter Tryd.func15, Tryd.ntmps15
  go_wp2_with (first | ((with_reducible refine gate_callee (f := 17) rfl ?_); refine goesL_ (some 8) rfl rfl Tryd.func17 (by kernel_rfl) rfl #[.slice A0 l0.length c0] rfl (mA1 rfl) ?_; (with_reducible refine (dancestudioref35_Check.calls k _ _ l0 t481 _ HR0.out HC0.out A2.out).mono ?_); rintro e w14 ⟨rfl, hb⟩; refine ⟨_, rfl, ?_⟩; replace HB := mSt HB hb; (try clear hb)))
  go_ret2
  exact ⟨_, rfl, by first | exact Kd.R_nil _ _ _ _ _ | exact Kd.N_nil _ _ _ _ _ | exact Kd.V_nil _ _ _ _ _ | exact Kd.Q_nil _ _ _ _ _ | exact Kd.S_nil _ _ _ _ _, HB.out⟩
 rw [if_pos c3] at H
 have c3b0 := beq_iff_eq.mpr c3
 have c3b1 := bne_eq_false_iff_eq.mpr c3
 clear c3
 have H' := Aside0.mk H
 clear H
 go_enter Tryd.func15, Tryd.ntmps15
 go_wp2_with (first | ((with_reducible refine gate_callee (f := 17) rfl ?_); refine goesL_ (some 8) rfl rfl Tryd.func17 (by kernel_rfl) rfl #[.slice A0 l0.length c0] rfl (mA1 rfl) ?_; (with_reducible refine (dancestudioref35_Check.calls k _ _ l0 t481 _ HR0.out HC0.out A2.out).mono ?_); rintro e w4 ⟨rfl, hb⟩; refine ⟨_, rfl, ?_⟩; replace HB := mSt HB hb; (try clear hb)))
 go_loopg [5, 6] k (fun kq v5 v6 w' => ∃ (x5_1 : List ByteArray) (x6_1 : Int), v6 = .int .i64 x6_1 ∧ Aside0 (dancestudioref35_Names.l0 kq l0 x5_1 x6_1 = some (r1, r2)) ∧ Aside0 (kq ≤ k) ∧ Aside0 (Kd.R Kd.string 9 w' w.heap.size (fun _ => True) v5 x5_1) ∧ Aside0 (Below w.heap.size w w'))
 case atStart => exact ⟨(([] : List ByteArray)), (0), rfl, H', ⟨Nat.le_refl _⟩, ⟨by first | exact Kd.R_nil _ _ _ _ _ | exact Kd.N_nil _ _ _ _ _ | exact Kd.V_nil _ _ _ _ _ | exact Kd.Q_nil _ _ _ _ _ | exact Kd.S_nil _ _ _ _ _⟩, ⟨HB.out⟩⟩
 case round =>
  clear H'
  clear c3b0 c3b1
  obtain ⟨x5_1, x6_1, rfl, HA, HK1, HO_5, HB⟩ := hrel
  cases gk with
  | zero => exact absurd HA.out (by simp [dancestudioref35_Names.l0])
  | succ k1 =>
   have H := HA.out
   clear HA
   simp only [dancestudioref35_Names.l0] at H
   by_cases c5 : x6_1 < (l0.length : Int)
   rotate_left
   ·
    rw [if_neg c5] at H
    have c5b0 := decide_eq_false c5
    clear c5
    simp only [Option.some.injEq, Prod.mk.injEq] at H
    obtain ⟨rfl, rfl⟩ := H
    go_wp2
    go_ret2
    exact ⟨_, rfl, by exact HO_5.out, HB.out⟩
   rw [if_pos c5] at H
   have c5b0 := decide_eq_true c5
   clear c5
   obtain ⟨c6, H⟩ : (0 ≤ x6_1) ∧ _ := mIf H
   have c6b0 := decide_eq_true c6
   clear c6
   by_cases c7 : ((rd_T43 l0 x6_1).f0) = 1
   rotate_left
   ·
    rw [if_neg c7] at H
    have c7b0 := beq_eq_false_iff_ne.mpr c7
    have c7b1 := bne_iff_ne.mpr c7
    have H' := Aside0.mk H
    clear H
    have p482 : 0 ≤ (x6_1 : Int) := of_decide_eq_true (by assumption)
    have q482 : x6_1 < (l0.length : Int) := of_decide_eq_true (by assumption)
    obtain ⟨ad482, e482, hx482_0, hx482_1, hx482_2, hx482_3⟩ := at_T43 HR0.out x6_1 p482 q482
    cases e482
    replace hx482_0 := mHx HB hx482_0
    replace hx482_1 := mHx HB hx482_1
    replace hx482_2 := mHx HB hx482_2
    replace hx482_3 := mHx HB hx482_3
    replace p482 := eq_true p482
    replace q482 := eq_true q482
    go_wp2
    go_roundg k1
    case measure => have := HK1.out; omega
    case rel => exact ⟨(x5_1), (wrap64 (x6_1 + 1)), rfl, H', ⟨by have := HK1.out; omega⟩, HO_5, ⟨HB.out⟩⟩
   rw [if_pos c7] at H
   have c7b0 := beq_iff_eq.mpr c7
   have c7b1 := bne_eq_false_iff_eq.mpr c7
   clear c7
   replace H := Option.bind_eq_some_iff.mp H
   obtain ⟨t484, A80, H⟩ := H
   try dsimp only at H
   have A8 := Aside0.mk A80
   clear A80
   by_cases c9 : t484 < 0
   rotate_left
   ·
    rw [if_neg c9] at H
    have c9b0 := decide_eq_false c9
    clear c9
    have H' := Aside0.mk H
    clear H
    have p482 : 0 ≤ (x6_1 : Int) := of_decide_eq_true (by assumption)
    have q482 : x6_1 < (l0.length : Int) := of_decide_eq_true (by assumption)
    obtain ⟨ad482, e482, hx482_0, hx482_1, hx482_2, hx482_3⟩ := at_T43 HR0.out x6_1 p482 q482
    cases e482
    replace hx482_0 := mHx HB hx482_0
    replace hx482_1 := mHx HB hx482_1
    replace hx482_2 := mHx HB hx482_2
    replace hx482_3 := mHx HB hx482_3
    replace p482 := eq_true p482
    replace q482 := eq_true q482
    have p483 : 0 ≤ (x6_1 : Int) := of_decide_eq_true (by assumption)
    have q483 : x6_1 < (l0.length : Int) := of_decide_eq_true (by assumption)
    obtain ⟨ad483, e483, hx483_0, hx483_1, hx483_2, hx483_3⟩ := at_T43 HR0.out x6_1 p483 q483
    obtain rfl : ad482 = ad483 := (by injection e483)
    replace hx483_0 := mHx HB hx483_0
    replace hx483_1 := mHx HB hx483_1
    replace hx483_2 := mHx HB hx483_2
    replace hx483_3 := mHx HB hx483_3
    replace p483 := eq_true p483
    replace q483 := eq_true q483
    obtain ⟨Ao13, co13, eo13⟩ := Kd.R_slice HO_5.out
    subst eo13
    go_wp2_with (first | (go_at_call 33; (with_reducible refine (dancestudioref35_index.calls k1 _ _ x5_1 ((rd_T43 l0 x6_1).f1) t484 _ ((Kd.R_reads' HO_5.out).2.2) ((Kd.R_reads' HO_5.out).2.1) A8.out).mono ?_); rintro e w' ⟨rfl, ⟨nd, rfl⟩⟩))
    go_roundg k1
    case measure => have := HK1.out; omega
    case rel => exact ⟨(x5_1), (wrap64 (x6_1 + 1)), rfl, H', ⟨by have := HK1.out; omega⟩, HO_5, ⟨hO HB⟩⟩
   rw [if_pos c9] at H
   have c9b0 := decide_eq_true c9
   clear c9
   obtain ⟨c10, H⟩ : (x5_1.length < 8796093022208) ∧ _ := mIf H
   have LMc10 := Aside0.mk c10
   clear c10
   obtain ⟨y486, hy486⟩ : ∃ y_ : List ByteArray, y_ = (x5_1 ++ [(rd_T43 l0 x6_1).f1]) := ⟨_, rfl⟩
   rw [← hy486] at H
   have Ny486 := Aside0.mk hy486
   clear hy486
   have H' := Aside0.mk H
   clear H
   have p482 : 0 ≤ (x6_1 : Int) := of_decide_eq_true (by assumption)
   have q482 : x6_1 < (l0.length : Int) := of_decide_eq_true (by assumption)
   obtain ⟨ad482, e482, hx482_0, hx482_1, hx482_2, hx482_3⟩ := at_T43 HR0.out x6_1 p482 q482
   cases e482
   replace hx482_0 := mHx HB hx482_0
   replace hx482_1 := mHx HB hx482_1
   replace hx482_2 := mHx HB hx482_2
   replace hx482_3 := mHx HB hx482_3
   replace p482 := eq_true p482
   replace q482 := eq_true q482
   have p483 : 0 ≤ (x6_1 : Int) := of_decide_eq_true (by assumption)
   have q483 : x6_1 < (l0.length : Int) := of_decide_eq_true (by assumption)
   obtain ⟨ad483, e483, hx483_0, hx483_1, hx483_2, hx483_3⟩ := at_T43 HR0.out x6_1 p483 q483
   obtain rfl : ad482 = ad483 := (by injection e483)
   replace hx483_0 := mHx HB hx483_0
   replace hx483_1 := mHx HB hx483_1
   replace hx483_2 := mHx HB hx483_2
   replace hx483_3 := mHx HB hx483_3
   replace p483 := eq_true p483
   replace q483 := eq_true q483
   obtain ⟨Ao11, co11, eo11⟩ := Kd.R_slice HO_5.out
   subst eo11
   go_wp2_with (first | (go_at_call 33; (with_reducible refine (dancestudioref35_index.calls k1 _ _ x5_1 ((rd_T43 l0 x6_1).f1) t484 _ ((Kd.R_reads' HO_5.out).2.2) ((Kd.R_reads' HO_5.out).2.1) A8.out).mono ?_); rintro e w' ⟨rfl, ⟨nd, rfl⟩⟩; have p485 : 0 ≤ (x6_1 : Int) := of_decide_eq_true (by assumption); have q485 : x6_1 < (l0.length : Int) := of_decide_eq_true (by assumption); obtain ⟨ad485, e485, hx485_0, hx485_1, hx485_2, hx485_3⟩ := at_T43 HR0.out x6_1 p485 q485; obtain rfl : ad482 = ad485 := (by injection e485); replace hx485_0 := mHx HB hx485_0; replace hx485_1 := mHx HB hx485_1; replace hx485_2 := mHx HB hx485_2; replace hx485_3 := mHx HB hx485_3; replace p485 := eq_true p485; replace q485 := eq_true q485) | ((with_reducible refine gate_builtin (b := .append) (xs := #[.tmp 34, .tmp 40]) rfl ?_); at_builtin; refine Kd.R_append Kd.string (w0 := w) w.heap.size rfl (.tmp 34) (.tmp 40) 28 9 (.string ⟨#[]⟩) 16 rfl Tryd.underlying28 info9 rfl (by decide) (by omega) (.slice Ao11 x5_1.length co11) x5_1 ((rd_T43 l0 x6_1).f1) [.string ((rd_T43 l0 x6_1).f1)] (fun _ => True) (fun _ => False) rfl rfl ?aP (fun _ hk => hk.elim) ?aF ?aO ?aB ?aS ?aL ?_; (case aP => exact rfl); (case aB => exact (hO HB)); (case aF => exact (fun _ _ => trivial)); (case aO => exact (rO HO_5)); (case aS => exact (below_size (hO HB))); (case aL => have := LMc10.out; omega); intro v487 w12 ho hb hg hat; rw [← Ny486.out] at ho; replace HB := Aside0.mk hb; have HO488 := Aside0.mk ho; clear HO_5; clear ho hb hg hat))
   go_roundg k1
   case measure => have := HK1.out; omega
   case rel => exact ⟨(y486), (wrap64 (x6_1 + 1)), rfl, H', ⟨by have := HK1.out; omega⟩, HO488, ⟨HB.out⟩⟩
end Go.Proofs.YtimikhbnihedkaaDoor.PAll
