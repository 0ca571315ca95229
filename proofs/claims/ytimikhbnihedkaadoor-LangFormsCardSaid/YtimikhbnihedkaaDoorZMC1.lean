/- Texts of the proof, laid end to end. -/
import Derived.Test.YtimikhbnihedkaaDoorZMm
import Derived.Test.YtimikhbnihedkaaDoorZMC0
namespace Go.Proofs.YtimikhbnihedkaaDoor.PAll
open Go.RowKit Go.Proofs.YtimikhbnihedkaaDoorW.PrintWords Go.Proofs.YtimikhbnihedkaaDoorW.PrintLast Go.Proofs.YtimikhbnihedkaaDoorW.PrintMore
attribute [local go_sem] max2_int min2_int max_two min_two max_three min_three max_four min_four
set_option linter.unusedVariables false
set_option linter.unusedSimpArgs false
def lang_Names.l0 : Nat → List ByteArray → List (S43) → Int → Int → Option (List ByteArray × Int)
 | 0, _, _, _, _ => none
 | k + 1, x5, x13, x14, x15 => if x15 < x14 then (if 0 ≤ x15 then (if x15 < (x13.length : Int) then (if ((rd_T43 x13 x15).f0) = 1 then ((slices_Contains_string_string.f k x5 ((rd_T43 x13 x15).f1)).bind fun t155 => (if t155 = true then (lang_Names.l0 k x5 x13 x14 (wrap64 (x15 + 1))) else (if x5.length < 8796093022208 then (lang_Names.l0 k (x5 ++ [(rd_T43 x13 x15).f1]) x13 x14 (wrap64 (x15 + 1))) else (none)))) else (lang_Names.l0 k x5 x13 x14 (wrap64 (x15 + 1)))) else (none)) else (none)) else (some (x5, 0))
def lang_Names.f (k : Nat) (l0 : List (S43)) : Option (List ByteArray × Int) := (lang_Check.f k l0).bind fun t152 => (if t152 = 0 then (lang_Names.l0 k ([] : List ByteArray) l0 (l0.length : Int) 0) else (some (([] : List ByteArray), t152)))
set_option maxHeartbeats 8000000 in
set_option maxRecDepth 100000 in
theorem lang_Names.calls (k : Nat) (A0 : Option Addr) (c0 : Nat) (l0 : List (S43)) (r1 : List ByteArray) (r2 : Int) (w : World) (hr0 : Kd.C k43 w A0 l0.length l0) (hc0 : l0.length ≤ c0) (hmx : Mx w) (h : lang_Names.f k l0 = some (r1, r2)) :
  Calls Tryd.prog 14 #[.slice A0 l0.length c0] w fun e w' => ∃ v0_ : Value, e = .returned (.tuple #[v0_, .int .i64 r2]) ∧ Kd.R Kd.string 9 w' w.heap.size (fun _ => True) v0_ r1 ∧ Below w.heap.size w w' := by
 have HMX_ := Aside0.mk hmx
 clear hmx
 have hu43 := Tryd.underlying43
 have HR0 := Aside0.mk hr0
 have HC0 := Aside0.mk hc0
 clear hr0 hc0
 have HB := Aside0.mk (Below.refl w.heap.size w)
 have H := h
 unfold lang_Names.f at H
 clear h
 replace H := Option.bind_eq_some_iff.mp H
 obtain ⟨t152, A20, H⟩ := H
 try dsimp only at H
 have A2 := Aside0.mk A20
 clear A20
 by_cases c3 : t152 = 0
 rotate_left
 ·
  rw [if_neg c3] at H
  have c3b0 := beq_eq_false_iff_ne.mpr c3
  have c3b1 := bne_iff_ne.mpr c3
  simp only [Option.some.injEq, Prod.mk.injEq] at H
  obtain ⟨rfl, rfl⟩ := H
  go_enter Tryd.func14, Tryd.ntmps14
  go_wp2_with (first | ((with_reducible refine gate_callee (f := 16) rfl ?_); refine goesL_ (some 9) rfl rfl Tryd.func16 (by kernel_rfl) rfl #[.slice A0 l0.length c0] rfl (mA1 rfl) ?_; (with_reducible refine (lang_Check.calls k _ _ l0 t152 _ HR0.out HC0.out (Mx.below HMX_.out HB.out) A2.out).mono ?_); rintro e w21 ⟨rfl, hb⟩; refine ⟨_, rfl, ?_⟩; replace HB := mSt HB hb; (try clear hb)))
  go_ret2
  exact ⟨_, rfl, by first | exact Kd.R_nil _ _ _ _ _ | exact Kd.N_nil _ _ _ _ _ | exact Kd.V_nil _ _ _ _ _ | exact Kd.Q_nil _ _ _ _ _ | exact Kd.S_nil _ _ _ _ _, HB.out⟩
 rw [if_pos c3] at H
 have c3b0 := beq_iff_eq.mpr c3
 have c3b1 := bne_eq_false_iff_eq.mpr c3
 clear c3
 have H' := Aside0.mk H
 clear H
 go_enter Tryd.func14, Tryd.ntmps14
 go_wp2_with (first | ((with_reducible refine gate_callee (f := 16) rfl ?_); refine goesL_ (some 9) rfl rfl Tryd.func16 (by kernel_rfl) rfl #[.slice A0 l0.length c0] rfl (mA1 rfl) ?_; (with_reducible refine (lang_Check.calls k _ _ l0 t152 _ HR0.out HC0.out (Mx.below HMX_.out HB.out) A2.out).mono ?_); rintro e w4 ⟨rfl, hb⟩; refine ⟨_, rfl, ?_⟩; replace HB := mSt HB hb; (try clear hb)))
 go_loopg [5, 15] k (fun kq v5 v15 w' => ∃ (x5_1 : List ByteArray) (x15_1 : Int), v15 = .int .i64 x15_1 ∧ Aside0 (lang_Names.l0 kq x5_1 l0 (l0.length : Int) x15_1 = some (r1, r2)) ∧ Aside0 (kq ≤ k) ∧ Aside0 (Kd.R Kd.string 9 w' w.heap.size (fun _ => True) v5 x5_1) ∧ Aside0 (Below w.heap.size w w'))
 case atStart => exact ⟨(([] : List ByteArray)), (0), rfl, H', ⟨Nat.le_refl _⟩, ⟨by first | exact Kd.R_nil _ _ _ _ _ | exact Kd.N_nil _ _ _ _ _ | exact Kd.V_nil _ _ _ _ _ | exact Kd.Q_nil _ _ _ _ _ | exact Kd.S_nil _ _ _ _ _⟩, ⟨HB.out⟩⟩
 case round =>
  clear H' c3b0 c3b1
  obtain ⟨x5_1, x15_1, rfl, HA, HK1, HO_5, HB⟩ := hrel
  cases gk with
  | zero => exact absurd HA.out (by simp [lang_Names.l0])
  | succ k1 =>
   have H := HA.out
   clear HA
   simp only [lang_Names.l0] at H
   by_cases c5 : x15_1 < (l0.length : Int)
   rotate_left
   ·
    rw [if_neg c5] at H
    have c5b0 := decide_eq_false c5
    clear c5
    simp only [Option.some.injEq, Prod.mk.injEq] at H
    obtain ⟨rfl, rfl⟩ := H
    go_wp2
    go_ret2
    exact ⟨_, rfl, by exact HO_5.out, HB.out⟩
   rw [if_pos c5] at H
   have c5b0 := decide_eq_true c5
   clear c5
   obtain ⟨c6, H⟩ : (0 ≤ x15_1) ∧ _ := mIf H
   have c6b0 := decide_eq_true c6
   clear c6
   obtain ⟨c7, H⟩ : (x15_1 < (l0.length : Int)) ∧ _ := mIf H
   have c7b0 := decide_eq_true c7
   clear c7
   by_cases c8 : ((rd_T43 l0 x15_1).f0) = 1
   rotate_left
   ·
    rw [if_neg c8] at H
    have c8b0 := beq_eq_false_iff_ne.mpr c8
    have c8b1 := bne_iff_ne.mpr c8
    have H' := Aside0.mk H
    clear H
    have p153 : 0 ≤ (x15_1 : Int) := of_decide_eq_true (by assumption)
    have q153 : x15_1 < (l0.length : Int) := of_decide_eq_true (by assumption)
    obtain ⟨ad153, e153, hx153_0, hx153_1, hx153_2, hx153_3⟩ := at_T43 HR0.out x15_1 p153 q153
    cases e153
    replace hx153_0 := mHx HB hx153_0
    replace hx153_1 := mHx HB hx153_1
    replace hx153_2 := mHx HB hx153_2
    replace hx153_3 := mHx HB hx153_3
    replace p153 := eq_true p153
    replace q153 := eq_true q153
    go_wp2_with (first | ((with_reducible refine gate_dst (N := 7) rfl ?_); refine box_event rfl (N := 7) rfl (cs := #[.int .i64 0, .string (⟨#[]⟩ : ByteArray), .int .i64 0, .int .i64 0]) (t := 43) (by first | (go_simp; done) | (go_simp; rfl)) ?_; intro gb1 hg w19 hbox hb; replace HO_5 := Aside0.mk (Kd.R_below HO_5.out hb); have BK1 := Aside0.mk hbox; have GW1 := mGw HB hg; have GE1 := GW1; replace HB := mSt HB hb; clear hb hbox hg; have hcz20 := blk_cell BK1.out; have hfz20 := blk_frozen BK1.out))
    go_roundg k1
    case measure => have := HK1.out; omega
    case rel => exact ⟨(x5_1), (wrap64 (x15_1 + 1)), rfl, H', ⟨by have := HK1.out; omega⟩, ⟨Kd.R_mono (Kd.R_far (p := ⟨gb1, 3, none⟩) (Kd.R_far (p := ⟨gb1, 2, none⟩) (Kd.R_far (p := ⟨gb1, 1, none⟩) (Kd.R_far (p := ⟨gb1, 0, none⟩) (Kd.R_types HO_5.out BK1.out (by decide)) (fun _ hk => hk.2) (.int .i64 ((rd_T43 l0 x15_1).f0))) (fun _ hk => hk.2) (.string ((rd_T43 l0 x15_1).f1))) (fun _ hk => hk.2) (.int .i64 ((rd_T43 l0 x15_1).f2))) (fun _ hk => hk.2) (.int .i64 ((rd_T43 l0 x15_1).f3))) (fun _ hk => trivial)⟩, ⟨hO HB⟩⟩
   rw [if_pos c8] at H
   have c8b0 := beq_iff_eq.mpr c8
   have c8b1 := bne_eq_false_iff_eq.mpr c8
   clear c8
   replace H := Option.bind_eq_some_iff.mp H
   obtain ⟨t155, A90, H⟩ := H
   try dsimp only at H
   have A9 := Aside0.mk A90
   clear A90
   by_cases c10 : t155 = true
   ·
    subst c10
    rw [if_pos rfl] at H
    have H' := Aside0.mk H
    clear H
    have p153 : 0 ≤ (x15_1 : Int) := of_decide_eq_true (by assumption)
    have q153 : x15_1 < (l0.length : Int) := of_decide_eq_true (by assumption)
    obtain ⟨ad153, e153, hx153_0, hx153_1, hx153_2, hx153_3⟩ := at_T43 HR0.out x15_1 p153 q153
    cases e153
    replace hx153_0 := mHx HB hx153_0
    replace hx153_1 := mHx HB hx153_1
    replace hx153_2 := mHx HB hx153_2
    replace hx153_3 := mHx HB hx153_3
    replace p153 := eq_true p153
    replace q153 := eq_true q153
    go_wp2_with (first | ((with_reducible refine gate_dst (N := 7) rfl ?_); refine box_event rfl (N := 7) rfl (cs := #[.int .i64 0, .string (⟨#[]⟩ : ByteArray), .int .i64 0, .int .i64 0]) (t := 43) (by first | (go_simp; done) | (go_simp; rfl)) ?_; intro gb1 hg w11 hbox hb; replace HO_5 := Aside0.mk (Kd.R_below HO_5.out hb); have BK1 := Aside0.mk hbox; have GW1 := mGw HB hg; have GE1 := GW1; replace HB := mSt HB hb; clear hb hbox hg; have hcz12 := blk_cell BK1.out; have hfz12 := blk_frozen BK1.out; obtain ⟨Ao13, co13, eo13⟩ := Kd.R_slice HO_5.out; subst eo13) | (go_at_call 32; (with_reducible refine (slices_Contains_string_string.calls k1 _ _ x5_1 ((rd_T43 l0 x15_1).f1) true _ ?side1 ?side2 A9.out).mono ?_); (case side1 => refine (Kd.R_reads' (e := 9) (base := w.heap.size) (ok := fun k_ => True) (n := x5_1.length) (c := co13) ?_).2.2; exact (by exact (Kd.R_mono (Kd.R_far (p := ⟨gb1, 3, none⟩) (Kd.R_far (p := ⟨gb1, 2, none⟩) (Kd.R_far (p := ⟨gb1, 1, none⟩) (Kd.R_far (p := ⟨gb1, 0, none⟩) (Kd.R_types HO_5.out BK1.out (by decide)) (fun _ hk => hk.2) (.int .i64 ((rd_T43 l0 x15_1).f0))) (fun _ hk => hk.2) (.string ((rd_T43 l0 x15_1).f1))) (fun _ hk => hk.2) (.int .i64 ((rd_T43 l0 x15_1).f2))) (fun _ hk => hk.2) (.int .i64 ((rd_T43 l0 x15_1).f3))) (fun _ h_ => h_.1)))); (case side2 => exact (Kd.R_reads' HO_5.out).2.1); rintro e w' ⟨rfl, ⟨nd, rfl⟩⟩))
    go_roundg k1
    case measure => have := HK1.out; omega
    case rel => exact ⟨(x5_1), (wrap64 (x15_1 + 1)), rfl, H', ⟨by have := HK1.out; omega⟩, ⟨Kd.R_mono (Kd.R_far (p := ⟨gb1, 3, none⟩) (Kd.R_far (p := ⟨gb1, 2, none⟩) (Kd.R_far (p := ⟨gb1, 1, none⟩) (Kd.R_far (p := ⟨gb1, 0, none⟩) (Kd.R_types HO_5.out BK1.out (by decide)) (fun _ hk => hk.2) (.int .i64 ((rd_T43 l0 x15_1).f0))) (fun _ hk => hk.2) (.string ((rd_T43 l0 x15_1).f1))) (fun _ hk => hk.2) (.int .i64 ((rd_T43 l0 x15_1).f2))) (fun _ hk => hk.2) (.int .i64 ((rd_T43 l0 x15_1).f3))) (fun _ hk => trivial)⟩, ⟨hO HB⟩⟩
   replace c10 := Bool.eq_false_iff.mpr c10
   subst c10
   rw [if_neg (show ¬ (false = true) by decide)] at H
   obtain ⟨c14, H⟩ : (x5_1.length < 8796093022208) ∧ _ := mIf H
   have LMc14 := Aside0.mk c14
   clear c14
   obtain ⟨y156, hy156⟩ : ∃ y_ : List ByteArray, y_ = (x5_1 ++ [(rd_T43 l0 x15_1).f1]) := ⟨_, rfl⟩
   rw [← hy156] at H
   have Ny156 := Aside0.mk hy156
   clear hy156
   have H' := Aside0.mk H
   clear H
   have p153 : 0 ≤ (x15_1 : Int) := of_decide_eq_true (by assumption)
   have q153 : x15_1 < (l0.length : Int) := of_decide_eq_true (by assumption)
   obtain ⟨ad153, e153, hx153_0, hx153_1, hx153_2, hx153_3⟩ := at_T43 HR0.out x15_1 p153 q153
   cases e153
   replace hx153_0 := mHx HB hx153_0
   replace hx153_1 := mHx HB hx153_1
   replace hx153_2 := mHx HB hx153_2
   replace hx153_3 := mHx HB hx153_3
   replace p153 := eq_true p153
   replace q153 := eq_true q153
   go_wp2_with (first | ((with_reducible refine gate_dst (N := 7) rfl ?_); refine box_event rfl (N := 7) rfl (cs := #[.int .i64 0, .string (⟨#[]⟩ : ByteArray), .int .i64 0, .int .i64 0]) (t := 43) (by first | (go_simp; done) | (go_simp; rfl)) ?_; intro gb1 hg w15 hbox hb; replace HO_5 := Aside0.mk (Kd.R_below (rO HO_5) hb); have BK1 := Aside0.mk hbox; have GW1 := Aside0.mk ((by rw [hg]; exact (below_size (hO HB)) : w.heap.size ≤ gb1)); have GE1 := GW1; replace HB := mSx HB hb; clear hb hbox hg; have hcz16 := blk_cell BK1.out; have hfz16 := blk_frozen BK1.out; obtain ⟨Ao17, co17, eo17⟩ := Kd.R_slice HO_5.out; subst eo17) | (go_at_call 32; (with_reducible refine (slices_Contains_string_string.calls k1 _ _ x5_1 ((rd_T43 l0 x15_1).f1) false _ ?side1 ?side2 A9.out).mono ?_); (case side1 => refine (Kd.R_reads' (e := 9) (base := w.heap.size) (ok := fun k_ => True) (n := x5_1.length) (c := co17) ?_).2.2; exact (by exact (Kd.R_mono (Kd.R_far (p := ⟨gb1, 3, none⟩) (Kd.R_far (p := ⟨gb1, 2, none⟩) (Kd.R_far (p := ⟨gb1, 1, none⟩) (Kd.R_far (p := ⟨gb1, 0, none⟩) (Kd.R_types HO_5.out BK1.out (by decide)) (fun _ hk => hk.2) (.int .i64 ((rd_T43 l0 x15_1).f0))) (fun _ hk => hk.2) (.string ((rd_T43 l0 x15_1).f1))) (fun _ hk => hk.2) (.int .i64 ((rd_T43 l0 x15_1).f2))) (fun _ hk => hk.2) (.int .i64 ((rd_T43 l0 x15_1).f3))) (fun _ h_ => h_.1)))); (case side2 => exact (Kd.R_reads' HO_5.out).2.1); rintro e w' ⟨rfl, ⟨nd, rfl⟩⟩) | ((with_reducible refine gate_builtin (b := .append) (xs := #[.tmp 29, .tmp 32]) rfl ?_); at_builtin; refine Kd.R_append Kd.string (w0 := w) w.heap.size rfl (.tmp 29) (.tmp 32) 28 9 (.string ⟨#[]⟩) 16 rfl Tryd.underlying28 info9 rfl (by decide) (by omega) (.slice Ao17 x5_1.length co17) x5_1 ((rd_T43 l0 x15_1).f1) [.string ((rd_T43 l0 x15_1).f1)] (fun _ => True) (fun _ => False) rfl (by first | (go_simp; done) | (go_simp; rfl)) ?aP (fun _ hk => hk.elim) ?aF ?aO ?aB ?aS ?aL ?_; (case aP => exact rfl); (case aB => exact (hO HB)); (case aF => exact (fun _ _ => trivial)); (case aO => exact (by exact Kd.R_mono (Kd.R_far (p := ⟨gb1, 3, none⟩) (Kd.R_far (p := ⟨gb1, 2, none⟩) (Kd.R_far (p := ⟨gb1, 1, none⟩) (Kd.R_far (p := ⟨gb1, 0, none⟩) (Kd.R_types HO_5.out BK1.out (by decide)) (fun _ hk => hk.2) (.int .i64 ((rd_T43 l0 x15_1).f0))) (fun _ hk => hk.2) (.string ((rd_T43 l0 x15_1).f1))) (fun _ hk => hk.2) (.int .i64 ((rd_T43 l0 x15_1).f2))) (fun _ hk => hk.2) (.int .i64 ((rd_T43 l0 x15_1).f3))) (fun _ hk => trivial))); (case aS => exact (below_size (hO HB))); (case aL => have := LMc14.out; omega); intro v157 w18 ho hb hg hat; rw [← Ny156.out] at ho; replace BK1 := Aside0.mk (blk_grown (g := gb1) (o := .cells #[.int .i64 ((rd_T43 l0 x15_1).f0), .string ((rd_T43 l0 x15_1).f1), .int .i64 ((rd_T43 l0 x15_1).f2), .int .i64 ((rd_T43 l0 x15_1).f3)] 43 (0, 0)) (by refine blk_put (cs := #[.int .i64 ((rd_T43 l0 x15_1).f0), .string ((rd_T43 l0 x15_1).f1), .int .i64 ((rd_T43 l0 x15_1).f2), .int .i64 0]) ?_ 3 _ rfl; refine blk_put (cs := #[.int .i64 ((rd_T43 l0 x15_1).f0), .string ((rd_T43 l0 x15_1).f1), .int .i64 0, .int .i64 0]) ?_ 2 _ rfl; refine blk_put (cs := #[.int .i64 ((rd_T43 l0 x15_1).f0), .string (⟨#[]⟩ : ByteArray), .int .i64 0, .int .i64 0]) ?_ 1 _ rfl; refine blk_put (cs := #[.int .i64 0, .string (⟨#[]⟩ : ByteArray), .int .i64 0, .int .i64 0]) ?_ 0 _ rfl; exact BK1.out) hg (Kd.R_ne HO_5.out BK1.out (by decide))); replace HB := Aside0.mk hb; have HO158 := Aside0.mk ho; clear HO_5; clear ho hb hg hat))
   go_roundg k1
   case measure => have := HK1.out; omega
   case rel => exact ⟨(y156), (wrap64 (x15_1 + 1)), rfl, H', ⟨by have := HK1.out; omega⟩, HO158, ⟨HB.out⟩⟩
def dancestudioref35_Words.l0 : Nat → List ByteArray → List ByteArray → Int → Option (Bool)
 | 0, _, _, _ => none
 | k + 1, x0, x1, x5 => if x5 < (x0.length : Int) then (if 0 ≤ x5 then (if x5 < (x1.length : Int) then (if (rdOf ByteArray.empty x0 x5).toList = (rdOf ByteArray.empty x1 x5).toList then (dancestudioref35_Words.l0 k x0 x1 (wrap64 (x5 + 1))) else (some false)) else (none)) else (none)) else (some true)
def dancestudioref35_Words.f (k : Nat) (l0 : List ByteArray) (l1 : List ByteArray) : Option (Bool) := if (l0.length : Int) = (l1.length : Int) then (dancestudioref35_Words.l0 k l0 l1 0) else (some false)
set_option maxHeartbeats 8000000 in
set_option maxRecDepth 100000 in
theorem dancestudioref35_Words.calls (k : Nat) (A0 : Option Addr) (c0 : Nat) (l0 : List ByteArray) (A1 : Option Addr) (c1 : Nat) (l1 : List ByteArray) (r : Bool) (w : World) (hr0 : Kd.C Kd.string w A0 l0.length l0) (hc0 : l0.length ≤ c0) (hr1 : Kd.C Kd.string w A1 l1.length l1) (hc1 : l1.length ≤ c1) (h : dancestudioref35_Words.f k l0 l1 = some r) :
  Calls Tryd.prog 18 #[.slice A0 l0.length c0, .slice A1 l1.length c1] w fun e w' => e = .returned (.bool r) ∧ Drawn0 w w' := by
 have HR0 := Aside0.mk hr0
 have HC0 := Aside0.mk hc0
 clear hr0 hc0
 have HR1 := Aside0.mk hr1
 have HC1 := Aside0.mk hc1
 clear hr1 hc1
 have H := h
 unfold dancestudioref35_Words.f at H
 clear h
 by_cases c3 : (l0.length : Int) = (l1.length : Int)
 rotate_left
 ·
  rw [if_neg c3] at H
  have c3b0 := beq_eq_false_iff_ne.mpr c3
  have c3b1 := bne_iff_ne.mpr c3
  have c3b2 : (l0.length == l1.length) = false := by first | simpa using c3 | (simp at c3 ⊢; omega)
  obtain rfl := Option.some.inj H
  go_enter Tryd.func18, Tryd.ntmps18
  go_wp2
  repeat (go_quiet (fail); try go_wp2)
  go_ret
  exact ⟨by first | rfl | (simp; done) | (simp [*]; done), by repeat (first | exact Drawn0.refl _ | apply Drawn0.step)⟩
 rw [if_pos c3] at H
 have c3b0 := beq_iff_eq.mpr c3
 have c3b1 := bne_eq_false_iff_eq.mpr c3
 have c3b2 : (l0.length == l1.length) = true := by first | simpa using c3 | (simp at c3 ⊢; omega)
 clear c3
 have H' := Aside0.mk H
 clear H
 go_enter Tryd.func18, Tryd.ntmps18
 go_wp2
 repeat (go_quiet (fail); try go_wp2)
 go_loopg [5] k (fun kq v5 w' => ∃ (x5_1 : Int), v5 = .int .i64 x5_1 ∧ Aside0 (dancestudioref35_Words.l0 kq l0 l1 x5_1 = some r) ∧ Aside0 (kq ≤ k) ∧ Drawn0 w w')
 case atStart => exact ⟨(0), rfl, H', ⟨Nat.le_refl _⟩, by repeat (first | exact Drawn0.refl _ | apply Drawn0.step)⟩
 case round =>
  clear H' c3b0 c3b1 c3b2
  obtain ⟨x5_1, rfl, HA, HK1, ⟨m1, rfl⟩⟩ := hrel
  cases gk with
  | zero => exact absurd HA.out (by simp [dancestudioref35_Words.l0])
  | succ k1 =>
   have H := HA.out
   clear HA
   simp only [dancestudioref35_Words.l0] at H
   by_cases c4 : x5_1 < (l0.length : Int)
   rotate_left
   ·
    rw [if_neg c4] at H
    have c4b0 := decide_eq_false c4
    clear c4
    obtain rfl := Option.some.inj H
    go_wp2
    repeat (go_quiet (fail); try go_wp2)
    go_ret
    exact ⟨by first | rfl | (simp; done) | (simp [*]; done), by repeat (first | exact Drawn0.refl _ | apply Drawn0.step)⟩
   rw [if_pos c4] at H
   have c4b0 := decide_eq_true c4
   clear c4
   obtain ⟨c5, H⟩ : (0 ≤ x5_1) ∧ _ := mIf H
   have c5b0 := decide_eq_true c5
   clear c5
   obtain ⟨c6, H⟩ : (x5_1 < (l1.length : Int)) ∧ _ := mIf H
   have c6b0 := decide_eq_true c6
   clear c6
   by_cases c7 : (rdOf ByteArray.empty l0 x5_1).toList = (rdOf ByteArray.empty l1 x5_1).toList
   rotate_left
   ·
    rw [if_neg c7] at H
    have c7b0 := beq_eq_false_iff_ne.mpr c7
    have c7b1 := bne_iff_ne.mpr c7
    obtain rfl := Option.some.inj H
    have p159 : 0 ≤ (x5_1 : Int) := of_decide_eq_true (by assumption)
    have q159 : x5_1 < (l0.length : Int) := of_decide_eq_true (by assumption)
    obtain ⟨ad159, e159, hx159_0⟩ := Kd.at_string HR0.out x5_1 p159 q159
    cases e159
    replace p159 := eq_true p159
    replace q159 := eq_true q159
    have p160 : 0 ≤ (x5_1 : Int) := of_decide_eq_true (by assumption)
    have q160 : x5_1 < (l1.length : Int) := of_decide_eq_true (by assumption)
    obtain ⟨ad160, e160, hx160_0⟩ := Kd.at_string HR1.out x5_1 p160 q160
    cases e160
    replace p160 := eq_true p160
    replace q160 := eq_true q160
    go_wp2
    repeat (go_quiet (fail); try go_wp2)
    go_ret
    exact ⟨by first | rfl | (simp; done) | (simp [*]; done), by repeat (first | exact Drawn0.refl _ | apply Drawn0.step)⟩
   rw [if_pos c7] at H
   have c7b0 := beq_iff_eq.mpr c7
   have c7b1 := bne_eq_false_iff_eq.mpr c7
   clear c7
   have H' := Aside0.mk H
   clear H
   have p159 : 0 ≤ (x5_1 : Int) := of_decide_eq_true (by assumption)
   have q159 : x5_1 < (l0.length : Int) := of_decide_eq_true (by assumption)
   obtain ⟨ad159, e159, hx159_0⟩ := Kd.at_string HR0.out x5_1 p159 q159
   cases e159
   replace p159 := eq_true p159
   replace q159 := eq_true q159
   have p160 : 0 ≤ (x5_1 : Int) := of_decide_eq_true (by assumption)
   have q160 : x5_1 < (l1.length : Int) := of_decide_eq_true (by assumption)
   obtain ⟨ad160, e160, hx160_0⟩ := Kd.at_string HR1.out x5_1 p160 q160
   cases e160
   replace p160 := eq_true p160
   replace q160 := eq_true q160
   go_wp2
   repeat (go_quiet (fail); try go_wp2)
   go_roundg k1
   case measure => have := HK1.out; omega
   case rel => exact ⟨(wrap64 (x5_1 + 1)), rfl, H', ⟨by have := HK1.out; omega⟩, by repeat (first | exact Drawn0.refl _ | apply Drawn0.step)⟩
end Go.Proofs.YtimikhbnihedkaaDoor.PAll
namespace Go.Proofs.YtimikhbnihedkaaDoor.PAll
open Go.RowKit Go.Proofs.YtimikhbnihedkaaDoorW.PrintWords Go.Proofs.YtimikhbnihedkaaDoorW.PrintLast Go.Proofs.YtimikhbnihedkaaDoorW.PrintMore
attribute [local go_sem] max2_int min2_int max_two min_two max_three min_three max_four min_four
set_option linter.unusedVariables false
set_option linter.unusedSimpArgs false

theorem eqA43 (d : Nat) (w : World) (x0 y0 : Int) (x1 y1 : ByteArray) (x2 y2 : Int) (x3 y3 : Int) :
    (Op.equalIn (d + 2) 43 (.agg #[.int .i64 x0, .string x1, .int .i64 x2, .int .i64 x3]) (.agg #[.int .i64 y0, .string y1, .int .i64 y2, .int .i64 y3])).run Tryd.prog w = .ok (x0 == y0 && (x1.toList == y1.toList && (x2 == y2 && (x3 == y3)))) w := by
  refine eqA_of Tryd.underlying43 (by kernel_rfl) ?_
  refine eqf_cons (by rfl) (by go_simp; rfl) (by go_simp; rfl) (by go_simp) ?_
  refine eqf_cons (by rfl) (by go_simp; rfl) (by go_simp; rfl) (by go_simp) ?_
  refine eqf_cons (by rfl) (by go_simp; rfl) (by go_simp; rfl) (by go_simp) ?_
  exact eqf_last (by rfl) (by go_simp; rfl) (by go_simp; rfl) (by go_simp)
end Go.Proofs.YtimikhbnihedkaaDoor.PAll
namespace Go.Proofs.YtimikhbnihedkaaDoor.PAll
open Go.RowKit Go.Proofs.YtimikhbnihedkaaDoorW.PrintWords Go.Proofs.YtimikhbnihedkaaDoorW.PrintLast Go.Proofs.YtimikhbnihedkaaDoorW.PrintMore
attribute [local go_sem] max2_int min2_int max_two min_two max_three min_three max_four min_four
set_option linter.unusedVariables false
set_option linter.unusedSimpArgs false
def lang_tree.l0 : Nat → List (S43) → List (List (S43)) → Int → Int → Option ((List (S43)))
 | 0, _, _, _, _ => none
 | k + 1, x5, x13, x14, x15 => if x15 < x14 then (if 0 ≤ x15 then (if x15 < (x13.length : Int) then (if x5.length + (rd_L3 x13 x15).length < 3518437208883 then (lang_tree.l0 k (x5 ++ (rd_L3 x13 x15)) x13 x14 (wrap64 (x15 + 1))) else (none)) else (none)) else (none)) else (some x5)
def lang_tree.f (k : Nat) (a0_0 : Int) (a0_1 : ByteArray) (a0_2 : Int) (a0_3 : Int) (l1 : List (List (S43))) : Option ((List (S43))) := lang_tree.l0 k (([(⟨a0_0, a0_1, a0_2, (l1.length : Int)⟩ : S43)] : List (S43))) l1 (l1.length : Int) 0
set_option maxHeartbeats 8000000 in
set_option maxRecDepth 100000 in
theorem lang_tree.calls (k : Nat) (a0_0 : Int) (a0_1 : ByteArray) (a0_2 : Int) (a0_3 : Int) (A1 : Option Addr) (c1 : Nat) (l1 : List (List (S43))) (r : List (S43)) (w : World) (hr1 : Kd.C (Kd.slice 43 k43) w A1 l1.length l1) (hc1 : l1.length ≤ c1) (h : lang_tree.f k a0_0 a0_1 a0_2 a0_3 l1 = some r) :
  Calls Tryd.prog 71 #[.agg #[.int .i64 a0_0, .string a0_1, .int .i64 a0_2, .int .i64 a0_3], .slice A1 l1.length c1] w fun e w' => ∃ v0_ : Value, e = .returned (v0_) ∧ Kd.R k43 43 w' w.heap.size (fun _ => True) v0_ r ∧ Below w.heap.size w w' := by
 have hu43 := Tryd.underlying43
 have HR1 := Aside0.mk hr1
 have HC1 := Aside0.mk hc1
 clear hr1 hc1
 have HB := Aside0.mk (Below.refl w.heap.size w)
 have H := h
 unfold lang_tree.f at H
 clear h
 obtain ⟨y162, hy162⟩ : ∃ y_ : List (S43), y_ = (([(⟨a0_0, a0_1, a0_2, (l1.length : Int)⟩ : S43)] : List (S43))) := ⟨_, rfl⟩
 rw [← hy162] at H
 have Ny162 := Aside0.mk hy162
 clear hy162
 have H' := Aside0.mk H
 clear H
 go_enter Tryd.func71, Tryd.ntmps71
 go_wp2_with (first | ((with_reducible refine gate_dst (N := 2) rfl ?_); refine box_event rfl (N := 2) rfl (cs := #[.int .i64 a0_0, .string a0_1, .int .i64 a0_2, .int .i64 a0_3]) (t := 43) (by first | (go_simp; done) | (go_simp; rfl)) ?_; intro gb1 hg w3 hbox hb; have BK1 := Aside0.mk hbox; have GW1 := Aside0.mk ((by rw [hg]; exact (below_size (hO HB)) : w.heap.size ≤ gb1)); have GE1 := GW1; replace HB := mSx HB hb; clear hb hbox hg; have hcz4 := blk_cell BK1.out; have hfz4 := blk_frozen BK1.out) | ((with_reducible refine gate_dst (N := 12) rfl ?_); refine Kd.R_lit k43 _ 43 ?hg (N := 12) ?hd (xs := ([(⟨a0_0, a0_1, a0_2, (l1.length : Int)⟩ : S43)] : List (S43))) (inner := [.int .i64 a0_0, .string a0_1, .int .i64 a0_2, .int .i64 (l1.length : Int)]) (ok := fun _ => True) (okp := fun _ => True) ?hr ?hp (fun _ hk => hk) trivial (Below.refl _ _) (Nat.le_refl _) (by simp) ?_; (case hd => rfl); (case hg => rfl); (case hr => first | (go_simp; done) | (go_simp; rfl)); (case hp => exact (Reps.c4 (k43_mkM _ _ _ _) (Reps.none _ _))); intro v163 w5 ho6 hb hg_ hnew_; clear hg_ hnew_; (first | rw [← Ny162.out] at ho6 | (simp only [Int.reduceToNat] at ho6; rw [← Ny162.out] at ho6)); have HO164 := Aside0.mk (Kd.R_lower (Kd.R_newB ho6 (g := gb1) (o := .cells #[.int .i64 a0_0, .string a0_1, .int .i64 a0_2, .int .i64 (l1.length : Int)] 43 (0, 0)) (by refine blk_put (cs := #[.int .i64 a0_0, .string a0_1, .int .i64 a0_2, .int .i64 a0_3]) ?_ 3 _ rfl; exact BK1.out)) (below_size (hO HB))); replace BK1 := Aside0.mk (blk_below (g := gb1) (o := .cells #[.int .i64 a0_0, .string a0_1, .int .i64 a0_2, .int .i64 (l1.length : Int)] 43 (0, 0)) (by refine blk_put (cs := #[.int .i64 a0_0, .string a0_1, .int .i64 a0_2, .int .i64 a0_3]) ?_ 3 _ rfl; exact BK1.out) hb); replace HB := mSx HB hb; clear hb ho6))
 go_loopg [5, 15] k (fun kq v5 v15 w' => ∃ (x5_1 : List (S43)) (x15_1 : Int), v15 = .int .i64 x15_1 ∧ Aside0 (lang_tree.l0 kq x5_1 l1 (l1.length : Int) x15_1 = some r) ∧ Aside0 (kq ≤ k) ∧ Aside0 (Kd.R k43 43 w' w.heap.size (fun k_ => k_ ≠ gb1) v5 x5_1) ∧ Aside0 (w'.heap[gb1]? = some (.cells #[.int .i64 a0_0, .string a0_1, .int .i64 a0_2, .int .i64 (l1.length : Int)] 43 (0, 0))) ∧ Aside0 (Below w.heap.size w w'))
 case atStart => exact ⟨(y162), (0), rfl, H', ⟨Nat.le_refl _⟩, ⟨Kd.R_mono HO164.out (fun _ hk => hk.2)⟩, BK1, HB⟩
 case round =>
  clear H'
  obtain ⟨x5_1, x15_1, rfl, HA, HK1, HO_5, BK1, HB⟩ := hrel
  cases gk with
  | zero => exact absurd HA.out (by simp [lang_tree.l0])
  | succ k1 =>
   have H := HA.out
   clear HA
   simp only [lang_tree.l0] at H
   by_cases c7 : x15_1 < (l1.length : Int)
   rotate_left
   ·
    rw [if_neg c7] at H
    have c7b0 := decide_eq_false c7
    clear c7
    obtain rfl := Option.some.inj H
    go_wp2
    go_ret
    exact ⟨_, rfl, by exact Kd.R_mono HO_5.out (fun _ hk => trivial), HB.out⟩
   rw [if_pos c7] at H
   have c7b0 := decide_eq_true c7
   clear c7
   obtain ⟨c8, H⟩ : (0 ≤ x15_1) ∧ _ := mIf H
   have c8b0 := decide_eq_true c8
   clear c8
   obtain ⟨c9, H⟩ : (x15_1 < (l1.length : Int)) ∧ _ := mIf H
   have c9b0 := decide_eq_true c9
   clear c9
   obtain ⟨c10, H⟩ : (x5_1.length + (rd_L3 l1 x15_1).length < 3518437208883) ∧ _ := mIf H
   have LMc10 := Aside0.mk c10
   clear c10
   obtain ⟨y166, hy166⟩ : ∃ y_ : List (S43), y_ = (x5_1 ++ (rd_L3 l1 x15_1)) := ⟨_, rfl⟩
   rw [← hy166] at H
   have Ny166 := Aside0.mk hy166
   clear hy166
   have H' := Aside0.mk H
   clear H
   have p165 : 0 ≤ (x15_1 : Int) := of_decide_eq_true (by assumption)
   have q165 : x15_1 < (l1.length : Int) := of_decide_eq_true (by assumption)
   obtain ⟨ad165, A165_0, c165_0, e165, hx165_0, hl165_0, hi165_0⟩ := at_L3 HR1.out x15_1 p165 q165
   cases e165
   replace hx165_0 := mHx HB hx165_0
   have HR165_0 := Aside0.mk hi165_0
   have HC165_0 := Aside0.mk hl165_0
   clear hi165_0 hl165_0
   replace p165 := eq_true p165
   replace q165 := eq_true q165
   go_wp2_with (first | ((with_reducible refine gate_builtin (b := .append) (xs := #[.tmp 19, .tmp 20]) rfl ?_); at_builtin; refine Kd.R_append_rows k43 (w0 := w) w.heap.size rfl (.tmp 19) (.tmp 20) 22 43 (.agg #[(.int .i64 0), (.string ⟨#[]⟩), (.int .i64 0), (.int .i64 0)]) 40 rfl Tryd.underlying22 info43 rfl (by decide) (by omega) u5 x5_1 (rd_L3 l1 x15_1) _ _ _ (fun k_ => k_ ≠ gb1) (fun _ => False) rfl rfl ?aO ?aR (fun _ _ h => h) (fun _ h => h.elim) ?aF ?aB ?aS ?aL ?_; (case aR => exact Kd.C_below HR165_0.out HB.out); (case aB => exact HB.out); (case aF => exact (fun k_ hk => Kd.freshB (g := gb1) (o := .cells #[.int .i64 a0_0, .string a0_1, .int .i64 a0_2, .int .i64 (l1.length : Int)] 43 (0, 0)) BK1.out k_ hk)); (case aO => exact HO_5.out); (case aS => exact (below_size HB.out)); (case aL => have := LMc10.out; omega); intro v167 w11 ho hb hg hat; rw [← Ny166.out] at ho; replace BK1 := Aside0.mk (blk_grown (g := gb1) (o := .cells #[.int .i64 a0_0, .string a0_1, .int .i64 a0_2, .int .i64 (l1.length : Int)] 43 (0, 0)) BK1.out hg (Kd.R_away HO_5.out (fun _ hk => hk))); replace HB := Aside0.mk hb; have HO168 := Aside0.mk ho; clear HO_5; clear ho hb hg hat))
   go_roundg k1
   case measure => have := HK1.out; omega
   case rel => exact ⟨(y166), (wrap64 (x15_1 + 1)), rfl, H', ⟨by have := HK1.out; omega⟩, HO168, ⟨BK1.out⟩, ⟨HB.out⟩⟩
def lang_reader_space.l0 : Nat → ByteArray → Int → Option (ByteArray × Int)
 | 0, _, _ => none
 | k + 1, x1000, x1001 => if x1001 < (x1000.size : Int) then (if 0 ≤ x1001 then (if (bt x1000 x1001) = 32 then (lang_reader_space.l0 k x1000 (wrap64 (x1001 + 1))) else (some (x1000, x1001))) else (none)) else (some (x1000, x1001))
def lang_reader_space.f (k : Nat) (s0_0 : ByteArray) (s0_1 : Int) : Option (ByteArray × Int) := lang_reader_space.l0 k s0_0 s0_1
set_option maxHeartbeats 8000000 in
set_option maxRecDepth 100000 in
theorem lang_reader_space.calls (k : Nat) (g : Nat) (s0_0 : ByteArray) (s0_1 : Int) (r1 : ByteArray) (r2 : Int) (w0 w : World) (hI : IsS81 w0 w g s0_0 s0_1) (hB : Below w0.heap.size w0 w) (h : lang_reader_space.f k s0_0 s0_1 = some (r1, r2)) :
  Calls Tryd.prog 62 #[.pointer (some ⟨g, 0, none⟩)] w fun e w' => e = .returned (.tuple #[]) ∧ IsS81 w0 w' g r1 r2 ∧ Below w0.heap.size w0 w' ∧ KeepBut w w' g none := by
 have HI0 := Aside0.mk hI
 have HK := Aside0.mk (KeepBut.refl w g none)
 have HL := Aside0.mk hB.size
 clear hI
 have HW0 := Aside0.mk hB.size
 have HB := Aside0.mk hB
 clear hB
 have H := h
 unfold lang_reader_space.f at H
 clear h
 have H' := Aside0.mk H
 clear H
 go_enter Tryd.func62, Tryd.ntmps62
 go_wp2
 repeat (go_quiet (fail); try go_wp2)
 go_loopg [] k (fun kq w' => ∃ (x1001_1 : Int), Aside0 (lang_reader_space.l0 kq s0_0 x1001_1 = some (r1, r2)) ∧ Aside0 (kq ≤ k) ∧ Aside0 (IsS81 w0 w' g s0_0 x1001_1) ∧ Aside0 (KeepBut w w' g none) ∧ Aside0 (Below w0.heap.size w0 w'))
 case atStart => exact ⟨(s0_1), H', ⟨Nat.le_refl _⟩, HI0, HK, ⟨HB.out⟩⟩
 case round =>
  clear H'
  obtain ⟨x1001_1, HA, HK1, HI0, HK, HB⟩ := hrel
  cases gk with
  | zero => exact absurd HA.out (by simp [lang_reader_space.l0])
  | succ k1 =>
   have H := HA.out
   clear HA
   simp only [lang_reader_space.l0] at H
   by_cases c2 : x1001_1 < (s0_0.size : Int)
   rotate_left
   ·
    rw [if_neg c2] at H
    have c2b0 := decide_eq_false c2
    clear c2
    simp only [Option.some.injEq, Prod.mk.injEq] at H
    obtain ⟨rfl, rfl⟩ := H
    obtain ⟨HGz8, hgz8⟩ := HI0.out
    have hcz8_0 := cellS81_0 HGz8; have hcz8_1 := cellS81_1 HGz8; have hfz8_0 := blk_frozen HGz8 0; have hfz8_1 := blk_frozen HGz8 1
    clear HGz8 hgz8
    go_wp2
    repeat (go_quiet (fail); try go_wp2)
    first | go_end0 | ((try simp only [Exit.inBlock, Exit.then]); refine bodyPost_ret (results_none rfl _ _ _) rfl ?_)
    exact ⟨rfl, by repeat (first | (with_reducible first | exact HI0.out | apply IsS81.alloc | apply IsS81.drewN | apply IsS81.drew | apply IsS81.set_0 | apply IsS81.set_1) | exact HI0.out), by repeat (first | (with_reducible first | exact HB.out | apply below_alloc | apply pw_below_drewN | apply below_drew1 | refine below_set ?_ (IsS81.ge HI0.out)) | exact HB.out), by repeat (first | (with_reducible first | exact HK.out | apply KeepBut.set_ | apply keep_drewN | apply keep_drew | apply keep_alloc) | exact HK.out)⟩
   rw [if_pos c2] at H
   have c2b0 := decide_eq_true c2
   clear c2
   obtain ⟨c3, H⟩ : (0 ≤ x1001_1) ∧ _ := mIf H
   have c3b0 := decide_eq_true c3
   clear c3
   by_cases c5 : (bt s0_0 x1001_1) = 32
   rotate_left
   ·
    rw [if_neg c5] at H
    have c5b0 := beq_eq_false_iff_ne.mpr c5
    have c5b1 := bne_iff_ne.mpr c5
    simp only [Option.some.injEq, Prod.mk.injEq] at H
    obtain ⟨rfl, rfl⟩ := H
    obtain ⟨HGz7, hgz7⟩ := HI0.out
    have hcz7_0 := cellS81_0 HGz7; have hcz7_1 := cellS81_1 HGz7; have hfz7_0 := blk_frozen HGz7 0; have hfz7_1 := blk_frozen HGz7 1
    clear HGz7 hgz7
    have p4 : 0 ≤ (x1001_1 : Int) := of_decide_eq_true (by assumption)
    have q4 : x1001_1 < (s0_0.size : Int) := of_decide_eq_true (by assumption)
    have hx4 := bt_at s0_0 x1001_1
    replace p4 := eq_true p4
    replace q4 := eq_true q4
    go_wp2
    repeat (go_quiet (fail); try go_wp2)
    first | go_end0 | ((try simp only [Exit.inBlock, Exit.then]); refine bodyPost_ret (results_none rfl _ _ _) rfl ?_)
    exact ⟨rfl, by repeat (first | (with_reducible first | exact HI0.out | apply IsS81.alloc | apply IsS81.drewN | apply IsS81.drew | apply IsS81.set_0 | apply IsS81.set_1) | exact HI0.out), by repeat (first | (with_reducible first | exact HB.out | apply below_alloc | apply pw_below_drewN | apply below_drew1 | refine below_set ?_ (IsS81.ge HI0.out)) | exact HB.out), by repeat (first | (with_reducible first | exact HK.out | apply KeepBut.set_ | apply keep_drewN | apply keep_drew | apply keep_alloc) | exact HK.out)⟩
   rw [if_pos c5] at H
   have c5b0 := beq_iff_eq.mpr c5
   have c5b1 := bne_eq_false_iff_eq.mpr c5
   clear c5
   have H' := Aside0.mk H
   clear H
   obtain ⟨HGz6, hgz6⟩ := HI0.out
   have hcz6_0 := cellS81_0 HGz6; have hcz6_1 := cellS81_1 HGz6; have hfz6_0 := blk_frozen HGz6 0; have hfz6_1 := blk_frozen HGz6 1
   clear HGz6 hgz6
   have p4 : 0 ≤ (x1001_1 : Int) := of_decide_eq_true (by assumption)
   have q4 : x1001_1 < (s0_0.size : Int) := of_decide_eq_true (by assumption)
   have hx4 := bt_at s0_0 x1001_1
   replace p4 := eq_true p4
   replace q4 := eq_true q4
   go_wp2
   repeat (go_quiet (fail); try go_wp2)
   go_roundg k1
   case measure => have := HK1.out; omega
   case rel => exact ⟨(wrap64 (x1001_1 + 1)), H', ⟨by have := HK1.out; omega⟩, ⟨by repeat (first | (with_reducible first | exact HI0.out | apply IsS81.alloc | apply IsS81.drewN | apply IsS81.drew | apply IsS81.set_0 | apply IsS81.set_1) | exact HI0.out)⟩, ⟨by repeat (first | (with_reducible first | exact HK.out | apply KeepBut.set_ | apply keep_drewN | apply keep_drew | apply keep_alloc) | exact HK.out)⟩, ⟨by repeat (first | (with_reducible first | exact HB.out | apply below_alloc | apply pw_below_drewN | apply below_drew1 | refine below_set ?_ (IsS81.ge HI0.out)) | exact HB.out)⟩⟩
def lang_reader_fail.f (s0_0 : ByteArray) (s0_1 : Int) : Option (ByteArray × Int) := if 0 ≤ (s0_0.size : Int) then (if (s0_0.size : Int) < (s0_0.size : Int) then (some (s0_0, s0_1)) else (none)) else (none)
theorem lang_reader_fail.calls (g : Nat) (s0_0 : ByteArray) (s0_1 : Int) (r1 : ByteArray) (r2 : Int) (w0 w : World) (hI : IsS81 w0 w g s0_0 s0_1) (hB : Below w0.heap.size w0 w) (h : lang_reader_fail.f s0_0 s0_1 = some (r1, r2)) :
  Calls Tryd.prog 63 #[.pointer (some ⟨g, 0, none⟩)] w fun e w' => e = .returned (.tuple #[]) ∧ IsS81 w0 w' g r1 r2 ∧ Below w0.heap.size w0 w' ∧ KeepBut w w' g none := by
 unfold lang_reader_fail.f at h
 rw [if_pos (Int.natCast_nonneg _), if_neg (Int.lt_irrefl _)] at h
 exact absurd h (by simp)
/-- What the reader panics with. -/
def formPanic : List PanicEntry := [{ v := .iface 25 (.int .i64 2), recovered := false }]
theorem lang_reader_fail.dies (v : Value) (w : World) :
  Calls Tryd.prog 63 #[v] w fun e w' => e = .panicked formPanic ∧ w' = w := by
 go_enter Tryd.func63, Tryd.ntmps63
 go_wp2
 exact ⟨rfl, rfl, rfl⟩
def lang_letter.f (a0 : Int) : Option (Bool) := if a0 ≥ 97 then (some (decide (a0 ≤ 122))) else (some false)
set_option maxHeartbeats 8000000 in
set_option maxRecDepth 100000 in
theorem lang_letter.calls (a0 : Int) (r : Bool) (w : World) (h : lang_letter.f a0 = some r) :
  Calls Tryd.prog 92 #[.int .u8 a0] w fun e w' => e = .returned (.bool r) ∧ Drawn0 w w' := by
 have H := h
 unfold lang_letter.f at H
 clear h
 by_cases c2 : a0 ≥ 97
 rotate_left
 ·
  rw [if_neg c2] at H
  have c2b0 := decide_eq_false c2
  clear c2
  obtain rfl := Option.some.inj H
  go_enter Tryd.func92, Tryd.ntmps92
  go_wp2
  go_ret
  exact ⟨by first | rfl | (simp; done) | (simp [*]; done), by repeat (first | exact Drawn0.refl _ | apply Drawn0.step)⟩
 rw [if_pos c2] at H
 have c2b0 := decide_eq_true c2
 clear c2
 obtain rfl := Option.some.inj H
 go_enter Tryd.func92, Tryd.ntmps92
 go_wp2
 go_ret
 exact ⟨by first | rfl | (simp; done) | (simp [*]; done), by repeat (first | exact Drawn0.refl _ | apply Drawn0.step)⟩
def lang_digit.f (a0 : Int) : Option (Bool) := if a0 ≥ 48 then (some (decide (a0 ≤ 57))) else (some false)
set_option maxHeartbeats 8000000 in
set_option maxRecDepth 100000 in
theorem lang_digit.calls (a0 : Int) (r : Bool) (w : World) (h : lang_digit.f a0 = some r) :
  Calls Tryd.prog 93 #[.int .u8 a0] w fun e w' => e = .returned (.bool r) ∧ Drawn0 w w' := by
 have H := h
 unfold lang_digit.f at H
 clear h
 by_cases c2 : a0 ≥ 48
 rotate_left
 ·
  rw [if_neg c2] at H
  have c2b0 := decide_eq_false c2
  clear c2
  obtain rfl := Option.some.inj H
  go_enter Tryd.func93, Tryd.ntmps93
  go_wp2
  go_ret
  exact ⟨by first | rfl | (simp; done) | (simp [*]; done), by repeat (first | exact Drawn0.refl _ | apply Drawn0.step)⟩
 rw [if_pos c2] at H
 have c2b0 := decide_eq_true c2
 clear c2
 obtain rfl := Option.some.inj H
 go_enter Tryd.func93, Tryd.ntmps93
 go_wp2
 go_ret
 exact ⟨by first | rfl | (simp; done) | (simp [*]; done), by repeat (first | exact Drawn0.refl _ | apply Drawn0.step)⟩
mutual
def lang_reader_word.l0 : Nat → Int → ByteArray → Int → Option (ByteArray × ByteArray × Int)
 | 0, _, _, _ => none
 | k + 1, x3, x1000, x1001 => if x1001 < (x1000.size : Int) then (if 0 ≤ x1001 then ((lang_letter.f (bt x1000 x1001)).bind fun t171 => (if t171 = true then (lang_reader_word.j1 k x3 true x1000 x1001) else (if x1001 > x3 then ((lang_digit.f (bt x1000 x1001)).bind fun t172 => (if t172 = true then (lang_reader_word.j1 k x3 true x1000 x1001) else (lang_reader_word.j1 k x3 ((bt x1000 x1001) == 45) x1000 x1001))) else (lang_reader_word.j1 k x3 false x1000 x1001)))) else (none)) else (lang_reader_word.j1 k x3 false x1000 x1001)
def lang_reader_word.j1 : Nat → Int → Bool → ByteArray → Int → Option (ByteArray × ByteArray × Int)
 | 0, _, _, _, _ => none
 | k + 1, x3, x63, x1000, x1001 => if x63 = true then (lang_reader_word.l0 k x3 x1000 (wrap64 (x1001 + 1))) else (if x1001 = x3 then ((lang_reader_fail.f x1000 x1001).bind fun bt173 => (if 0 ≤ x3 then (if x3 ≤ bt173.2 then (if bt173.2 ≤ (bt173.1.size : Int) then (some (bt173.1.extract (x3 : Int).toNat (bt173.2 : Int).toNat, bt173.1, bt173.2)) else (none)) else (none)) else (none))) else (if 0 ≤ x3 then (if x3 ≤ x1001 then (if x1001 ≤ (x1000.size : Int) then (some (x1000.extract (x3 : Int).toNat (x1001 : Int).toNat, x1000, x1001)) else (none)) else (none)) else (none)))
end
def lang_reader_word.f (k : Nat) (s0_0 : ByteArray) (s0_1 : Int) : Option (ByteArray × ByteArray × Int) := (lang_reader_space.f k s0_0 s0_1).bind fun bt169 => (lang_reader_word.l0 k bt169.2 bt169.1 bt169.2)
def lang_reader_word.T3 : Bool × List (List Nat × List Nat) := (true, [([], []), ([0], [0]), ([1], [1]), ([2], [2]), ([], []), ([4], [4]), ([5], [5]), ([6], [6]), ([7], [7]), ([3, 8], [3, 8]), ([9], [9]), ([10], [10]), ([11, 10], [10, 11]), ([12, 10], [10, 12]), ([13, 10], [10, 13]), ([10], [10]), ([15, 10], [10, 15]), ([16, 10], [10, 16]), ([17, 10], [10, 17]), ([14, 18, 10], [10, 14, 18]), ([19, 10, 10], [10, 19]), ([20, 20, 10], [10, 20]), ([21], [21]), ([22, 21], [21, 22]), ([23, 21], [21, 23]), ([24, 21], [21, 24]), ([21], [21]), ([25, 26, 21], [21, 25, 26]), ([27, 21, 21], [21, 27]), ([28], [28]), ([29, 28], [28, 29]), ([30, 28], [28, 30]), ([31, 28], [28, 31]), ([28], [28]), ([33, 28], [28, 33]), ([34, 28], [28, 34]), ([35, 28], [28, 35]), ([32, 36, 28], [28, 32, 36]), ([37, 28, 28], [28, 37]), ([38, 38, 28], [28, 38]), ([39], [39]), ([40, 39], [39, 40]), ([41, 39], [39, 41]), ([42, 39], [39, 42]), ([39], [39]), ([44, 39], [39, 44]), ([45, 39], [39, 45]), ([46, 39], [39, 46]), ([43, 47, 39], [39, 43, 47]), ([48, 39], [39, 48]), ([39, 49, 28], [28, 39, 49]), ([28, 50, 21], [21, 28, 50]), ([21, 51, 10], [10, 21, 51]), ([10, 52], [10, 52])])
def lang_reader_word.B3 : List Nat := [0, 1, 3, 7, 0, 16, 48, 112, 240, 511, 1023, 2047, 4095, 8191, 16383, 2047, 34815, 100351, 231423, 524287, 1048575, 2097151, 4194303, 8388607, 16777215, 33554431, 4194303, 134217727, 268435455, 536870911, 1073741823, 2147483647, 4294967295, 536870911, 9126805503, 26306674687, 60666413055, 137438953471, 274877906943, 549755813887, 1099511627775, 2199023255551, 4398046511103, 8796093022207, 1099511627775, 18691697672191, 53876069761023, 124244813938687, 281474976710655, 562949953421311, 1125899906842623, 2251799813685247, 4503599627370495, 9007199254740991]
theorem lang_reader_word.tab3 : rtab .any (opsOf Tryd.f83 3) = lang_reader_word.T3 := by kernel_rfl
theorem lang_reader_word.bits3 : waitsOk lang_reader_word.T3.2 lang_reader_word.B3 = true := by kernel_rfl
def lang_reader_word.T7 : Bool × List (List Nat × List Nat) := (true, [([], []), ([0], [0]), ([1], [1]), ([2], [2]), ([], []), ([], []), ([5], [5]), ([6], [6]), ([7], [7]), ([3, 4, 8], [3, 4, 8]), ([9, 0, 1, 2, 3, 4, 5, 6, 7, 8, 9], [9])])
def lang_reader_word.B7 : List Nat := [0, 1, 3, 7, 0, 0, 32, 96, 224, 511, 1023]
theorem lang_reader_word.tab7 : rtab .any (opsOf Tryd.f83 7) = lang_reader_word.T7 := by kernel_rfl
theorem lang_reader_word.bits7 : waitsOk lang_reader_word.T7.2 lang_reader_word.B7 = true := by kernel_rfl
set_option maxHeartbeats 8000000 in
set_option maxRecDepth 100000 in
theorem lang_reader_word.calls (k : Nat) (g : Nat) (s0_0 : ByteArray) (s0_1 : Int) (r1 : ByteArray) (r2 : ByteArray) (r3 : Int) (w0 w : World) (hI : IsS81 w0 w g s0_0 s0_1) (hB : Below w0.heap.size w0 w) (h : lang_reader_word.f k s0_0 s0_1 = some (r1, r2, r3)) :
  Calls Tryd.prog 83 #[.pointer (some ⟨g, 0, none⟩)] w fun e w' => e = .returned (.string r1) ∧ IsS81 w0 w' g r2 r3 ∧ Below w0.heap.size w0 w' ∧ KeepBut w w' g none := by
 have HI0 := Aside0.mk hI
 have HK := Aside0.mk (KeepBut.refl w g none)
 have HL := Aside0.mk hB.size
 clear hI
 have HW0 := Aside0.mk hB.size
 have HB := Aside0.mk hB
 clear hB
 have H := h
 unfold lang_reader_word.f at H
 clear h
 replace H := Option.bind_eq_some_iff.mp H
 obtain ⟨⟨t169, t170⟩, A20, H⟩ := H
 try dsimp only at H
 have A2 := Aside0.mk A20
 clear A20
 have H' := Aside0.mk H
 clear H
 go_enter Tryd.func83, Tryd.ntmps83
 go_wp2_with (first | ((with_reducible refine gate_callee (f := 62) rfl ?_); refine goesL_ (some 5) rfl rfl Tryd.func62 (by kernel_rfl) rfl #[.pointer (some ⟨g, 0, none⟩)] rfl (mA1 rfl) ?_; (with_reducible refine (lang_reader_space.calls k g s0_0 s0_1 t169 t170 w0 _ ?side1 ?side2 A2.out).mono ?_); (case side1 => repeat (first | (with_reducible first | exact HI0.out | apply IsS81.alloc | apply IsS81.drewN | apply IsS81.drew | apply IsS81.set_0 | apply IsS81.set_1) | exact HI0.out)); (case side2 => repeat (first | (with_reducible first | exact HB.out | apply below_alloc | apply pw_below_drewN | apply below_drew1 | refine below_set ?_ (IsS81.ge HI0.out)) | exact HB.out)); rintro e w3 ⟨rfl, hi, hb, hk⟩; refine ⟨_, rfl, ?_⟩; replace HK := Aside0.mk (KeepBut.trans (by repeat (first | (with_reducible first | exact HK.out | apply KeepBut.set_ | apply keep_drewN | apply keep_drew | apply keep_alloc) | exact HK.out)) hk (.inl rfl)); replace HB := Aside0.mk hb; replace HI0 := Aside0.mk (hi); (try clear hb); obtain ⟨HGz4, hgz4⟩ := HI0.out; have hcz4_0 := cellS81_0 HGz4; have hcz4_1 := cellS81_1 HGz4; have hfz4_0 := blk_frozen HGz4 0; have hfz4_1 := blk_frozen HGz4 1; clear HGz4 hgz4))
 go_loopg [] k (fun kq w' => ∃ (x1001_1 : Int), Aside0 (lang_reader_word.l0 kq t170 t169 x1001_1 = some (r1, r2, r3)) ∧ Aside0 (kq ≤ k) ∧ Aside0 (IsS81 w0 w' g t169 x1001_1) ∧ Aside0 (KeepBut w w' g none) ∧ Aside0 (Below w0.heap.size w0 w'))
 case atStart => exact ⟨(t170), H', ⟨Nat.le_refl _⟩, HI0, HK, ⟨HB.out⟩⟩
 case round =>
  clear H' hcz4_0 hcz4_1 hfz4_0 hfz4_1
  obtain ⟨x1001_1, HA, HK1, HI0, HK, HB⟩ := hrel
  cases gk with
  | zero => exact absurd HA.out (by simp [lang_reader_word.l0])
  | succ k1 =>
   have H := HA.out
   clear HA
   simp only [lang_reader_word.l0] at H
   have HC5 := Aside0.mk H
   clear H
   obtain ⟨HGz6, hgz6⟩ := HI0.out
   have hcz6_0 := cellS81_0 HGz6; have hcz6_1 := cellS81_1 HGz6; have hfz6_0 := blk_frozen HGz6 0; have hfz6_1 := blk_frozen HGz6 1
   clear HGz6 hgz6
   go_upto_region 3 with (fail)
   go_cut [63] (fun v63 wc => ∃ (kq : Nat) (x63_4 : Bool), v63 = .bool x63_4 ∧ Aside0 (lang_reader_word.j1 kq t170 x63_4 t169 x1001_1 = some (r1, r2, r3)) ∧ Aside0 (kq ≤ k1) ∧ Aside0 (IsS81 w0 wc g t169 x1001_1) ∧ Aside0 (KeepBut w wc g none) ∧ Aside0 (Below w0.heap.size w0 wc))
   case first =>
    have H := HC5.out
    clear HC5
    by_cases c7 : x1001_1 < (t169.size : Int)
    rotate_left
    ·
     rw [if_neg c7] at H
     have c7b0 := decide_eq_false c7
     clear c7
     (first | rw [c7b0] | (simp only [i64_w, i32_w]; rw [c7b0]) | skip)
     have H' := Aside0.mk H
     clear H
     try go_wp2
     replace HI0 := Aside0.mk (IsS81.drew HI0.out); replace HK := Aside0.mk (keep_drew HK.out); replace HB := Aside0.mk (below_drew1 HB.out)
     refine start_ (n := 54) (S := fun w' => w'.cell? ⟨g, 0, none⟩ = some (.string t169) ∧ w'.cell? ⟨g, 1, none⟩ = some (.int .i64 x1001_1)) (ds := []) #[false, false, false, false, false, false, false, false, false, false, false, false, false, false, false, false, false, false, false, false, false, false, false, false, false, false, false, false, false, false, false, false, false, false, false, false, false, false, false, false, false, false, false, false, false, false, false, false, false, false, false, false, false, false] (by kernel_rfl) rfl rfl ⟨cellS81_0 HI0.out.1, cellS81_1 HI0.out.1⟩ (fun hHeld => ?_); refine with_tabW lang_reader_word.tab3 lang_reader_word.bits3 (fun HT_ HW_ => ?_)
     generalize wr.drew = w21 at HI0 HK HB hHeld ⊢
     refine pM 0 10 HT_ ?_
     refine pM 1 11 HT_ ?_
     refine pM 2 12 HT_ ?_
     refine tM 3 13 rfl HT_ HW_ (by rintro w' ⟨s0, s1⟩; go_simp; with_reducible rfl) hHeld ?_
     refine pM 4 14 HT_ ?_
     refine pM 5 15 HT_ ?_
     refine pM 6 16 HT_ ?_
     refine tM 7 17 rfl HT_ HW_ (by rintro w' ⟨s0, s1⟩; go_simp; with_reducible rfl) hHeld ?_
     refine pM 8 18 HT_ ?_
     refine pM 9 19 HT_ ?_
     refine pM 10 20 HT_ ?_
     refine uM 11 21 HT_ ?_
     refine uM 12 22 HT_ ?_
     refine uM 13 23 HT_ ?_
     refine uM 14 24 HT_ ?_
     refine uM 15 25 HT_ ?_
     refine uM 16 26 HT_ ?_
     refine uM 17 27 HT_ ?_
     refine uM 18 28 HT_ ?_
     refine uM 19 29 HT_ ?_
     refine uM 20 30 HT_ ?_
     refine uM 21 31 HT_ ?_
     refine uM 22 32 HT_ ?_
     refine uM 23 33 HT_ ?_
     refine uM 24 34 HT_ ?_
     refine uM 25 35 HT_ ?_
     refine uM 26 36 HT_ ?_
     refine uM 27 37 HT_ ?_
     refine uM 28 38 HT_ ?_
     refine uM 29 39 HT_ ?_
     refine uM 30 40 HT_ ?_
     refine uM 31 41 HT_ ?_
     refine uM 32 42 HT_ ?_
     refine uM 33 43 HT_ ?_
     refine uM 34 44 HT_ ?_
     refine uM 35 45 HT_ ?_
     refine uM 36 46 HT_ ?_
     refine uM 37 47 HT_ ?_
     refine uM 38 48 HT_ ?_
     refine uM 39 49 HT_ ?_
     refine uM 40 50 HT_ ?_
     refine uM 41 51 HT_ ?_
     refine uM 42 52 HT_ ?_
     refine uM 43 53 HT_ ?_
     refine uM 44 54 HT_ ?_
     refine uM 45 55 HT_ ?_
     refine uM 46 56 HT_ ?_
     refine uM 47 57 HT_ ?_
     refine uM 48 58 HT_ ?_
     refine uM 49 59 HT_ ?_
     refine uM 50 60 HT_ ?_
     refine uM 51 61 HT_ ?_
     refine uM 52 62 HT_ ?_
     refine pM 53 63 HT_ ?_
     refine done_ (done_of HT_.out (by kernel_rfl)) ?_
     try go_wp2
     go_meet
     case rel => exact ⟨_, (false), rfl, H', ⟨by have := HK1.out; first | omega | exact Nat.le_refl _⟩, HI0, HK, ⟨HB.out⟩⟩
    rw [if_pos c7] at H
    have c7b0 := decide_eq_true c7
    clear c7
    (first | rw [c7b0] | (simp only [i64_w, i32_w]; rw [c7b0]) | skip)
    obtain ⟨c8, H⟩ : (0 ≤ x1001_1) ∧ _ := mIf H
    have c8b0 := decide_eq_true c8
    clear c8
    replace H := Option.bind_eq_some_iff.mp H
    obtain ⟨t171, A100, H⟩ := H
    try dsimp only at H
    have A10 := Aside0.mk A100
    clear A100
    by_cases c11 : t171 = true
    ·
     subst c11
     rw [if_pos rfl] at H
     have H' := Aside0.mk H
     clear H
     try go_wp2
     replace HI0 := Aside0.mk (IsS81.drew HI0.out); replace HK := Aside0.mk (keep_drew HK.out); replace HB := Aside0.mk (below_drew1 HB.out)
     have p9 : 0 ≤ (x1001_1 : Int) := of_decide_eq_true (by assumption)
     have q9 : x1001_1 < (t169.size : Int) := of_decide_eq_true (by assumption)
     have hx9 := bt_at t169 x1001_1
     replace p9 := eq_true p9
     replace q9 := eq_true q9
     refine start_ (n := 54) (S := fun w' => w'.cell? ⟨g, 0, none⟩ = some (.string t169) ∧ w'.cell? ⟨g, 1, none⟩ = some (.int .i64 x1001_1)) (ds := []) #[false, false, false, false, false, false, false, false, false, false, false, false, false, false, false, false, false, false, false, false, false, false, false, false, false, false, false, false, false, false, false, false, false, false, false, false, false, false, false, false, false, false, false, false, false, false, false, false, false, false, false, false, false, false] (by kernel_rfl) rfl rfl ⟨cellS81_0 HI0.out.1, cellS81_1 HI0.out.1⟩ (fun hHeld => ?_); refine with_tabW lang_reader_word.tab3 lang_reader_word.bits3 (fun HT_ HW_ => ?_)
     generalize wr.drew = w12 at HI0 HK HB hHeld ⊢
     refine pM 0 10 HT_ ?_
     refine pM 1 11 HT_ ?_
     refine pM 2 12 HT_ ?_
     refine tM 3 13 rfl HT_ HW_ (by rintro w' ⟨s0, s1⟩; go_simp; with_reducible rfl) hHeld ?_
     refine pM 4 14 HT_ ?_
     refine pM 5 15 HT_ ?_
     refine pM 6 16 HT_ ?_
     refine tM 7 17 rfl HT_ HW_ (by rintro w' ⟨s0, s1⟩; go_simp; with_reducible rfl) hHeld ?_
     refine pM 8 18 HT_ ?_
     refine pM 9 19 HT_ ?_
     refine pM 10 20 HT_ ?_
     refine pM 11 21 HT_ ?_
     refine pM 12 22 HT_ ?_
     refine pM 13 23 HT_ ?_
     refine tM 14 24 rfl HT_ HW_ (by rintro w' ⟨s0, s1⟩; go_simp; with_reducible rfl) hHeld ?_
     refine pM 15 25 HT_ ?_
     refine pM 16 26 HT_ ?_
     refine pM 17 27 HT_ ?_
     refine tM 18 28 rfl HT_ HW_ (by rintro w' ⟨s0, s1⟩; go_simp; with_reducible rfl) hHeld ?_
     refine take_ (i := 19) (N := some 29) (v := ?_) (a' := ?_) #[true, true, true, true, true, true, true, true, true, true, true, true, true, true, true, true, true, true, true, true, false, false, false, false, false, false, false, false, false, false, false, false, false, false, false, false, false, false, false, false, false, false, false, false, false, false, false, false, false, false, false, false, false, false] rfl rfl (take_ofW HT_.out HW_.out (by kernel_rfl)) (fun _ _ _ h => h) (Or.inl ⟨by rfl, ?_⟩) hHeld ?_ ?_
     rotate_left
     ·
      intro w' _
      go_simp
      with_reducible rfl
     rotate_left
     ·
      simp only [mP]
      rfl
     refine one_ (i := 20) (N := some 30) #[true, true, true, true, true, true, true, true, true, true, true, true, true, true, true, true, true, true, true, true, true, false, false, false, false, false, false, false, false, false, false, false, false, false, false, false, false, false, false, false, false, false, false, false, false, false, false, false, false, false, false, false, false, false] rfl rfl (one_of HT_.out (by kernel_rfl)) (by decide) (fun K hK => ?_)
     refine goes_ Tryd.func92 (by kernel_rfl) rfl #[.int .u8 (bt t169 x1001_1)] (by rfl) rfl rfl (by (try simp only [List.map_toArray, List.map_cons, List.map_nil]); first | done | rfl | (simp only [List.length_drop, List.length_take]; rfl)) ?_
     with_reducible refine (lang_letter.calls (bt t169 x1001_1) true _ A10.out).mono ?_
     rintro e w' ⟨rfl, ⟨nd, rfl⟩⟩
     refine ⟨_, rfl, ?_⟩
     refine hK.out _ _ ⟨cellS81_0 HI0.out.1, cellS81_1 HI0.out.1⟩ (fun hHeld => ?_)
     clear hK K
     refine norm_ (by show Act.put _ (some 30) _ = _; simp only [mP]; rfl) ?_
     refine pM 21 31 HT_ ?_
     refine uM 22 32 HT_ ?_
     refine uM 23 33 HT_ ?_
     refine uM 24 34 HT_ ?_
     refine uM 25 35 HT_ ?_
     refine uM 26 36 HT_ ?_
     refine uM 27 37 HT_ ?_
     refine uM 28 38 HT_ ?_
     refine uM 29 39 HT_ ?_
     refine uM 30 40 HT_ ?_
     refine uM 31 41 HT_ ?_
     refine uM 32 42 HT_ ?_
     refine uM 33 43 HT_ ?_
     refine uM 34 44 HT_ ?_
     refine uM 35 45 HT_ ?_
     refine uM 36 46 HT_ ?_
     refine uM 37 47 HT_ ?_
     refine uM 38 48 HT_ ?_
     refine uM 39 49 HT_ ?_
     refine uM 40 50 HT_ ?_
     refine uM 41 51 HT_ ?_
     refine uM 42 52 HT_ ?_
     refine uM 43 53 HT_ ?_
     refine uM 44 54 HT_ ?_
     refine uM 45 55 HT_ ?_
     refine uM 46 56 HT_ ?_
     refine uM 47 57 HT_ ?_
     refine uM 48 58 HT_ ?_
     refine uM 49 59 HT_ ?_
     refine uM 50 60 HT_ ?_
     refine uM 51 61 HT_ ?_
     refine pM 52 62 HT_ ?_
     refine pM 53 63 HT_ ?_
     refine done_ (done_of HT_.out (by kernel_rfl)) ?_
     try go_wp2
     go_meet
     case rel => exact ⟨_, (true), rfl, H', ⟨by have := HK1.out; first | omega | exact Nat.le_refl _⟩, HI0, HK, ⟨hO HB⟩⟩
    replace c11 := Bool.eq_false_iff.mpr c11
    subst c11
    rw [if_neg (show ¬ (false = true) by decide)] at H
    by_cases c13 : x1001_1 > t170
    rotate_left
    ·
     rw [if_neg c13] at H
     have c13b0 := decide_eq_false c13
     clear c13
     have H' := Aside0.mk H
     clear H
     try go_wp2
     replace HI0 := Aside0.mk (IsS81.drew HI0.out); replace HK := Aside0.mk (keep_drew HK.out); replace HB := Aside0.mk (below_drew1 HB.out)
     have p9 : 0 ≤ (x1001_1 : Int) := of_decide_eq_true (by assumption)
     have q9 : x1001_1 < (t169.size : Int) := of_decide_eq_true (by assumption)
     have hx9 := bt_at t169 x1001_1
     replace p9 := eq_true p9
     replace q9 := eq_true q9
     refine start_ (n := 54) (S := fun w' => w'.cell? ⟨g, 0, none⟩ = some (.string t169) ∧ w'.cell? ⟨g, 1, none⟩ = some (.int .i64 x1001_1)) (ds := []) #[false, false, false, false, false, false, false, false, false, false, false, false, false, false, false, false, false, false, false, false, false, false, false, false, false, false, false, false, false, false, false, false, false, false, false, false, false, false, false, false, false, false, false, false, false, false, false, false, false, false, false, false, false, false] (by kernel_rfl) rfl rfl ⟨cellS81_0 HI0.out.1, cellS81_1 HI0.out.1⟩ (fun hHeld => ?_); refine with_tabW lang_reader_word.tab3 lang_reader_word.bits3 (fun HT_ HW_ => ?_)
     generalize wr.drew = w20 at HI0 HK HB hHeld ⊢
     refine pM 0 10 HT_ ?_
     refine pM 1 11 HT_ ?_
     refine pM 2 12 HT_ ?_
     refine tM 3 13 rfl HT_ HW_ (by rintro w' ⟨s0, s1⟩; go_simp; with_reducible rfl) hHeld ?_
     refine pM 4 14 HT_ ?_
     refine pM 5 15 HT_ ?_
     refine pM 6 16 HT_ ?_
     refine tM 7 17 rfl HT_ HW_ (by rintro w' ⟨s0, s1⟩; go_simp; with_reducible rfl) hHeld ?_
     refine pM 8 18 HT_ ?_
     refine pM 9 19 HT_ ?_
     refine pM 10 20 HT_ ?_
     refine pM 11 21 HT_ ?_
     refine pM 12 22 HT_ ?_
     refine pM 13 23 HT_ ?_
     refine tM 14 24 rfl HT_ HW_ (by rintro w' ⟨s0, s1⟩; go_simp; with_reducible rfl) hHeld ?_
     refine pM 15 25 HT_ ?_
     refine pM 16 26 HT_ ?_
     refine pM 17 27 HT_ ?_
     refine tM 18 28 rfl HT_ HW_ (by rintro w' ⟨s0, s1⟩; go_simp; with_reducible rfl) hHeld ?_
     refine take_ (i := 19) (N := some 29) (v := ?_) (a' := ?_) #[true, true, true, true, true, true, true, true, true, true, true, true, true, true, true, true, true, true, true, true, false, false, false, false, false, false, false, false, false, false, false, false, false, false, false, false, false, false, false, false, false, false, false, false, false, false, false, false, false, false, false, false, false, false] rfl rfl (take_ofW HT_.out HW_.out (by kernel_rfl)) (fun _ _ _ h => h) (Or.inl ⟨by rfl, ?_⟩) hHeld ?_ ?_
     rotate_left
     ·
      intro w' _
      go_simp
      with_reducible rfl
     rotate_left
     ·
      simp only [mP]
      rfl
     refine one_ (i := 20) (N := some 30) #[true, true, true, true, true, true, true, true, true, true, true, true, true, true, true, true, true, true, true, true, true, false, false, false, false, false, false, false, false, false, false, false, false, false, false, false, false, false, false, false, false, false, false, false, false, false, false, false, false, false, false, false, false, false] rfl rfl (one_of HT_.out (by kernel_rfl)) (by decide) (fun K hK => ?_)
     refine goes_ Tryd.func92 (by kernel_rfl) rfl #[.int .u8 (bt t169 x1001_1)] (by rfl) rfl rfl (by (try simp only [List.map_toArray, List.map_cons, List.map_nil]); first | done | rfl | (simp only [List.length_drop, List.length_take]; rfl)) ?_
     with_reducible refine (lang_letter.calls (bt t169 x1001_1) false _ A10.out).mono ?_
     rintro e w' ⟨rfl, ⟨nd, rfl⟩⟩
     refine ⟨_, rfl, ?_⟩
     refine hK.out _ _ ⟨cellS81_0 HI0.out.1, cellS81_1 HI0.out.1⟩ (fun hHeld => ?_)
     clear hK K
     refine norm_ (by show Act.put _ (some 30) _ = _; simp only [mP]; rfl) ?_
     refine pM 21 31 HT_ ?_
     refine pM 22 32 HT_ ?_
     refine pM 23 33 HT_ ?_
     refine pM 24 34 HT_ ?_
     refine tM 25 35 rfl HT_ HW_ (by rintro w' ⟨s0, s1⟩; go_simp; with_reducible rfl) hHeld ?_
     refine pM 26 36 HT_ ?_
     refine pM 27 37 HT_ ?_
     refine pM 28 38 HT_ ?_
     refine uM 29 39 HT_ ?_
     refine uM 30 40 HT_ ?_
     refine uM 31 41 HT_ ?_
     refine uM 32 42 HT_ ?_
     refine uM 33 43 HT_ ?_
     refine uM 34 44 HT_ ?_
     refine uM 35 45 HT_ ?_
     refine uM 36 46 HT_ ?_
     refine uM 37 47 HT_ ?_
     refine uM 38 48 HT_ ?_
     refine uM 39 49 HT_ ?_
     refine uM 40 50 HT_ ?_
     refine uM 41 51 HT_ ?_
     refine uM 42 52 HT_ ?_
     refine uM 43 53 HT_ ?_
     refine uM 44 54 HT_ ?_
     refine uM 45 55 HT_ ?_
     refine uM 46 56 HT_ ?_
     refine uM 47 57 HT_ ?_
     refine uM 48 58 HT_ ?_
     refine uM 49 59 HT_ ?_
     refine uM 50 60 HT_ ?_
     refine pM 51 61 HT_ ?_
     refine pM 52 62 HT_ ?_
     refine pM 53 63 HT_ ?_
     refine done_ (done_of HT_.out (by kernel_rfl)) ?_
     try go_wp2
     go_meet
     case rel => exact ⟨_, (false), rfl, H', ⟨by have := HK1.out; first | omega | exact Nat.le_refl _⟩, HI0, HK, ⟨hO HB⟩⟩
    rw [if_pos c13] at H
    have c13b0 := decide_eq_true c13
    clear c13
    replace H := Option.bind_eq_some_iff.mp H
    obtain ⟨t172, A150, H⟩ := H
    try dsimp only at H
    have A15 := Aside0.mk A150
    clear A150
    by_cases c16 : t172 = true
    ·
     subst c16
     rw [if_pos rfl] at H
     have H' := Aside0.mk H
     clear H
     try go_wp2
     replace HI0 := Aside0.mk (IsS81.drew HI0.out); replace HK := Aside0.mk (keep_drew HK.out); replace HB := Aside0.mk (below_drew1 HB.out)
     have p9 : 0 ≤ (x1001_1 : Int) := of_decide_eq_true (by assumption)
     have q9 : x1001_1 < (t169.size : Int) := of_decide_eq_true (by assumption)
     have hx9 := bt_at t169 x1001_1
     replace p9 := eq_true p9
     replace q9 := eq_true q9
     refine start_ (n := 54) (S := fun w' => w'.cell? ⟨g, 0, none⟩ = some (.string t169) ∧ w'.cell? ⟨g, 1, none⟩ = some (.int .i64 x1001_1)) (ds := []) #[false, false, false, false, false, false, false, false, false, false, false, false, false, false, false, false, false, false, false, false, false, false, false, false, false, false, false, false, false, false, false, false, false, false, false, false, false, false, false, false, false, false, false, false, false, false, false, false, false, false, false, false, false, false] (by kernel_rfl) rfl rfl ⟨cellS81_0 HI0.out.1, cellS81_1 HI0.out.1⟩ (fun hHeld => ?_); refine with_tabW lang_reader_word.tab3 lang_reader_word.bits3 (fun HT_ HW_ => ?_)
     generalize wr.drew = w17 at HI0 HK HB hHeld ⊢
     refine pM 0 10 HT_ ?_
     refine pM 1 11 HT_ ?_
     refine pM 2 12 HT_ ?_
     refine tM 3 13 rfl HT_ HW_ (by rintro w' ⟨s0, s1⟩; go_simp; with_reducible rfl) hHeld ?_
     refine pM 4 14 HT_ ?_
     refine pM 5 15 HT_ ?_
     refine pM 6 16 HT_ ?_
     refine tM 7 17 rfl HT_ HW_ (by rintro w' ⟨s0, s1⟩; go_simp; with_reducible rfl) hHeld ?_
     refine pM 8 18 HT_ ?_
     refine pM 9 19 HT_ ?_
     refine pM 10 20 HT_ ?_
     refine pM 11 21 HT_ ?_
     refine pM 12 22 HT_ ?_
     refine pM 13 23 HT_ ?_
     refine tM 14 24 rfl HT_ HW_ (by rintro w' ⟨s0, s1⟩; go_simp; with_reducible rfl) hHeld ?_
     refine pM 15 25 HT_ ?_
     refine pM 16 26 HT_ ?_
     refine pM 17 27 HT_ ?_
     refine tM 18 28 rfl HT_ HW_ (by rintro w' ⟨s0, s1⟩; go_simp; with_reducible rfl) hHeld ?_
     refine take_ (i := 19) (N := some 29) (v := ?_) (a' := ?_) #[true, true, true, true, true, true, true, true, true, true, true, true, true, true, true, true, true, true, true, true, false, false, false, false, false, false, false, false, false, false, false, false, false, false, false, false, false, false, false, false, false, false, false, false, false, false, false, false, false, false, false, false, false, false] rfl rfl (take_ofW HT_.out HW_.out (by kernel_rfl)) (fun _ _ _ h => h) (Or.inl ⟨by rfl, ?_⟩) hHeld ?_ ?_
     rotate_left
     ·
      intro w' _
      go_simp
      with_reducible rfl
     rotate_left
     ·
      simp only [mP]
      rfl
     refine one_ (i := 20) (N := some 30) #[true, true, true, true, true, true, true, true, true, true, true, true, true, true, true, true, true, true, true, true, true, false, false, false, false, false, false, false, false, false, false, false, false, false, false, false, false, false, false, false, false, false, false, false, false, false, false, false, false, false, false, false, false, false] rfl rfl (one_of HT_.out (by kernel_rfl)) (by decide) (fun K hK => ?_)
     refine goes_ Tryd.func92 (by kernel_rfl) rfl #[.int .u8 (bt t169 x1001_1)] (by rfl) rfl rfl (by (try simp only [List.map_toArray, List.map_cons, List.map_nil]); first | done | rfl | (simp only [List.length_drop, List.length_take]; rfl)) ?_
     with_reducible refine (lang_letter.calls (bt t169 x1001_1) false _ A10.out).mono ?_
     rintro e w' ⟨rfl, ⟨nd, rfl⟩⟩
     refine ⟨_, rfl, ?_⟩
     have p14 : 0 ≤ (x1001_1 : Int) := of_decide_eq_true (by assumption)
     have q14 : x1001_1 < (t169.size : Int) := of_decide_eq_true (by assumption)
     have hx14 := bt_at t169 x1001_1
     replace p14 := eq_true p14
     replace q14 := eq_true q14
     refine hK.out _ _ ⟨cellS81_0 HI0.out.1, cellS81_1 HI0.out.1⟩ (fun hHeld => ?_)
     clear hK K
     refine norm_ (by show Act.put _ (some 30) _ = _; simp only [mP]; rfl) ?_
     refine pM 21 31 HT_ ?_
     refine pM 22 32 HT_ ?_
     refine pM 23 33 HT_ ?_
     refine pM 24 34 HT_ ?_
     refine tM 25 35 rfl HT_ HW_ (by rintro w' ⟨s0, s1⟩; go_simp; with_reducible rfl) hHeld ?_
     refine pM 26 36 HT_ ?_
     refine pM 27 37 HT_ ?_
     refine pM 28 38 HT_ ?_
     refine pM 29 39 HT_ ?_
     refine pM 30 40 HT_ ?_
     refine pM 31 41 HT_ ?_
     refine tM 32 42 rfl HT_ HW_ (by rintro w' ⟨s0, s1⟩; go_simp; with_reducible rfl) hHeld ?_
     refine pM 33 43 HT_ ?_
     refine pM 34 44 HT_ ?_
     refine pM 35 45 HT_ ?_
     refine tM 36 46 rfl HT_ HW_ (by rintro w' ⟨s0, s1⟩; go_simp; with_reducible rfl) hHeld ?_
     refine take_ (i := 37) (N := some 47) (v := ?_) (a' := ?_) #[true, true, true, true, true, true, true, true, true, true, true, true, true, true, true, true, true, true, true, true, true, true, true, true, true, true, true, true, true, true, true, true, true, true, true, true, true, true, false, false, false, false, false, false, false, false, false, false, false, false, false, false, false, false] rfl rfl (take_ofW HT_.out HW_.out (by kernel_rfl)) (fun _ _ _ h => h) (Or.inl ⟨by rfl, ?_⟩) hHeld ?_ ?_
     rotate_left
     ·
      intro w' _
      go_simp
      with_reducible rfl
     rotate_left
     ·
      simp only [mP]
      rfl
     refine one_ (i := 38) (N := some 48) #[true, true, true, true, true, true, true, true, true, true, true, true, true, true, true, true, true, true, true, true, true, true, true, true, true, true, true, true, true, true, true, true, true, true, true, true, true, true, true, false, false, false, false, false, false, false, false, false, false, false, false, false, false, false] rfl rfl (one_of HT_.out (by kernel_rfl)) (by decide) (fun K hK => ?_)
     refine goes_ Tryd.func93 (by kernel_rfl) rfl #[.int .u8 (bt t169 x1001_1)] (by rfl) rfl rfl (by (try simp only [List.map_toArray, List.map_cons, List.map_nil]); first | done | rfl | (simp only [List.length_drop, List.length_take]; rfl)) ?_
     with_reducible refine (lang_digit.calls (bt t169 x1001_1) true _ A15.out).mono ?_
     rintro e w' ⟨rfl, ⟨nd, rfl⟩⟩
     refine ⟨_, rfl, ?_⟩
     refine hK.out _ _ ⟨cellS81_0 HI0.out.1, cellS81_1 HI0.out.1⟩ (fun hHeld => ?_)
     clear hK K
     refine norm_ (by show Act.put _ (some 48) _ = _; simp only [mP]; rfl) ?_
     refine pM 39 49 HT_ ?_
     refine uM 40 50 HT_ ?_
     refine uM 41 51 HT_ ?_
     refine uM 42 52 HT_ ?_
     refine uM 43 53 HT_ ?_
     refine uM 44 54 HT_ ?_
     refine uM 45 55 HT_ ?_
     refine uM 46 56 HT_ ?_
     refine uM 47 57 HT_ ?_
     refine uM 48 58 HT_ ?_
     refine uM 49 59 HT_ ?_
     refine pM 50 60 HT_ ?_
     refine pM 51 61 HT_ ?_
     refine pM 52 62 HT_ ?_
     refine pM 53 63 HT_ ?_
     refine done_ (done_of HT_.out (by kernel_rfl)) ?_
     try go_wp2
     go_meet
     case rel => exact ⟨_, (true), rfl, H', ⟨by have := HK1.out; first | omega | exact Nat.le_refl _⟩, HI0, HK, ⟨hO HB⟩⟩
    replace c16 := Bool.eq_false_iff.mpr c16
    subst c16
    rw [if_neg (show ¬ (false = true) by decide)] at H
    have H' := Aside0.mk H
    clear H
    try go_wp2
    replace HI0 := Aside0.mk (IsS81.drew HI0.out); replace HK := Aside0.mk (keep_drew HK.out); replace HB := Aside0.mk (below_drew1 HB.out)
    have p9 : 0 ≤ (x1001_1 : Int) := of_decide_eq_true (by assumption)
    have q9 : x1001_1 < (t169.size : Int) := of_decide_eq_true (by assumption)
    have hx9 := bt_at t169 x1001_1
    replace p9 := eq_true p9
    replace q9 := eq_true q9
    refine start_ (n := 54) (S := fun w' => w'.cell? ⟨g, 0, none⟩ = some (.string t169) ∧ w'.cell? ⟨g, 1, none⟩ = some (.int .i64 x1001_1)) (ds := []) #[false, false, false, false, false, false, false, false, false, false, false, false, false, false, false, false, false, false, false, false, false, false, false, false, false, false, false, false, false, false, false, false, false, false, false, false, false, false, false, false, false, false, false, false, false, false, false, false, false, false, false, false, false, false] (by kernel_rfl) rfl rfl ⟨cellS81_0 HI0.out.1, cellS81_1 HI0.out.1⟩ (fun hHeld => ?_); refine with_tabW lang_reader_word.tab3 lang_reader_word.bits3 (fun HT_ HW_ => ?_)
    generalize wr.drew = w19 at HI0 HK HB hHeld ⊢
    refine pM 0 10 HT_ ?_
    refine pM 1 11 HT_ ?_
    refine pM 2 12 HT_ ?_
    refine tM 3 13 rfl HT_ HW_ (by rintro w' ⟨s0, s1⟩; go_simp; with_reducible rfl) hHeld ?_
    refine pM 4 14 HT_ ?_
    refine pM 5 15 HT_ ?_
    refine pM 6 16 HT_ ?_
    refine tM 7 17 rfl HT_ HW_ (by rintro w' ⟨s0, s1⟩; go_simp; with_reducible rfl) hHeld ?_
    refine pM 8 18 HT_ ?_
    refine pM 9 19 HT_ ?_
    refine pM 10 20 HT_ ?_
    refine pM 11 21 HT_ ?_
    refine pM 12 22 HT_ ?_
    refine pM 13 23 HT_ ?_
    refine tM 14 24 rfl HT_ HW_ (by rintro w' ⟨s0, s1⟩; go_simp; with_reducible rfl) hHeld ?_
    refine pM 15 25 HT_ ?_
    refine pM 16 26 HT_ ?_
    refine pM 17 27 HT_ ?_
    refine tM 18 28 rfl HT_ HW_ (by rintro w' ⟨s0, s1⟩; go_simp; with_reducible rfl) hHeld ?_
    refine take_ (i := 19) (N := some 29) (v := ?_) (a' := ?_) #[true, true, true, true, true, true, true, true, true, true, true, true, true, true, true, true, true, true, true, true, false, false, false, false, false, false, false, false, false, false, false, false, false, false, false, false, false, false, false, false, false, false, false, false, false, false, false, false, false, false, false, false, false, false] rfl rfl (take_ofW HT_.out HW_.out (by kernel_rfl)) (fun _ _ _ h => h) (Or.inl ⟨by rfl, ?_⟩) hHeld ?_ ?_
    rotate_left
    ·
     intro w' _
     go_simp
     with_reducible rfl
    rotate_left
    ·
     simp only [mP]
     rfl
    refine one_ (i := 20) (N := some 30) #[true, true, true, true, true, true, true, true, true, true, true, true, true, true, true, true, true, true, true, true, true, false, false, false, false, false, false, false, false, false, false, false, false, false, false, false, false, false, false, false, false, false, false, false, false, false, false, false, false, false, false, false, false, false] rfl rfl (one_of HT_.out (by kernel_rfl)) (by decide) (fun K hK => ?_)
    refine goes_ Tryd.func92 (by kernel_rfl) rfl #[.int .u8 (bt t169 x1001_1)] (by rfl) rfl rfl (by (try simp only [List.map_toArray, List.map_cons, List.map_nil]); first | done | rfl | (simp only [List.length_drop, List.length_take]; rfl)) ?_
    with_reducible refine (lang_letter.calls (bt t169 x1001_1) false _ A10.out).mono ?_
    rintro e w' ⟨rfl, ⟨nd, rfl⟩⟩
    refine ⟨_, rfl, ?_⟩
    have p14 : 0 ≤ (x1001_1 : Int) := of_decide_eq_true (by assumption)
    have q14 : x1001_1 < (t169.size : Int) := of_decide_eq_true (by assumption)
    have hx14 := bt_at t169 x1001_1
    replace p14 := eq_true p14
    replace q14 := eq_true q14
    refine hK.out _ _ ⟨cellS81_0 HI0.out.1, cellS81_1 HI0.out.1⟩ (fun hHeld => ?_)
    clear hK K
    refine norm_ (by show Act.put _ (some 30) _ = _; simp only [mP]; rfl) ?_
    refine pM 21 31 HT_ ?_
    refine pM 22 32 HT_ ?_
    refine pM 23 33 HT_ ?_
    refine pM 24 34 HT_ ?_
    refine tM 25 35 rfl HT_ HW_ (by rintro w' ⟨s0, s1⟩; go_simp; with_reducible rfl) hHeld ?_
    refine pM 26 36 HT_ ?_
    refine pM 27 37 HT_ ?_
    refine pM 28 38 HT_ ?_
    refine pM 29 39 HT_ ?_
    refine pM 30 40 HT_ ?_
    refine pM 31 41 HT_ ?_
    refine tM 32 42 rfl HT_ HW_ (by rintro w' ⟨s0, s1⟩; go_simp; with_reducible rfl) hHeld ?_
    refine pM 33 43 HT_ ?_
    refine pM 34 44 HT_ ?_
    refine pM 35 45 HT_ ?_
    refine tM 36 46 rfl HT_ HW_ (by rintro w' ⟨s0, s1⟩; go_simp; with_reducible rfl) hHeld ?_
    refine take_ (i := 37) (N := some 47) (v := ?_) (a' := ?_) #[true, true, true, true, true, true, true, true, true, true, true, true, true, true, true, true, true, true, true, true, true, true, true, true, true, true, true, true, true, true, true, true, true, true, true, true, true, true, false, false, false, false, false, false, false, false, false, false, false, false, false, false, false, false] rfl rfl (take_ofW HT_.out HW_.out (by kernel_rfl)) (fun _ _ _ h => h) (Or.inl ⟨by rfl, ?_⟩) hHeld ?_ ?_
    rotate_left
    ·
     intro w' _
     go_simp
     with_reducible rfl
    rotate_left
    ·
     simp only [mP]
     rfl
    refine one_ (i := 38) (N := some 48) #[true, true, true, true, true, true, true, true, true, true, true, true, true, true, true, true, true, true, true, true, true, true, true, true, true, true, true, true, true, true, true, true, true, true, true, true, true, true, true, false, false, false, false, false, false, false, false, false, false, false, false, false, false, false] rfl rfl (one_of HT_.out (by kernel_rfl)) (by decide) (fun K hK => ?_)
    refine goes_ Tryd.func93 (by kernel_rfl) rfl #[.int .u8 (bt t169 x1001_1)] (by rfl) rfl rfl (by (try simp only [List.map_toArray, List.map_cons, List.map_nil]); first | done | rfl | (simp only [List.length_drop, List.length_take]; rfl)) ?_
    with_reducible refine (lang_digit.calls (bt t169 x1001_1) false _ A15.out).mono ?_
    rintro e w' ⟨rfl, ⟨nd, rfl⟩⟩
    refine ⟨_, rfl, ?_⟩
    have p18 : 0 ≤ (x1001_1 : Int) := of_decide_eq_true (by assumption)
    have q18 : x1001_1 < (t169.size : Int) := of_decide_eq_true (by assumption)
    have hx18 := bt_at t169 x1001_1
    replace p18 := eq_true p18
    replace q18 := eq_true q18
    refine hK.out _ _ ⟨cellS81_0 HI0.out.1, cellS81_1 HI0.out.1⟩ (fun hHeld => ?_)
    clear hK K
    refine norm_ (by show Act.put _ (some 48) _ = _; simp only [mP]; rfl) ?_
    refine pM 39 49 HT_ ?_
    refine pM 40 50 HT_ ?_
    refine pM 41 51 HT_ ?_
    refine pM 42 52 HT_ ?_
    refine tM 43 53 rfl HT_ HW_ (by rintro w' ⟨s0, s1⟩; go_simp; with_reducible rfl) hHeld ?_
    refine pM 44 54 HT_ ?_
    refine pM 45 55 HT_ ?_
    refine pM 46 56 HT_ ?_
    refine tM 47 57 rfl HT_ HW_ (by rintro w' ⟨s0, s1⟩; go_simp; with_reducible rfl) hHeld ?_
    refine take_ (i := 48) (N := some 58) (v := ?_) (a' := ?_) #[true, true, true, true, true, true, true, true, true, true, true, true, true, true, true, true, true, true, true, true, true, true, true, true, true, true, true, true, true, true, true, true, true, true, true, true, true, true, true, true, true, true, true, true, true, true, true, true, true, false, false, false, false, false] rfl rfl (take_ofW HT_.out HW_.out (by kernel_rfl)) (fun _ _ _ h => h) (Or.inl ⟨by rfl, ?_⟩) hHeld ?_ ?_
    rotate_left
    ·
     intro w' _
     go_simp
     with_reducible rfl
    rotate_left
    ·
     simp only [mP]
     rfl
    refine pM 49 59 HT_ ?_
    refine pM 50 60 HT_ ?_
    refine pM 51 61 HT_ ?_
    refine pM 52 62 HT_ ?_
    refine pM 53 63 HT_ ?_
    refine done_ (done_of HT_.out (by kernel_rfl)) ?_
    try go_wp2
    go_meet
    case rel => exact ⟨_, (((bt t169 x1001_1) == 45)), rfl, H', ⟨by have := HK1.out; first | omega | exact Nat.le_refl _⟩, HI0, HK, ⟨hO HB⟩⟩
   case rest =>
    clear HC5; try clear p2; try clear c7; try clear c7b0; try clear c8; try clear c9
    obtain ⟨kq, x63_4, rfl, HA, HJ4, HI0, HK, HB⟩ := hcut
    cases kq with
    | zero => exact absurd HA.out (by simp [lang_reader_word.j1])
    | succ kj4 =>
     have H := HA.out
     clear HA
     simp only [lang_reader_word.j1] at H
     by_cases c22 : x63_4 = true
     ·
      subst c22
      rw [if_pos rfl] at H
      have H' := Aside0.mk H
      clear H
      obtain ⟨HGz23, hgz23⟩ := HI0.out
      have hcz23_0 := cellS81_0 HGz23; have hcz23_1 := cellS81_1 HGz23; have hfz23_0 := blk_frozen HGz23 0; have hfz23_1 := blk_frozen HGz23 1
      clear HGz23 hgz23
      go_wp2
      go_roundg kj4
      case measure => have := HK1.out; have := HJ4.out; omega
      case rel => exact ⟨(wrap64 (x1001_1 + 1)), H', ⟨by have := HK1.out; have := HJ4.out; omega⟩, ⟨by repeat (first | (with_reducible first | exact HI0.out | apply IsS81.alloc | apply IsS81.drewN | apply IsS81.drew | apply IsS81.set_0 | apply IsS81.set_1) | exact HI0.out)⟩, ⟨by repeat (first | (with_reducible first | exact HK.out | apply KeepBut.set_ | apply keep_drewN | apply keep_drew | apply keep_alloc) | exact HK.out)⟩, ⟨by repeat (first | (with_reducible first | exact HB.out | apply below_alloc | apply pw_below_drewN | apply below_drew1 | refine below_set ?_ (IsS81.ge HI0.out)) | exact HB.out)⟩⟩
     replace c22 := Bool.eq_false_iff.mpr c22
     subst c22
     rw [if_neg (show ¬ (false = true) by decide)] at H
     by_cases c24 : x1001_1 = t170
     rotate_left
     ·
      rw [if_neg c24] at H
      have c24b0 := beq_eq_false_iff_ne.mpr c24
      have c24b1 := bne_iff_ne.mpr c24
      obtain ⟨c33, H⟩ : (0 ≤ t170) ∧ _ := mIf H
      have c33b0 := eq_true c33
      have c33b1 := decide_eq_true c33
      clear c33
      obtain ⟨c34, H⟩ : (t170 ≤ x1001_1) ∧ _ := mIf H
      have c34b0 := eq_true c34
      have c34b1 := decide_eq_true c34
      clear c34
      obtain ⟨c35, H⟩ : (x1001_1 ≤ (t169.size : Int)) ∧ _ := mIf H
      have c35b0 := eq_true c35
      have c35b1 := decide_eq_true c35
      clear c35
      simp only [Option.some.injEq, Prod.mk.injEq] at H
      obtain ⟨rfl, rfl, rfl⟩ := H
      obtain ⟨HGz36, hgz36⟩ := HI0.out
      have hcz36_0 := cellS81_0 HGz36; have hcz36_1 := cellS81_1 HGz36; have hfz36_0 := blk_frozen HGz36 0; have hfz36_1 := blk_frozen HGz36 1
      clear HGz36 hgz36
      try go_wp2
      replace HI0 := Aside0.mk (IsS81.drew HI0.out); replace HK := Aside0.mk (keep_drew HK.out); replace HB := Aside0.mk (below_drew1 HB.out)
      refine start_ (n := 11) (S := fun w' => w'.cell? ⟨g, 0, none⟩ = some (.string t169) ∧ w'.cell? ⟨g, 1, none⟩ = some (.int .i64 x1001_1)) (ds := []) #[false, false, false, false, false, false, false, false, false, false, false] (by kernel_rfl) rfl rfl ⟨cellS81_0 HI0.out.1, cellS81_1 HI0.out.1⟩ (fun hHeld => ?_); refine with_tabW lang_reader_word.tab7 lang_reader_word.bits7 (fun HT_ HW_ => ?_)
      generalize wc.drew = w37 at HI0 HK HB hHeld ⊢
      refine pM 0 79 HT_ ?_
      refine pM 1 80 HT_ ?_
      refine pM 2 81 HT_ ?_
      refine tM 3 82 rfl HT_ HW_ (by rintro w' ⟨s0, s1⟩; go_simp; with_reducible rfl) hHeld ?_
      refine pM 4 83 HT_ ?_
      refine pM 5 84 HT_ ?_
      refine pM 6 85 HT_ ?_
      refine pM 7 86 HT_ ?_
      refine tM 8 87 rfl HT_ HW_ (by rintro w' ⟨s0, s1⟩; go_simp; with_reducible rfl) hHeld ?_
      refine pM 9 88 HT_ ?_
      refine pM 10 2 HT_ ?_
      refine done_ (done_of HT_.out (by kernel_rfl)) ?_
      try go_wp2
      go_ret
      exact ⟨rfl, by repeat (first | (with_reducible first | exact HI0.out | apply IsS81.alloc | apply IsS81.drewN | apply IsS81.drew | apply IsS81.set_0 | apply IsS81.set_1) | exact HI0.out), by repeat (first | (with_reducible first | exact HB.out | apply below_alloc | apply pw_below_drewN | apply below_drew1 | refine below_set ?_ (IsS81.ge HI0.out)) | exact HB.out), by repeat (first | (with_reducible first | exact HK.out | apply KeepBut.set_ | apply keep_drewN | apply keep_drew | apply keep_alloc) | exact HK.out)⟩
     rw [if_pos c24] at H
     have c24b0 := beq_iff_eq.mpr c24
     have c24b1 := bne_eq_false_iff_eq.mpr c24
     clear c24
     replace H := Option.bind_eq_some_iff.mp H
     obtain ⟨⟨t173, t174⟩, A250, H⟩ := H
     try dsimp only at H
     have A25 := Aside0.mk A250
     clear A250
     obtain ⟨c26, H⟩ : (0 ≤ t170) ∧ _ := mIf H
     have c26b0 := eq_true c26
     have c26b1 := decide_eq_true c26
     clear c26
     obtain ⟨c27, H⟩ : (t170 ≤ t174) ∧ _ := mIf H
     have c27b0 := eq_true c27
     have c27b1 := decide_eq_true c27
     clear c27
     obtain ⟨c28, H⟩ : (t174 ≤ (t173.size : Int)) ∧ _ := mIf H
     have c28b0 := eq_true c28
     have c28b1 := decide_eq_true c28
     clear c28
     simp only [Option.some.injEq, Prod.mk.injEq] at H
     obtain ⟨rfl, rfl, rfl⟩ := H
     obtain ⟨HGz29, hgz29⟩ := HI0.out
     have hcz29_0 := cellS81_0 HGz29; have hcz29_1 := cellS81_1 HGz29; have hfz29_0 := blk_frozen HGz29 0; have hfz29_1 := blk_frozen HGz29 1
     clear HGz29 hgz29
     try go_wp2_with (first | ((with_reducible refine gate_callee (f := 63) rfl ?_); refine goesL_ (some 78) rfl rfl Tryd.func63 (by kernel_rfl) rfl #[.pointer (some ⟨g, 0, none⟩)] rfl (mA1 rfl) ?_; (with_reducible refine (lang_reader_fail.calls g t169 x1001_1 t173 t174 w0 _ ?side1 ?side2 A25.out).mono ?_); (case side1 => repeat (first | (with_reducible first | exact HI0.out | apply IsS81.alloc | apply IsS81.drewN | apply IsS81.drew | apply IsS81.set_0 | apply IsS81.set_1) | exact HI0.out)); (case side2 => repeat (first | (with_reducible first | exact HB.out | apply below_alloc | apply pw_below_drewN | apply below_drew1 | refine below_set ?_ (IsS81.ge HI0.out)) | exact HB.out)); rintro e w30 ⟨rfl, hi, hb, hk⟩; refine ⟨_, rfl, ?_⟩; replace HK := Aside0.mk (KeepBut.trans (by repeat (first | (with_reducible first | exact HK.out | apply KeepBut.set_ | apply keep_drewN | apply keep_drew | apply keep_alloc) | exact HK.out)) hk (.inl rfl)); replace HB := Aside0.mk hb; replace HI0 := Aside0.mk (hi); (try clear hb); obtain ⟨HGz31, hgz31⟩ := HI0.out; have hcz31_0 := cellS81_0 HGz31; have hcz31_1 := cellS81_1 HGz31; have hfz31_0 := blk_frozen HGz31 0; have hfz31_1 := blk_frozen HGz31 1; clear HGz31 hgz31))
     replace HI0 := Aside0.mk (IsS81.drew HI0.out); replace HK := Aside0.mk (keep_drew HK.out); replace HB := Aside0.mk (below_drew1 HB.out)
     refine start_ (n := 11) (S := fun w' => w'.cell? ⟨g, 0, none⟩ = some (.string t173) ∧ w'.cell? ⟨g, 1, none⟩ = some (.int .i64 t174)) (ds := []) #[false, false, false, false, false, false, false, false, false, false, false] (by kernel_rfl) rfl rfl ⟨cellS81_0 HI0.out.1, cellS81_1 HI0.out.1⟩ (fun hHeld => ?_); refine with_tabW lang_reader_word.tab7 lang_reader_word.bits7 (fun HT_ HW_ => ?_)
     generalize w30.drew = w32 at HI0 HK HB hHeld ⊢
     refine pM 0 79 HT_ ?_
     refine pM 1 80 HT_ ?_
     refine pM 2 81 HT_ ?_
     refine tM 3 82 rfl HT_ HW_ (by rintro w' ⟨s0, s1⟩; go_simp; with_reducible rfl) hHeld ?_
     refine pM 4 83 HT_ ?_
     refine pM 5 84 HT_ ?_
     refine pM 6 85 HT_ ?_
     refine pM 7 86 HT_ ?_
     refine tM 8 87 rfl HT_ HW_ (by rintro w' ⟨s0, s1⟩; go_simp; with_reducible rfl) hHeld ?_
     refine pM 9 88 HT_ ?_
     refine pM 10 2 HT_ ?_
     refine done_ (done_of HT_.out (by kernel_rfl)) ?_
     try go_wp2
     go_ret
     exact ⟨rfl, by repeat (first | (with_reducible first | exact HI0.out | apply IsS81.alloc | apply IsS81.drewN | apply IsS81.drew | apply IsS81.set_0 | apply IsS81.set_1) | exact HI0.out), by repeat (first | (with_reducible first | exact HB.out | apply below_alloc | apply pw_below_drewN | apply below_drew1 | refine below_set ?_ (IsS81.ge HI0.out)) | exact HB.out), by repeat (first | (with_reducible first | exact HK.out | apply KeepBut.set_ | apply keep_drewN | apply keep_drew | apply keep_alloc) | exact HK.out)⟩
def lang_reader_is.f (k : Nat) (s0_0 : ByteArray) (s0_1 : Int) (a1 : Int) : Option (Bool × ByteArray × Int) := (lang_reader_space.f k s0_0 s0_1).bind fun bt175 => (if bt175.2 < (bt175.1.size : Int) then (if 0 ≤ bt175.2 then (if (bt bt175.1 bt175.2) = a1 then (some (true, bt175.1, wrap64 (bt175.2 + 1))) else (some (false, bt175.1, bt175.2))) else (none)) else (some (false, bt175.1, bt175.2)))
set_option maxHeartbeats 8000000 in
set_option maxRecDepth 100000 in
theorem lang_reader_is.calls (k : Nat) (g : Nat) (s0_0 : ByteArray) (s0_1 : Int) (a1 : Int) (r1 : Bool) (r2 : ByteArray) (r3 : Int) (w0 w : World) (hI : IsS81 w0 w g s0_0 s0_1) (hB : Below w0.heap.size w0 w) (h : lang_reader_is.f k s0_0 s0_1 a1 = some (r1, r2, r3)) :
  Calls Tryd.prog 84 #[.pointer (some ⟨g, 0, none⟩), .int .u8 a1] w fun e w' => e = .returned (.bool r1) ∧ IsS81 w0 w' g r2 r3 ∧ Below w0.heap.size w0 w' ∧ KeepBut w w' g none := by
 have HI0 := Aside0.mk hI
 have HK := Aside0.mk (KeepBut.refl w g none)
 have HL := Aside0.mk hB.size
 clear hI
 have HW0 := Aside0.mk hB.size
 have HB := Aside0.mk hB
 clear hB
 have H := h
 unfold lang_reader_is.f at H
 clear h
 replace H := Option.bind_eq_some_iff.mp H
 obtain ⟨⟨t175, t176⟩, A30, H⟩ := H
 try dsimp only at H
 have A3 := Aside0.mk A30
 clear A30
 by_cases c4 : t176 < (t175.size : Int)
 rotate_left
 ·
  rw [if_neg c4] at H
  have c4b0 := decide_eq_false c4
  clear c4
  simp only [Option.some.injEq, Prod.mk.injEq] at H
  obtain ⟨rfl, rfl, rfl⟩ := H
  go_enter Tryd.func84, Tryd.ntmps84
  go_wp2_with (first | (go_at_call 62; (with_reducible refine (lang_reader_space.calls k g s0_0 s0_1 t175 t176 w0 _ ?side1 ?side2 A3.out).mono ?_); (case side1 => repeat (first | (with_reducible first | exact HI0.out | apply IsS81.alloc | apply IsS81.drewN | apply IsS81.drew | apply IsS81.set_0 | apply IsS81.set_1) | exact HI0.out)); (case side2 => repeat (first | (with_reducible first | exact HB.out | apply below_alloc | apply pw_below_drewN | apply below_drew1 | refine below_set ?_ (IsS81.ge HI0.out)) | exact HB.out)); rintro e w12 ⟨rfl, hi, hb, hk⟩; replace HK := Aside0.mk (KeepBut.trans (by repeat (first | (with_reducible first | exact HK.out | apply KeepBut.set_ | apply keep_drewN | apply keep_drew | apply keep_alloc) | exact HK.out)) hk (.inl rfl)); replace HB := Aside0.mk hb; replace HI0 := Aside0.mk (hi); (try clear hb); obtain ⟨HGz13, hgz13⟩ := HI0.out; have hcz13_0 := cellS81_0 HGz13; have hcz13_1 := cellS81_1 HGz13; have hfz13_0 := blk_frozen HGz13 0; have hfz13_1 := blk_frozen HGz13 1; clear HGz13 hgz13))
  repeat (go_quiet (first | (go_at_call 62; (with_reducible refine (lang_reader_space.calls k g s0_0 s0_1 t175 t176 w0 _ ?side1 ?side2 A3.out).mono ?_); (case side1 => repeat (first | (with_reducible first | exact HI0.out | apply IsS81.alloc | apply IsS81.drewN | apply IsS81.drew | apply IsS81.set_0 | apply IsS81.set_1) | exact HI0.out)); (case side2 => repeat (first | (with_reducible first | exact HB.out | apply below_alloc | apply pw_below_drewN | apply below_drew1 | refine below_set ?_ (IsS81.ge HI0.out)) | exact HB.out)); rintro e w12 ⟨rfl, hi, hb, hk⟩; replace HK := Aside0.mk (KeepBut.trans (by repeat (first | (with_reducible first | exact HK.out | apply KeepBut.set_ | apply keep_drewN | apply keep_drew | apply keep_alloc) | exact HK.out)) hk (.inl rfl)); replace HB := Aside0.mk hb; replace HI0 := Aside0.mk (hi); (try clear hb); obtain ⟨HGz13, hgz13⟩ := HI0.out; have hcz13_0 := cellS81_0 HGz13; have hcz13_1 := cellS81_1 HGz13; have hfz13_0 := blk_frozen HGz13 0; have hfz13_1 := blk_frozen HGz13 1; clear HGz13 hgz13)); try go_wp2_with (first | (go_at_call 62; (with_reducible refine (lang_reader_space.calls k g s0_0 s0_1 t175 t176 w0 _ ?side1 ?side2 A3.out).mono ?_); (case side1 => repeat (first | (with_reducible first | exact HI0.out | apply IsS81.alloc | apply IsS81.drewN | apply IsS81.drew | apply IsS81.set_0 | apply IsS81.set_1) | exact HI0.out)); (case side2 => repeat (first | (with_reducible first | exact HB.out | apply below_alloc | apply pw_below_drewN | apply below_drew1 | refine below_set ?_ (IsS81.ge HI0.out)) | exact HB.out)); rintro e w12 ⟨rfl, hi, hb, hk⟩; replace HK := Aside0.mk (KeepBut.trans (by repeat (first | (with_reducible first | exact HK.out | apply KeepBut.set_ | apply keep_drewN | apply keep_drew | apply keep_alloc) | exact HK.out)) hk (.inl rfl)); replace HB := Aside0.mk hb; replace HI0 := Aside0.mk (hi); (try clear hb); obtain ⟨HGz13, hgz13⟩ := HI0.out; have hcz13_0 := cellS81_0 HGz13; have hcz13_1 := cellS81_1 HGz13; have hfz13_0 := blk_frozen HGz13 0; have hfz13_1 := blk_frozen HGz13 1; clear HGz13 hgz13)))
  go_ret
  exact ⟨rfl, by repeat (first | (with_reducible first | exact HI0.out | apply IsS81.alloc | apply IsS81.drewN | apply IsS81.drew | apply IsS81.set_0 | apply IsS81.set_1) | exact HI0.out), by repeat (first | (with_reducible first | exact HB.out | apply below_alloc | apply pw_below_drewN | apply below_drew1 | refine below_set ?_ (IsS81.ge HI0.out)) | exact HB.out), by repeat (first | (with_reducible first | exact HK.out | apply KeepBut.set_ | apply keep_drewN | apply keep_drew | apply keep_alloc) | exact HK.out)⟩
 rw [if_pos c4] at H
 have c4b0 := decide_eq_true c4
 clear c4
 obtain ⟨c5, H⟩ : (0 ≤ t176) ∧ _ := mIf H
 have c5b0 := decide_eq_true c5
 clear c5
 by_cases c7 : (bt t175 t176) = a1
 rotate_left
 ·
  rw [if_neg c7] at H
  have c7b0 := beq_eq_false_iff_ne.mpr c7
  have c7b1 := bne_iff_ne.mpr c7
  simp only [Option.some.injEq, Prod.mk.injEq] at H
  obtain ⟨rfl, rfl, rfl⟩ := H
  go_enter Tryd.func84, Tryd.ntmps84
  go_wp2_with (first | (go_at_call 62; (with_reducible refine (lang_reader_space.calls k g s0_0 s0_1 t175 t176 w0 _ ?side1 ?side2 A3.out).mono ?_); (case side1 => repeat (first | (with_reducible first | exact HI0.out | apply IsS81.alloc | apply IsS81.drewN | apply IsS81.drew | apply IsS81.set_0 | apply IsS81.set_1) | exact HI0.out)); (case side2 => repeat (first | (with_reducible first | exact HB.out | apply below_alloc | apply pw_below_drewN | apply below_drew1 | refine below_set ?_ (IsS81.ge HI0.out)) | exact HB.out)); rintro e w10 ⟨rfl, hi, hb, hk⟩; replace HK := Aside0.mk (KeepBut.trans (by repeat (first | (with_reducible first | exact HK.out | apply KeepBut.set_ | apply keep_drewN | apply keep_drew | apply keep_alloc) | exact HK.out)) hk (.inl rfl)); replace HB := Aside0.mk hb; replace HI0 := Aside0.mk (hi); (try clear hb); obtain ⟨HGz11, hgz11⟩ := HI0.out; have hcz11_0 := cellS81_0 HGz11; have hcz11_1 := cellS81_1 HGz11; have hfz11_0 := blk_frozen HGz11 0; have hfz11_1 := blk_frozen HGz11 1; clear HGz11 hgz11; have p6 : 0 ≤ (t176 : Int) := of_decide_eq_true (by assumption); have q6 : t176 < (t175.size : Int) := of_decide_eq_true (by assumption); have hx6 := bt_at t175 t176; replace p6 := eq_true p6; replace q6 := eq_true q6))
  repeat (go_quiet (first | (go_at_call 62; (with_reducible refine (lang_reader_space.calls k g s0_0 s0_1 t175 t176 w0 _ ?side1 ?side2 A3.out).mono ?_); (case side1 => repeat (first | (with_reducible first | exact HI0.out | apply IsS81.alloc | apply IsS81.drewN | apply IsS81.drew | apply IsS81.set_0 | apply IsS81.set_1) | exact HI0.out)); (case side2 => repeat (first | (with_reducible first | exact HB.out | apply below_alloc | apply pw_below_drewN | apply below_drew1 | refine below_set ?_ (IsS81.ge HI0.out)) | exact HB.out)); rintro e w10 ⟨rfl, hi, hb, hk⟩; replace HK := Aside0.mk (KeepBut.trans (by repeat (first | (with_reducible first | exact HK.out | apply KeepBut.set_ | apply keep_drewN | apply keep_drew | apply keep_alloc) | exact HK.out)) hk (.inl rfl)); replace HB := Aside0.mk hb; replace HI0 := Aside0.mk (hi); (try clear hb); obtain ⟨HGz11, hgz11⟩ := HI0.out; have hcz11_0 := cellS81_0 HGz11; have hcz11_1 := cellS81_1 HGz11; have hfz11_0 := blk_frozen HGz11 0; have hfz11_1 := blk_frozen HGz11 1; clear HGz11 hgz11; have p6 : 0 ≤ (t176 : Int) := of_decide_eq_true (by assumption); have q6 : t176 < (t175.size : Int) := of_decide_eq_true (by assumption); have hx6 := bt_at t175 t176; replace p6 := eq_true p6; replace q6 := eq_true q6)); try go_wp2_with (first | (go_at_call 62; (with_reducible refine (lang_reader_space.calls k g s0_0 s0_1 t175 t176 w0 _ ?side1 ?side2 A3.out).mono ?_); (case side1 => repeat (first | (with_reducible first | exact HI0.out | apply IsS81.alloc | apply IsS81.drewN | apply IsS81.drew | apply IsS81.set_0 | apply IsS81.set_1) | exact HI0.out)); (case side2 => repeat (first | (with_reducible first | exact HB.out | apply below_alloc | apply pw_below_drewN | apply below_drew1 | refine below_set ?_ (IsS81.ge HI0.out)) | exact HB.out)); rintro e w10 ⟨rfl, hi, hb, hk⟩; replace HK := Aside0.mk (KeepBut.trans (by repeat (first | (with_reducible first | exact HK.out | apply KeepBut.set_ | apply keep_drewN | apply keep_drew | apply keep_alloc) | exact HK.out)) hk (.inl rfl)); replace HB := Aside0.mk hb; replace HI0 := Aside0.mk (hi); (try clear hb); obtain ⟨HGz11, hgz11⟩ := HI0.out; have hcz11_0 := cellS81_0 HGz11; have hcz11_1 := cellS81_1 HGz11; have hfz11_0 := blk_frozen HGz11 0; have hfz11_1 := blk_frozen HGz11 1; clear HGz11 hgz11; have p6 : 0 ≤ (t176 : Int) := of_decide_eq_true (by assumption); have q6 : t176 < (t175.size : Int) := of_decide_eq_true (by assumption); have hx6 := bt_at t175 t176; replace p6 := eq_true p6; replace q6 := eq_true q6)))
  go_ret
  exact ⟨rfl, by repeat (first | (with_reducible first | exact HI0.out | apply IsS81.alloc | apply IsS81.drewN | apply IsS81.drew | apply IsS81.set_0 | apply IsS81.set_1) | exact HI0.out), by repeat (first | (with_reducible first | exact HB.out | apply below_alloc | apply pw_below_drewN | apply below_drew1 | refine below_set ?_ (IsS81.ge HI0.out)) | exact HB.out), by repeat (first | (with_reducible first | exact HK.out | apply KeepBut.set_ | apply keep_drewN | apply keep_drew | apply keep_alloc) | exact HK.out)⟩
 rw [if_pos c7] at H
 have c7b0 := beq_iff_eq.mpr c7
 have c7b1 := bne_eq_false_iff_eq.mpr c7
 clear c7
 simp only [Option.some.injEq, Prod.mk.injEq] at H
 obtain ⟨rfl, rfl, rfl⟩ := H
 go_enter Tryd.func84, Tryd.ntmps84
 go_wp2_with (first | (go_at_call 62; (with_reducible refine (lang_reader_space.calls k g s0_0 s0_1 t175 t176 w0 _ ?side1 ?side2 A3.out).mono ?_); (case side1 => repeat (first | (with_reducible first | exact HI0.out | apply IsS81.alloc | apply IsS81.drewN | apply IsS81.drew | apply IsS81.set_0 | apply IsS81.set_1) | exact HI0.out)); (case side2 => repeat (first | (with_reducible first | exact HB.out | apply below_alloc | apply pw_below_drewN | apply below_drew1 | refine below_set ?_ (IsS81.ge HI0.out)) | exact HB.out)); rintro e w8 ⟨rfl, hi, hb, hk⟩; replace HK := Aside0.mk (KeepBut.trans (by repeat (first | (with_reducible first | exact HK.out | apply KeepBut.set_ | apply keep_drewN | apply keep_drew | apply keep_alloc) | exact HK.out)) hk (.inl rfl)); replace HB := Aside0.mk hb; replace HI0 := Aside0.mk (hi); (try clear hb); obtain ⟨HGz9, hgz9⟩ := HI0.out; have hcz9_0 := cellS81_0 HGz9; have hcz9_1 := cellS81_1 HGz9; have hfz9_0 := blk_frozen HGz9 0; have hfz9_1 := blk_frozen HGz9 1; clear HGz9 hgz9; have p6 : 0 ≤ (t176 : Int) := of_decide_eq_true (by assumption); have q6 : t176 < (t175.size : Int) := of_decide_eq_true (by assumption); have hx6 := bt_at t175 t176; replace p6 := eq_true p6; replace q6 := eq_true q6))
 repeat (go_quiet (first | (go_at_call 62; (with_reducible refine (lang_reader_space.calls k g s0_0 s0_1 t175 t176 w0 _ ?side1 ?side2 A3.out).mono ?_); (case side1 => repeat (first | (with_reducible first | exact HI0.out | apply IsS81.alloc | apply IsS81.drewN | apply IsS81.drew | apply IsS81.set_0 | apply IsS81.set_1) | exact HI0.out)); (case side2 => repeat (first | (with_reducible first | exact HB.out | apply below_alloc | apply pw_below_drewN | apply below_drew1 | refine below_set ?_ (IsS81.ge HI0.out)) | exact HB.out)); rintro e w8 ⟨rfl, hi, hb, hk⟩; replace HK := Aside0.mk (KeepBut.trans (by repeat (first | (with_reducible first | exact HK.out | apply KeepBut.set_ | apply keep_drewN | apply keep_drew | apply keep_alloc) | exact HK.out)) hk (.inl rfl)); replace HB := Aside0.mk hb; replace HI0 := Aside0.mk (hi); (try clear hb); obtain ⟨HGz9, hgz9⟩ := HI0.out; have hcz9_0 := cellS81_0 HGz9; have hcz9_1 := cellS81_1 HGz9; have hfz9_0 := blk_frozen HGz9 0; have hfz9_1 := blk_frozen HGz9 1; clear HGz9 hgz9; have p6 : 0 ≤ (t176 : Int) := of_decide_eq_true (by assumption); have q6 : t176 < (t175.size : Int) := of_decide_eq_true (by assumption); have hx6 := bt_at t175 t176; replace p6 := eq_true p6; replace q6 := eq_true q6)); try go_wp2_with (first | (go_at_call 62; (with_reducible refine (lang_reader_space.calls k g s0_0 s0_1 t175 t176 w0 _ ?side1 ?side2 A3.out).mono ?_); (case side1 => repeat (first | (with_reducible first | exact HI0.out | apply IsS81.alloc | apply IsS81.drewN | apply IsS81.drew | apply IsS81.set_0 | apply IsS81.set_1) | exact HI0.out)); (case side2 => repeat (first | (with_reducible first | exact HB.out | apply below_alloc | apply pw_below_drewN | apply below_drew1 | refine below_set ?_ (IsS81.ge HI0.out)) | exact HB.out)); rintro e w8 ⟨rfl, hi, hb, hk⟩; replace HK := Aside0.mk (KeepBut.trans (by repeat (first | (with_reducible first | exact HK.out | apply KeepBut.set_ | apply keep_drewN | apply keep_drew | apply keep_alloc) | exact HK.out)) hk (.inl rfl)); replace HB := Aside0.mk hb; replace HI0 := Aside0.mk (hi); (try clear hb); obtain ⟨HGz9, hgz9⟩ := HI0.out; have hcz9_0 := cellS81_0 HGz9; have hcz9_1 := cellS81_1 HGz9; have hfz9_0 := blk_frozen HGz9 0; have hfz9_1 := blk_frozen HGz9 1; clear HGz9 hgz9; have p6 : 0 ≤ (t176 : Int) := of_decide_eq_true (by assumption); have q6 : t176 < (t175.size : Int) := of_decide_eq_true (by assumption); have hx6 := bt_at t175 t176; replace p6 := eq_true p6; replace q6 := eq_true q6)))
 go_ret
 exact ⟨rfl, by repeat (first | (with_reducible first | exact HI0.out | apply IsS81.alloc | apply IsS81.drewN | apply IsS81.drew | apply IsS81.set_0 | apply IsS81.set_1) | exact HI0.out), by repeat (first | (with_reducible first | exact HB.out | apply below_alloc | apply pw_below_drewN | apply below_drew1 | refine below_set ?_ (IsS81.ge HI0.out)) | exact HB.out), by repeat (first | (with_reducible first | exact HK.out | apply KeepBut.set_ | apply keep_drewN | apply keep_drew | apply keep_alloc) | exact HK.out)⟩
def lang_reader_must.f (k : Nat) (s0_0 : ByteArray) (s0_1 : Int) (a1 : Int) : Option (ByteArray × Int) := (lang_reader_is.f k s0_0 s0_1 a1).bind fun bt177 => (if bt177.1 = true then (some (bt177.2.1, bt177.2.2)) else ((lang_reader_fail.f bt177.2.1 bt177.2.2).bind fun bt180 => (some (bt180.1, bt180.2))))
set_option maxHeartbeats 8000000 in
set_option maxRecDepth 100000 in
theorem lang_reader_must.calls (k : Nat) (g : Nat) (s0_0 : ByteArray) (s0_1 : Int) (a1 : Int) (r1 : ByteArray) (r2 : Int) (w0 w : World) (hI : IsS81 w0 w g s0_0 s0_1) (hB : Below w0.heap.size w0 w) (h : lang_reader_must.f k s0_0 s0_1 a1 = some (r1, r2)) :
  Calls Tryd.prog 85 #[.pointer (some ⟨g, 0, none⟩), .int .u8 a1] w fun e w' => e = .returned (.tuple #[]) ∧ IsS81 w0 w' g r1 r2 ∧ Below w0.heap.size w0 w' ∧ KeepBut w w' g none := by
 have HI0 := Aside0.mk hI
 have HK := Aside0.mk (KeepBut.refl w g none)
 have HL := Aside0.mk hB.size
 clear hI
 have HW0 := Aside0.mk hB.size
 have HB := Aside0.mk hB
 clear hB
 have H := h
 unfold lang_reader_must.f at H
 clear h
 replace H := Option.bind_eq_some_iff.mp H
 obtain ⟨⟨t177, t178, t179⟩, A30, H⟩ := H
 try dsimp only at H
 have A3 := Aside0.mk A30
 clear A30
 by_cases c4 : t177 = true
 ·
  subst c4
  rw [if_pos rfl] at H
  simp only [Option.some.injEq, Prod.mk.injEq] at H
  obtain ⟨rfl, rfl⟩ := H
  go_enter Tryd.func85, Tryd.ntmps85
  go_wp2_with (first | ((with_reducible refine gate_callee (f := 84) rfl ?_); refine goesL_ (some 6) rfl rfl Tryd.func84 (by kernel_rfl) rfl #[.pointer (some ⟨g, 0, none⟩), .int .u8 a1] rfl (mA2 rfl rfl) ?_; (with_reducible refine (lang_reader_is.calls k g s0_0 s0_1 a1 true t178 t179 w0 _ ?side1 ?side2 A3.out).mono ?_); (case side1 => repeat (first | (with_reducible first | exact HI0.out | apply IsS81.alloc | apply IsS81.drewN | apply IsS81.drew | apply IsS81.set_0 | apply IsS81.set_1) | exact HI0.out)); (case side2 => repeat (first | (with_reducible first | exact HB.out | apply below_alloc | apply pw_below_drewN | apply below_drew1 | refine below_set ?_ (IsS81.ge HI0.out)) | exact HB.out)); rintro e w5 ⟨rfl, hi, hb, hk⟩; refine ⟨_, rfl, ?_⟩; replace HK := Aside0.mk (KeepBut.trans (by repeat (first | (with_reducible first | exact HK.out | apply KeepBut.set_ | apply keep_drewN | apply keep_drew | apply keep_alloc) | exact HK.out)) hk (.inl rfl)); replace HB := Aside0.mk hb; replace HI0 := Aside0.mk (hi); (try clear hb)))
  first | go_end0 | ((try simp only [Exit.inBlock, Exit.then]); refine bodyPost_ret (results_none rfl _ _ _) rfl ?_)
  exact ⟨rfl, by repeat (first | (with_reducible first | exact HI0.out | apply IsS81.alloc | apply IsS81.drewN | apply IsS81.drew | apply IsS81.set_0 | apply IsS81.set_1) | exact HI0.out), by repeat (first | (with_reducible first | exact HB.out | apply below_alloc | apply pw_below_drewN | apply below_drew1 | refine below_set ?_ (IsS81.ge HI0.out)) | exact HB.out), by repeat (first | (with_reducible first | exact HK.out | apply KeepBut.set_ | apply keep_drewN | apply keep_drew | apply keep_alloc) | exact HK.out)⟩
 replace c4 := Bool.eq_false_iff.mpr c4
 subst c4
 rw [if_neg (show ¬ (false = true) by decide)] at H
 replace H := Option.bind_eq_some_iff.mp H
 obtain ⟨⟨t180, t181⟩, A60, H⟩ := H
 try dsimp only at H
 have A6 := Aside0.mk A60
 clear A60
 simp only [Option.some.injEq, Prod.mk.injEq] at H
 obtain ⟨rfl, rfl⟩ := H
 go_enter Tryd.func85, Tryd.ntmps85
 go_wp2_with (first | ((with_reducible refine gate_callee (f := 84) rfl ?_); refine goesL_ (some 6) rfl rfl Tryd.func84 (by kernel_rfl) rfl #[.pointer (some ⟨g, 0, none⟩), .int .u8 a1] rfl (mA2 rfl rfl) ?_; (with_reducible refine (lang_reader_is.calls k g s0_0 s0_1 a1 false t178 t179 w0 _ ?side1 ?side2 A3.out).mono ?_); (case side1 => repeat (first | (with_reducible first | exact HI0.out | apply IsS81.alloc | apply IsS81.drewN | apply IsS81.drew | apply IsS81.set_0 | apply IsS81.set_1) | exact HI0.out)); (case side2 => repeat (first | (with_reducible first | exact HB.out | apply below_alloc | apply pw_below_drewN | apply below_drew1 | refine below_set ?_ (IsS81.ge HI0.out)) | exact HB.out)); rintro e w7 ⟨rfl, hi, hb, hk⟩; refine ⟨_, rfl, ?_⟩; replace HK := Aside0.mk (KeepBut.trans (by repeat (first | (with_reducible first | exact HK.out | apply KeepBut.set_ | apply keep_drewN | apply keep_drew | apply keep_alloc) | exact HK.out)) hk (.inl rfl)); replace HB := Aside0.mk hb; replace HI0 := Aside0.mk (hi); (try clear hb)) | ((with_reducible refine gate_callee (f := 63) rfl ?_); refine goesL_ (some 9) rfl rfl Tryd.func63 (by kernel_rfl) rfl #[.pointer (some ⟨g, 0, none⟩)] rfl (mA1 rfl) ?_; (with_reducible refine (lang_reader_fail.calls g t178 t179 t180 t181 w0 _ ?side1 ?side2 A6.out).mono ?_); (case side1 => repeat (first | (with_reducible first | exact HI0.out | apply IsS81.alloc | apply IsS81.drewN | apply IsS81.drew | apply IsS81.set_0 | apply IsS81.set_1) | exact HI0.out)); (case side2 => repeat (first | (with_reducible first | exact HB.out | apply below_alloc | apply pw_below_drewN | apply below_drew1 | refine below_set ?_ (IsS81.ge HI0.out)) | exact HB.out)); rintro e w8 ⟨rfl, hi, hb, hk⟩; refine ⟨_, rfl, ?_⟩; replace HK := Aside0.mk (KeepBut.trans (by repeat (first | (with_reducible first | exact HK.out | apply KeepBut.set_ | apply keep_drewN | apply keep_drew | apply keep_alloc) | exact HK.out)) hk (.inl rfl)); replace HB := Aside0.mk hb; replace HI0 := Aside0.mk (hi); (try clear hb)))
 first | go_end0 | ((try simp only [Exit.inBlock, Exit.then]); refine bodyPost_ret (results_none rfl _ _ _) rfl ?_)
 exact ⟨rfl, by repeat (first | (with_reducible first | exact HI0.out | apply IsS81.alloc | apply IsS81.drewN | apply IsS81.drew | apply IsS81.set_0 | apply IsS81.set_1) | exact HI0.out), by repeat (first | (with_reducible first | exact HB.out | apply below_alloc | apply pw_below_drewN | apply below_drew1 | refine below_set ?_ (IsS81.ge HI0.out)) | exact HB.out), by repeat (first | (with_reducible first | exact HK.out | apply KeepBut.set_ | apply keep_drewN | apply keep_drew | apply keep_alloc) | exact HK.out)⟩
mutual
def lang_reader_number.j1 : Nat → Int → ByteArray → Int → Option (Int × ByteArray × Int)
 | 0, _, _, _ => none
 | k + 1, x3, x1000, x1001 => if 0 ≤ x3 then (if x3 ≤ x1001 then (if x1001 ≤ (x1000.size : Int) then (if (x1000.extract (x3 : Int).toNat (x1001 : Int).toNat).toList = ([] : List UInt8) then (lang_reader_number.j2 k (x1000.extract (x3 : Int).toNat (x1001 : Int).toNat) true x1000 x1001) else (if ((x1000.extract (x3 : Int).toNat (x1001 : Int).toNat).size : Int) > 2 then (lang_reader_number.j2 k (x1000.extract (x3 : Int).toNat (x1001 : Int).toNat) true x1000 x1001) else (if ((x1000.extract (x3 : Int).toNat (x1001 : Int).toNat).size : Int) = 2 then (if 0 < ((x1000.extract (x3 : Int).toNat (x1001 : Int).toNat).size : Int) then (lang_reader_number.j2 k (x1000.extract (x3 : Int).toNat (x1001 : Int).toNat) ((bt (x1000.extract (x3 : Int).toNat (x1001 : Int).toNat) 0) == 48) x1000 x1001) else (none)) else (lang_reader_number.j2 k (x1000.extract (x3 : Int).toNat (x1001 : Int).toNat) false x1000 x1001)))) else (none)) else (none)) else (none)
def lang_reader_number.j2 : Nat → ByteArray → Bool → ByteArray → Int → Option (Int × ByteArray × Int)
 | 0, _, _, _, _ => none
 | k + 1, x4, x69, x1000, x1001 => if x69 = true then ((lang_reader_fail.f x1000 x1001).bind fun bt185 => (lang_reader_number.j3 k x4 bt185.1 bt185.2)) else (lang_reader_number.j3 k x4 x1000 x1001)
def lang_reader_number.j3 : Nat → ByteArray → ByteArray → Int → Option (Int × ByteArray × Int)
 | 0, _, _, _ => none
 | k + 1, x4, x1000, x1001 => if ([] : List Int).length + x4.size < 140737488355328 then ((some (([] : List Int) ++ bytesOf x4 : List Int)).bind fun y187 => (lang_reader_number.l1 k 0 y187 (y187.length : Int) 0 x1000 x1001)) else (none)
def lang_reader_number.l1 : Nat → Int → List Int → Int → Int → ByteArray → Int → Option (Int × ByteArray × Int)
 | 0, _, _, _, _, _, _ => none
 | k + 1, x5, x73, x74, x75, x1000, x1001 => if x75 < x74 then (if 0 ≤ x75 then (if x75 < (x73.length : Int) then (lang_reader_number.l1 k (wrap64 ((wrap64 (10 * x5)) + (((rd x73 x75) - 48) % 256))) x73 x74 (wrap64 (x75 + 1)) x1000 x1001) else (none)) else (none)) else (some (x5, x1000, x1001))
def lang_reader_number.l0 : Nat → Int → ByteArray → Int → Option (Int × ByteArray × Int)
 | 0, _, _, _ => none
 | k + 1, x3, x1000, x1001 => if x1001 < (x1000.size : Int) then (if 0 ≤ x1001 then ((lang_digit.f (bt x1000 x1001)).bind fun t184 => (if t184 = true then (lang_reader_number.l0 k x3 x1000 (wrap64 (x1001 + 1))) else (lang_reader_number.j1 k x3 x1000 x1001))) else (none)) else (lang_reader_number.j1 k x3 x1000 x1001)
end
def lang_reader_number.f (k : Nat) (s0_0 : ByteArray) (s0_1 : Int) : Option (Int × ByteArray × Int) := (lang_reader_space.f k s0_0 s0_1).bind fun bt182 => (lang_reader_number.l0 k bt182.2 bt182.1 bt182.2)
theorem conv_C (W : World) (s : ByteArray) (hs : s.size ≤ 9223372036854775807) : Kd.C (Kd.int .u8) (Lib.bytesWorld W 5 s) (some ⟨W.heap.size, 0, none⟩) (bytesOf s).length (bytesOf s) := by
  refine ⟨rfl, by rw [bytesOf_length]; exact hs, fun _ => ⟨_, rfl, fun j p hp => ⟨[.int .u8 p], rfl, rfl, fun i u hu => ?_⟩⟩⟩
  cases i with
  | succ i => simp at hu
  | zero =>
    have hj : j < s.size := by
      have := (List.getElem?_eq_some_iff.mp hp).1
      rwa [bytesOf_length] at this
    have hu' : u = .int .u8 p := by simpa using hu.symm
    subst hu'
    rw [add_plain]
    show (Lib.bytesWorld W 5 s).cell? ⟨W.heap.size, j * 1 + 0, none⟩ = _
    rw [Nat.mul_one, Nat.add_zero, Lib.bytesWorld_cell W 5 s j hj]
    have h' : j < s.data.toList.length := by rw [Array.length_toList]; exact hj
    unfold bytesOf at hp
    rw [List.getElem?_map, List.getElem?_eq_getElem h', Option.map_some] at hp
    injection hp with hp
    subst hp
    rw [List.getD_eq_getElem?_getD, List.getElem?_eq_getElem h']; rfl
theorem conv_below (W : World) (s : ByteArray) : Below W.heap.size W (Lib.bytesWorld W 5 s) :=
  ⟨rfl, rfl, rfl, by rw [Lib.bytesWorld_size]; omega, fun i hi => Lib.bytesWorld_at_old W 5 s i hi⟩
set_option maxHeartbeats 8000000 in
set_option maxRecDepth 100000 in
theorem lang_reader_number.calls (k : Nat) (g : Nat) (s0_0 : ByteArray) (s0_1 : Int) (r1 : Int) (r2 : ByteArray) (r3 : Int) (w0 w : World) (hI : IsS81 w0 w g s0_0 s0_1) (hB : Below w0.heap.size w0 w) (h : lang_reader_number.f k s0_0 s0_1 = some (r1, r2, r3)) :
  Calls Tryd.prog 86 #[.pointer (some ⟨g, 0, none⟩)] w fun e w' => e = .returned (.int .i64 r1) ∧ IsS81 w0 w' g r2 r3 ∧ Below w0.heap.size w0 w' ∧ KeepBut w w' g none := by
 have HI0 := Aside0.mk hI
 have HK := Aside0.mk (KeepBut.refl w g none)
 have HL := Aside0.mk hB.size
 clear hI
 have HW0 := Aside0.mk hB.size
 have HB := Aside0.mk hB
 clear hB
 have H := h
 unfold lang_reader_number.f at H
 clear h
 replace H := Option.bind_eq_some_iff.mp H
 obtain ⟨⟨t182, t183⟩, A20, H⟩ := H
 try dsimp only at H
 have A2 := Aside0.mk A20
 clear A20
 have HC3 := Aside0.mk H
 clear H
 go_enter Tryd.func86, Tryd.ntmps86
 go_upto_block 0 with (first | (go_at_call 62; (with_reducible refine (lang_reader_space.calls k g s0_0 s0_1 t182 t183 w0 _ ?side1 ?side2 A2.out).mono ?_); (case side1 => repeat (first | (with_reducible first | exact HI0.out | apply IsS81.alloc | apply IsS81.drewN | apply IsS81.drew | apply IsS81.set_0 | apply IsS81.set_1) | exact HI0.out)); (case side2 => repeat (first | (with_reducible first | exact HB.out | apply below_alloc | apply pw_below_drewN | apply below_drew1 | refine below_set ?_ (IsS81.ge HI0.out)) | exact HB.out)); rintro e w4 ⟨rfl, hi, hb, hk⟩; replace HK := Aside0.mk (KeepBut.trans (by repeat (first | (with_reducible first | exact HK.out | apply KeepBut.set_ | apply keep_drewN | apply keep_drew | apply keep_alloc) | exact HK.out)) hk (.inl rfl)); replace HB := Aside0.mk hb; replace HI0 := Aside0.mk (hi); (try clear hb); obtain ⟨HGz5, hgz5⟩ := HI0.out; have hcz5_0 := cellS81_0 HGz5; have hcz5_1 := cellS81_1 HGz5; have hfz5_0 := blk_frozen HGz5 0; have hfz5_1 := blk_frozen HGz5 1; clear HGz5 hgz5))
 repeat (go_quiet (first | (go_at_call 62; (with_reducible refine (lang_reader_space.calls k g s0_0 s0_1 t182 t183 w0 _ ?side1 ?side2 A2.out).mono ?_); (case side1 => repeat (first | (with_reducible first | exact HI0.out | apply IsS81.alloc | apply IsS81.drewN | apply IsS81.drew | apply IsS81.set_0 | apply IsS81.set_1) | exact HI0.out)); (case side2 => repeat (first | (with_reducible first | exact HB.out | apply below_alloc | apply pw_below_drewN | apply below_drew1 | refine below_set ?_ (IsS81.ge HI0.out)) | exact HB.out)); rintro e w4 ⟨rfl, hi, hb, hk⟩; replace HK := Aside0.mk (KeepBut.trans (by repeat (first | (with_reducible first | exact HK.out | apply KeepBut.set_ | apply keep_drewN | apply keep_drew | apply keep_alloc) | exact HK.out)) hk (.inl rfl)); replace HB := Aside0.mk hb; replace HI0 := Aside0.mk (hi); (try clear hb); obtain ⟨HGz5, hgz5⟩ := HI0.out; have hcz5_0 := cellS81_0 HGz5; have hcz5_1 := cellS81_1 HGz5; have hfz5_0 := blk_frozen HGz5 0; have hfz5_1 := blk_frozen HGz5 1; clear HGz5 hgz5)); go_upto_block 0 with (first | (go_at_call 62; (with_reducible refine (lang_reader_space.calls k g s0_0 s0_1 t182 t183 w0 _ ?side1 ?side2 A2.out).mono ?_); (case side1 => repeat (first | (with_reducible first | exact HI0.out | apply IsS81.alloc | apply IsS81.drewN | apply IsS81.drew | apply IsS81.set_0 | apply IsS81.set_1) | exact HI0.out)); (case side2 => repeat (first | (with_reducible first | exact HB.out | apply below_alloc | apply pw_below_drewN | apply below_drew1 | refine below_set ?_ (IsS81.ge HI0.out)) | exact HB.out)); rintro e w4 ⟨rfl, hi, hb, hk⟩; replace HK := Aside0.mk (KeepBut.trans (by repeat (first | (with_reducible first | exact HK.out | apply KeepBut.set_ | apply keep_drewN | apply keep_drew | apply keep_alloc) | exact HK.out)) hk (.inl rfl)); replace HB := Aside0.mk hb; replace HI0 := Aside0.mk (hi); (try clear hb); obtain ⟨HGz5, hgz5⟩ := HI0.out; have hcz5_0 := cellS81_0 HGz5; have hcz5_1 := cellS81_1 HGz5; have hfz5_0 := blk_frozen HGz5 0; have hfz5_1 := blk_frozen HGz5 1; clear HGz5 hgz5)))
 (try simp only [Act.put, List.setIfInBounds_toArray, List.set_cons_zero, List.set_cons_succ])
 go_cut [] (fun wc => ∃ (kq : Nat) (x1001_2 : Int), Aside0 (lang_reader_number.j1 kq t183 t182 x1001_2 = some (r1, r2, r3)) ∧ Aside0 (kq ≤ k) ∧ Aside0 (IsS81 w0 wc g t182 x1001_2) ∧ Aside0 (KeepBut w wc g none) ∧ Aside0 (Below w0.heap.size w0 wc))
 case first =>
  have H := HC3.out
  clear HC3
  have H' := Aside0.mk H
  clear H
  go_wp2
  repeat (go_quiet (fail); try go_wp2)
  go_loopg [] k (fun kq w' => ∃ (x1001_1 : Int), Aside0 (lang_reader_number.l0 kq t183 t182 x1001_1 = some (r1, r2, r3)) ∧ Aside0 (kq ≤ k) ∧ Aside0 (IsS81 w0 w' g t182 x1001_1) ∧ Aside0 (KeepBut w w' g none) ∧ Aside0 (Below w0.heap.size w0 w'))
  case atStart => exact ⟨(t183), H', ⟨Nat.le_refl _⟩, HI0, HK, ⟨HB.out⟩⟩
  case round =>
   clear H' hcz5_0 hcz5_1 hfz5_0 hfz5_1
   obtain ⟨x1001_1, HA, HK1, HI0, HK, HB⟩ := hrel
   cases gk with
   | zero => exact absurd HA.out (by simp [lang_reader_number.l0])
   | succ k1 =>
    have H := HA.out
    clear HA
    simp only [lang_reader_number.l0] at H
    by_cases c6 : x1001_1 < (t182.size : Int)
    rotate_left
    ·
     rw [if_neg c6] at H
     have c6b0 := decide_eq_false c6
     clear c6
     (first | rw [c6b0] | (simp only [i64_w, i32_w]; rw [c6b0]) | skip)
     have H' := Aside0.mk H
     clear H
     obtain ⟨HGz13, hgz13⟩ := HI0.out
     have hcz13_0 := cellS81_0 HGz13; have hcz13_1 := cellS81_1 HGz13; have hfz13_0 := blk_frozen HGz13 0; have hfz13_1 := blk_frozen HGz13 1
     clear HGz13 hgz13
     go_wp2
     repeat (go_quiet (fail); try go_wp2)
     go_meet
     case rel => exact ⟨_, (x1001_1), H', ⟨by have := HK1.out; first | omega | exact Nat.le_refl _⟩, HI0, HK, ⟨hO HB⟩⟩
    rw [if_pos c6] at H
    have c6b0 := decide_eq_true c6
    clear c6
    (first | rw [c6b0] | (simp only [i64_w, i32_w]; rw [c6b0]) | skip)
    obtain ⟨c7, H⟩ : (0 ≤ x1001_1) ∧ _ := mIf H
    have c7b0 := decide_eq_true c7
    clear c7
    replace H := Option.bind_eq_some_iff.mp H
    obtain ⟨t184, A90, H⟩ := H
    try dsimp only at H
    have A9 := Aside0.mk A90
    clear A90
    by_cases c10 : t184 = true
    rotate_left
    ·
     replace c10 := Bool.eq_false_iff.mpr c10
     subst c10
     rw [if_neg (show ¬ (false = true) by decide)] at H
     have H' := Aside0.mk H
     clear H
     obtain ⟨HGz12, hgz12⟩ := HI0.out
     have hcz12_0 := cellS81_0 HGz12; have hcz12_1 := cellS81_1 HGz12; have hfz12_0 := blk_frozen HGz12 0; have hfz12_1 := blk_frozen HGz12 1
     clear HGz12 hgz12
     have p8 : 0 ≤ (x1001_1 : Int) := of_decide_eq_true (by assumption)
     have q8 : x1001_1 < (t182.size : Int) := of_decide_eq_true (by assumption)
     have hx8 := bt_at t182 x1001_1
     replace p8 := eq_true p8
     replace q8 := eq_true q8
     go_wp2_with (first | (go_at_call 93; (with_reducible refine (lang_digit.calls (bt t182 x1001_1) false _ A9.out).mono ?_); rintro e w' ⟨rfl, ⟨nd, rfl⟩⟩; (try first | exact ⟨rfl, _, World.drewN_drewN _ _ _⟩ | exact ⟨rfl, _, Eq.trans (World.drewN_drewN _ _ _) (congrArg (World.drewN _) (Nat.add_assoc _ _ _))⟩)))
     repeat (go_quiet (first | (go_at_call 93; (with_reducible refine (lang_digit.calls (bt t182 x1001_1) false _ A9.out).mono ?_); rintro e w' ⟨rfl, ⟨nd, rfl⟩⟩; (try first | exact ⟨rfl, _, World.drewN_drewN _ _ _⟩ | exact ⟨rfl, _, Eq.trans (World.drewN_drewN _ _ _) (congrArg (World.drewN _) (Nat.add_assoc _ _ _))⟩))); try go_wp2_with (first | (go_at_call 93; (with_reducible refine (lang_digit.calls (bt t182 x1001_1) false _ A9.out).mono ?_); rintro e w' ⟨rfl, ⟨nd, rfl⟩⟩; (try first | exact ⟨rfl, _, World.drewN_drewN _ _ _⟩ | exact ⟨rfl, _, Eq.trans (World.drewN_drewN _ _ _) (congrArg (World.drewN _) (Nat.add_assoc _ _ _))⟩))))
     go_meet
     case rel => exact ⟨_, (x1001_1), H', ⟨by have := HK1.out; first | omega | exact Nat.le_refl _⟩, HI0, HK, ⟨hO HB⟩⟩
    subst c10
    rw [if_pos rfl] at H
    have H' := Aside0.mk H
    clear H
    obtain ⟨HGz11, hgz11⟩ := HI0.out
    have hcz11_0 := cellS81_0 HGz11; have hcz11_1 := cellS81_1 HGz11; have hfz11_0 := blk_frozen HGz11 0; have hfz11_1 := blk_frozen HGz11 1
    clear HGz11 hgz11
    have p8 : 0 ≤ (x1001_1 : Int) := of_decide_eq_true (by assumption)
    have q8 : x1001_1 < (t182.size : Int) := of_decide_eq_true (by assumption)
    have hx8 := bt_at t182 x1001_1
    replace p8 := eq_true p8
    replace q8 := eq_true q8
    go_wp2_with (first | (go_at_call 93; (with_reducible refine (lang_digit.calls (bt t182 x1001_1) true _ A9.out).mono ?_); rintro e w' ⟨rfl, ⟨nd, rfl⟩⟩; (try first | exact ⟨rfl, _, World.drewN_drewN _ _ _⟩ | exact ⟨rfl, _, Eq.trans (World.drewN_drewN _ _ _) (congrArg (World.drewN _) (Nat.add_assoc _ _ _))⟩)))
    repeat (go_quiet (first | (go_at_call 93; (with_reducible refine (lang_digit.calls (bt t182 x1001_1) true _ A9.out).mono ?_); rintro e w' ⟨rfl, ⟨nd, rfl⟩⟩; (try first | exact ⟨rfl, _, World.drewN_drewN _ _ _⟩ | exact ⟨rfl, _, Eq.trans (World.drewN_drewN _ _ _) (congrArg (World.drewN _) (Nat.add_assoc _ _ _))⟩))); try go_wp2_with (first | (go_at_call 93; (with_reducible refine (lang_digit.calls (bt t182 x1001_1) true _ A9.out).mono ?_); rintro e w' ⟨rfl, ⟨nd, rfl⟩⟩; (try first | exact ⟨rfl, _, World.drewN_drewN _ _ _⟩ | exact ⟨rfl, _, Eq.trans (World.drewN_drewN _ _ _) (congrArg (World.drewN _) (Nat.add_assoc _ _ _))⟩))))
    go_roundg k1
    case measure => have := HK1.out; omega
    case rel => exact ⟨(wrap64 (x1001_1 + 1)), H', ⟨by have := HK1.out; omega⟩, ⟨by repeat (first | (with_reducible first | exact HI0.out | apply IsS81.alloc | apply IsS81.drewN | apply IsS81.drew | apply IsS81.set_0 | apply IsS81.set_1) | exact HI0.out)⟩, ⟨by repeat (first | (with_reducible first | exact HK.out | apply KeepBut.set_ | apply keep_drewN | apply keep_drew | apply keep_alloc) | exact HK.out)⟩, ⟨by repeat (first | (with_reducible first | exact HB.out | apply below_alloc | apply pw_below_drewN | apply below_drew1 | refine below_set ?_ (IsS81.ge HI0.out)) | exact HB.out)⟩⟩
 case rest =>
  clear HC3; try clear c1; try clear p2; try clear c6; try clear c6b0; try clear p6; try clear c7; try clear c7b0; try clear c8; try clear p8; try clear q8; try clear hx8; try clear c10; try clear hcz11_0; try clear hcz11_1; try clear hcz12_0; try clear hcz12_1; try clear hcz13_0; try clear hcz13_1; try clear hcz5_0; try clear hcz5_1; try clear hfz11_0; try clear hfz11_1; try clear hfz12_0; try clear hfz12_1; try clear hfz13_0; try clear hfz13_1; try clear hfz5_0; try clear hfz5_1
  obtain ⟨kq, x1001_2, HA, HJ2, HI0, HK, HB⟩ := hcut
  cases kq with
  | zero => exact absurd HA.out (by simp [lang_reader_number.j1])
  | succ kj2 =>
   have H := HA.out
   clear HA
   simp only [lang_reader_number.j1] at H
   obtain ⟨c14, H⟩ : (0 ≤ t183) ∧ _ := mIf H
   have c14b0 := eq_true c14
   have c14b1 := decide_eq_true c14
   clear c14
   obtain ⟨c15, H⟩ : (t183 ≤ x1001_2) ∧ _ := mIf H
   have c15b0 := eq_true c15
   have c15b1 := decide_eq_true c15
   clear c15
   obtain ⟨c16, H⟩ : (x1001_2 ≤ (t182.size : Int)) ∧ _ := mIf H
   have c16b0 := eq_true c16
   have c16b1 := decide_eq_true c16
   clear c16
   have HC17 := Aside0.mk H
   clear H
   obtain ⟨HGz18, hgz18⟩ := HI0.out
   have hcz18_0 := cellS81_0 HGz18; have hcz18_1 := cellS81_1 HGz18; have hfz18_0 := blk_frozen HGz18 0; have hfz18_1 := blk_frozen HGz18 1
   clear HGz18 hgz18
   go_upto_region 6 with (fail)
   repeat (go_quiet (fail); go_upto_region 6 with (fail))
   obtain ⟨yS, hyS⟩ : ∃ y_ : ByteArray, y_ = (t182.extract (t183 : Int).toNat (x1001_2 : Int).toNat) := ⟨_, rfl⟩
   rw [← hyS] at HC17 ⊢
   clear hyS
   go_cut [69] (fun v69 wc => ∃ (kq : Nat) (x69_16 : Bool), v69 = .bool x69_16 ∧ Aside0 (lang_reader_number.j2 kq yS x69_16 t182 x1001_2 = some (r1, r2, r3)) ∧ Aside0 (kq ≤ kj2) ∧ Aside0 (IsS81 w0 wc g t182 x1001_2) ∧ Aside0 (KeepBut w wc g none) ∧ Aside0 (Below w0.heap.size w0 wc))
   case first =>
    have H := HC17.out
    clear HC17
    by_cases c19 : yS.toList = ([] : List UInt8)
    ·
     rw [if_pos c19] at H
     have c19b0 := beq_iff_eq.mpr c19
     have c19b1 := bne_eq_false_iff_eq.mpr c19
     clear c19
     (first | rw [c19b0] | (simp only [i64_w, i32_w]; rw [c19b0]) | skip)
     have H' := Aside0.mk H
     clear H
     go_wp2
     repeat (go_quiet (fail); try go_wp2)
     go_meet
     case rel => exact ⟨_, (true), rfl, H', ⟨by have := HJ2.out; first | omega | exact Nat.le_refl _⟩, HI0, HK, ⟨hO HB⟩⟩
    rw [if_neg c19] at H
    have c19b0 := beq_eq_false_iff_ne.mpr c19
    have c19b1 := bne_iff_ne.mpr c19
    (first | rw [c19b0] | (simp only [i64_w, i32_w]; rw [c19b0]) | skip)
    by_cases c20 : (yS.size : Int) > 2
    ·
     rw [if_pos c20] at H
     have c20b0 := decide_eq_true c20
     have c20b1 : decide (2 < yS.size) = true := decide_eq_true (by omega)
     clear c20
     have H' := Aside0.mk H
     clear H
     go_wp2
     repeat (go_quiet (fail); try go_wp2)
     go_meet
     case rel => exact ⟨_, (true), rfl, H', ⟨by have := HJ2.out; first | omega | exact Nat.le_refl _⟩, HI0, HK, ⟨hO HB⟩⟩
    rw [if_neg c20] at H
    have c20b0 := decide_eq_false c20
    have c20b1 : decide (2 < yS.size) = false := decide_eq_false (by omega)
    clear c20
    by_cases c21 : (yS.size : Int) = 2
    rotate_left
    ·
     rw [if_neg c21] at H
     have c21b0 := beq_eq_false_iff_ne.mpr c21
     have c21b1 := bne_iff_ne.mpr c21
     have H' := Aside0.mk H
     clear H
     go_wp2
     repeat (go_quiet (fail); try go_wp2)
     go_meet
     case rel => exact ⟨_, (false), rfl, H', ⟨by have := HJ2.out; first | omega | exact Nat.le_refl _⟩, HI0, HK, ⟨hO HB⟩⟩
    rw [if_pos c21] at H
    have c21b0 := beq_iff_eq.mpr c21
    have c21b1 := bne_eq_false_iff_eq.mpr c21
    clear c21
    obtain ⟨c22, H⟩ : (0 < (yS.size : Int)) ∧ _ := mIf H
    have c22b0 := decide_eq_true c22
    have c22b1 : decide (0 < yS.size) = true := decide_eq_true (by omega)
    clear c22
    have H' := Aside0.mk H
    clear H
    have p23 : 0 ≤ (0 : Int) := (by omega)
    have q23 : 0 < yS.size := (by have : (0 : Int) < (yS.size : Int) := of_decide_eq_true (by assumption); omega)
    have hx23 : ∀ h : 0 < yS.size, ((yS[0]'h).toNat : Int) = bt yS 0 := bt_at yS 0
    clear p23
    have qi23 : (0 < (yS.size : Int)) = True := eq_true (of_decide_eq_true (by assumption))
    replace q23 := eq_true q23
    go_wp2
    repeat (go_quiet (fail); try go_wp2)
    go_meet
    case rel => exact ⟨_, (((bt yS 0) == 48)), rfl, H', ⟨by have := HJ2.out; first | omega | exact Nat.le_refl _⟩, HI0, HK, ⟨hO HB⟩⟩
   case rest =>
    clear HC17; try clear c1; try clear c2; try clear p2; try clear q2; try clear hx2; try clear qi2; try clear c6; try clear c6b0; try clear p6; try clear c7; try clear c7b0; try clear c8; try clear p8; try clear q8; try clear hx8; try clear c10; try clear c14; try clear c14b0; try clear c14b1; try clear c15; try clear c15b0; try clear c15b1; try clear c16; try clear c16b0; try clear c16b1; try clear c19; try clear c19b0; try clear c19b1; try clear c20; try clear c20b0; try clear c20b1; try clear c21; try clear c21b0; try clear c21b1; try clear c22; try clear c22b0; try clear c22b1; try clear p23; try clear q23; try clear hx23; try clear qi23; try clear hcz11_0; try clear hcz11_1; try clear hcz12_0; try clear hcz12_1; try clear hcz13_0; try clear hcz13_1; try clear hcz18_0; try clear hcz18_1; try clear hcz5_0; try clear hcz5_1; try clear hfz11_0; try clear hfz11_1; try clear hfz12_0; try clear hfz12_1; try clear hfz13_0; try clear hfz13_1; try clear hfz18_0; try clear hfz18_1; try clear hfz5_0; try clear hfz5_1
    obtain ⟨kq, x69_16, rfl, HA, HJ16, HI0, HK, HB⟩ := hcut
    cases kq with
    | zero => exact absurd HA.out (by simp [lang_reader_number.j2])
    | succ kj16 =>
     have H := HA.out
     clear HA
     simp only [lang_reader_number.j2] at H
     have HC24 := Aside0.mk H
     clear H
     go_upto_if 69 with (fail)
     repeat (go_quiet (fail); go_upto_if 69 with (fail))
     go_cut [] (fun wc => ∃ (kq : Nat) (x1000_23 : ByteArray) (x1001_23 : Int), Aside0 (lang_reader_number.j3 kq yS x1000_23 x1001_23 = some (r1, r2, r3)) ∧ Aside0 (kq ≤ kj16) ∧ Aside0 (IsS81 w0 wc g x1000_23 x1001_23) ∧ Aside0 (KeepBut w wc g none) ∧ Aside0 (Below w0.heap.size w0 wc))
     case first =>
      have H := HC24.out
      clear HC24
      by_cases c25 : x69_16 = true
      rotate_left
      ·
       replace c25 := Bool.eq_false_iff.mpr c25
       subst c25
       rw [if_neg (show ¬ (false = true) by decide)] at H
       have H' := Aside0.mk H
       clear H
       go_wp2
       repeat (go_quiet (fail); try go_wp2)
       go_meet
       case rel => exact ⟨_, (t182), (x1001_2), H', ⟨by have := HJ2.out; have := HJ16.out; first | omega | exact Nat.le_refl _⟩, HI0, HK, ⟨HB.out⟩⟩
      subst c25
      rw [if_pos rfl] at H
      replace H := Option.bind_eq_some_iff.mp H
      obtain ⟨⟨t185, t186⟩, A260, H⟩ := H
      try dsimp only at H
      have A26 := Aside0.mk A260
      clear A260
      have H' := Aside0.mk H
      clear H
      go_wp2_with (first | (go_at_call 63; (with_reducible refine (lang_reader_fail.calls g t182 x1001_2 t185 t186 w0 _ ?side1 ?side2 A26.out).mono ?_); (case side1 => repeat (first | (with_reducible first | exact HI0.out | apply IsS81.alloc | apply IsS81.drewN | apply IsS81.drew | apply IsS81.set_0 | apply IsS81.set_1) | exact HI0.out)); (case side2 => repeat (first | (with_reducible first | exact HB.out | apply below_alloc | apply pw_below_drewN | apply below_drew1 | refine below_set ?_ (IsS81.ge HI0.out)) | exact HB.out)); rintro e w27 ⟨rfl, hi, hb, hk⟩; replace HK := Aside0.mk (KeepBut.trans (by repeat (first | (with_reducible first | exact HK.out | apply KeepBut.set_ | apply keep_drewN | apply keep_drew | apply keep_alloc) | exact HK.out)) hk (.inl rfl)); replace HB := Aside0.mk hb; replace HI0 := Aside0.mk (hi); (try clear hb)))
      repeat (go_quiet (first | (go_at_call 63; (with_reducible refine (lang_reader_fail.calls g t182 x1001_2 t185 t186 w0 _ ?side1 ?side2 A26.out).mono ?_); (case side1 => repeat (first | (with_reducible first | exact HI0.out | apply IsS81.alloc | apply IsS81.drewN | apply IsS81.drew | apply IsS81.set_0 | apply IsS81.set_1) | exact HI0.out)); (case side2 => repeat (first | (with_reducible first | exact HB.out | apply below_alloc | apply pw_below_drewN | apply below_drew1 | refine below_set ?_ (IsS81.ge HI0.out)) | exact HB.out)); rintro e w27 ⟨rfl, hi, hb, hk⟩; replace HK := Aside0.mk (KeepBut.trans (by repeat (first | (with_reducible first | exact HK.out | apply KeepBut.set_ | apply keep_drewN | apply keep_drew | apply keep_alloc) | exact HK.out)) hk (.inl rfl)); replace HB := Aside0.mk hb; replace HI0 := Aside0.mk (hi); (try clear hb))); try go_wp2_with (first | (go_at_call 63; (with_reducible refine (lang_reader_fail.calls g t182 x1001_2 t185 t186 w0 _ ?side1 ?side2 A26.out).mono ?_); (case side1 => repeat (first | (with_reducible first | exact HI0.out | apply IsS81.alloc | apply IsS81.drewN | apply IsS81.drew | apply IsS81.set_0 | apply IsS81.set_1) | exact HI0.out)); (case side2 => repeat (first | (with_reducible first | exact HB.out | apply below_alloc | apply pw_below_drewN | apply below_drew1 | refine below_set ?_ (IsS81.ge HI0.out)) | exact HB.out)); rintro e w27 ⟨rfl, hi, hb, hk⟩; replace HK := Aside0.mk (KeepBut.trans (by repeat (first | (with_reducible first | exact HK.out | apply KeepBut.set_ | apply keep_drewN | apply keep_drew | apply keep_alloc) | exact HK.out)) hk (.inl rfl)); replace HB := Aside0.mk hb; replace HI0 := Aside0.mk (hi); (try clear hb))))
      go_meet
      case rel => exact ⟨_, (t185), (t186), H', ⟨by have := HJ2.out; have := HJ16.out; first | omega | exact Nat.le_refl _⟩, HI0, HK, ⟨HB.out⟩⟩
     case rest =>
      clear HC24; try clear c1; try clear c2; try clear p2; try clear q2; try clear hx2; try clear qi2; try clear c6; try clear c6b0; try clear p6; try clear c7; try clear c7b0; try clear c8; try clear p8; try clear q8; try clear hx8; try clear c10; try clear c14; try clear c14b0; try clear c14b1; try clear c15; try clear c15b0; try clear c15b1; try clear c16; try clear c16b0; try clear c16b1; try clear c19; try clear c19b0; try clear c19b1; try clear c20; try clear c20b0; try clear c20b1; try clear c21; try clear c21b0; try clear c21b1; try clear c22; try clear c22b0; try clear c22b1; try clear p23; try clear q23; try clear hx23; try clear qi23; try clear c25; try clear hcz11_0; try clear hcz11_1; try clear hcz12_0; try clear hcz12_1; try clear hcz13_0; try clear hcz13_1; try clear hcz18_0; try clear hcz18_1; try clear hcz5_0; try clear hcz5_1; try clear hfz11_0; try clear hfz11_1; try clear hfz12_0; try clear hfz12_1; try clear hfz13_0; try clear hfz13_1; try clear hfz18_0; try clear hfz18_1; try clear hfz5_0; try clear hfz5_1
      obtain ⟨kq, x1000_23, x1001_23, HA, HJ23, HI0, HK, HB⟩ := hcut
      cases kq with
      | zero => exact absurd HA.out (by simp [lang_reader_number.j3])
      | succ kj23 =>
       have H := HA.out
       clear HA
       simp only [lang_reader_number.j3] at H
       obtain ⟨c28, H⟩ : (([] : List Int).length + yS.size < 140737488355328) ∧ _ := mIf H
       have LMc28 := Aside0.mk c28
       clear c28
       obtain ⟨y187, hy187⟩ : ∃ y_ : List Int, y_ = (([] : List Int) ++ bytesOf yS) := ⟨_, rfl⟩
       rw [← hy187] at H
       have Ny187 := Aside0.mk hy187
       clear hy187
       have H' := Aside0.mk H
       clear H
       have kb_ := fun W => Lib.run_convert_string_bytes (P := Tryd.prog) W 9 92 5 yS Tryd.underlying9 Tryd.underlying92 Tryd.underlying5
       go_wp2
       repeat (go_quiet (fail); try go_wp2)
       clear kb_
       have hy_ : y187 = bytesOf yS := by rw [Ny187.out, List.nil_append]
       have hz_ : yS.size = y187.length := by rw [hy_, bytesOf_length]
       have hs_ : yS.size ≤ 9223372036854775807 := by have := LMc28.out; simp only [List.length_nil] at this; omega
       have n0_ := Aside0.mk (IsS81.below HI0.out (conv_below wc yS))
       have n1_ := Aside0.mk (below_weaken HB.out HB.out.size (conv_below wc yS))
       have n2_ := Aside0.mk (KeepBut.trans HK.out (KeepBut.of_below (conv_below wc yS) g none) (.inl rfl))
       have n3_ : Aside0 (Kd.C (Kd.int .u8) (Lib.bytesWorld wc 5 yS) (some ⟨wc.heap.size, 0, none⟩) y187.length y187) := ⟨by rw [hy_]; exact conv_C wc yS hs_⟩
       rw [hz_]
       generalize (Lib.bytesWorld wc 5 yS) = w29 at n0_ n1_ n2_ n3_ ⊢
       generalize grownCap wc y187.length 0 5 = co30
       generalize (some ⟨wc.heap.size, 0, none⟩ : Option Addr) = Ao30 at n3_ ⊢
       clear HI0 HB HK
       have HI0 := n0_
       have HB := n1_
       have HK := n2_
       have HO189 := n3_
       clear n0_ n1_ n2_ n3_ hy_ hz_ hs_
       go_loopg [5, 75] kj23 (fun kq v5 v75 w' => ∃ (x5_4 : Int) (x75_4 : Int), v5 = .int .i64 x5_4 ∧ v75 = .int .i64 x75_4 ∧ Aside0 (lang_reader_number.l1 kq x5_4 y187 (y187.length : Int) x75_4 x1000_23 x1001_23 = some (r1, r2, r3)) ∧ Aside0 (kq ≤ kj23) ∧ Aside0 (Kd.C (Kd.int .u8) w' Ao30 y187.length y187) ∧ Aside0 (IsS81 w0 w' g x1000_23 x1001_23) ∧ Aside0 (KeepBut w w' g none) ∧ Aside0 (Below w0.heap.size w0 w'))
       case atStart => exact ⟨(0), (0), rfl, rfl, H', ⟨Nat.le_refl _⟩, ⟨HO189.out⟩, HI0, HK, ⟨HB.out⟩⟩
       case round =>
        clear H'
        obtain ⟨x5_4, x75_4, rfl, rfl, HA, HK4, HO_73, HI0, HK, HB⟩ := hrel
        cases gk with
        | zero => exact absurd HA.out (by simp [lang_reader_number.l1])
        | succ k4 =>
         have H := HA.out
         clear HA
         simp only [lang_reader_number.l1] at H
         by_cases c31 : x75_4 < (y187.length : Int)
         rotate_left
         ·
          rw [if_neg c31] at H
          have c31b0 := decide_eq_false c31
          clear c31
          simp only [Option.some.injEq, Prod.mk.injEq] at H
          obtain ⟨rfl, rfl, rfl⟩ := H
          go_wp2
          repeat (go_quiet (fail); try go_wp2)
          go_ret
          exact ⟨rfl, by repeat (first | (with_reducible first | exact HI0.out | apply IsS81.alloc | apply IsS81.drewN | apply IsS81.drew | apply IsS81.set_0 | apply IsS81.set_1) | exact HI0.out), by repeat (first | (with_reducible first | exact HB.out | apply below_alloc | apply pw_below_drewN | apply below_drew1 | refine below_set ?_ (IsS81.ge HI0.out)) | exact HB.out), by repeat (first | (with_reducible first | exact HK.out | apply KeepBut.set_ | apply keep_drewN | apply keep_drew | apply keep_alloc) | exact HK.out)⟩
         rw [if_pos c31] at H
         have c31b0 := decide_eq_true c31
         clear c31
         obtain ⟨c32, H⟩ : (0 ≤ x75_4) ∧ _ := mIf H
         have c32b0 := decide_eq_true c32
         clear c32
         obtain ⟨c33, H⟩ : (x75_4 < (y187.length : Int)) ∧ _ := mIf H
         have c33b0 := decide_eq_true c33
         clear c33
         have H' := Aside0.mk H
         clear H
         have p190 : 0 ≤ (x75_4 : Int) := of_decide_eq_true (by assumption)
         have q190 : x75_4 < (y187.length : Int) := of_decide_eq_true (by assumption)
         obtain ⟨ad190, e190, hx190_0⟩ := Kd.at_int HO_73.out x75_4 p190 q190
         cases e190
         replace p190 := eq_true p190
         replace q190 := eq_true q190
         go_wp2
         repeat (go_quiet (fail); try go_wp2)
         go_roundg k4
         case measure => have := HJ2.out; have := HJ16.out; have := HJ23.out; have := HK4.out; omega
         case rel => exact ⟨(wrap64 ((wrap64 (10 * x5_4)) + (((rd y187 x75_4) - 48) % 256))), (wrap64 (x75_4 + 1)), rfl, rfl, H', ⟨by have := HJ2.out; have := HJ16.out; have := HJ23.out; have := HK4.out; omega⟩, ⟨HO_73.out⟩, HI0, HK, ⟨HB.out⟩⟩
end Go.Proofs.YtimikhbnihedkaaDoor.PAll
namespace Go.Proofs.YtimikhbnihedkaaDoor.PAll
open Go.RowKit Go.Proofs.YtimikhbnihedkaaDoorW.PrintWords Go.Proofs.YtimikhbnihedkaaDoorW.PrintLast Go.Proofs.YtimikhbnihedkaaDoorW.PrintMore
attribute [local go_sem] max2_int min2_int max_two min_two max_three min_three max_four min_four
set_option linter.unusedVariables false
set_option linter.unusedSimpArgs false
attribute [local go_sem high] eqA43
mutual
def lang_reader_expr.l0 : Nat → ByteArray → Int → Int → ByteArray → Int → Option ((List (S43)) × ByteArray × Int)
 | 0, _, _, _, _, _ => none
 | k + 1, x3, x4, x5, x1000, x1001 => if x5 ≤ 7 then ((lang_word.f x5).bind fun t194 => (if t194.toList = x3.toList then (lang_reader_expr.l0 k x3 x5 (wrap64 (x5 + 1)) x1000 x1001) else (lang_reader_expr.l0 k x3 x4 (wrap64 (x5 + 1)) x1000 x1001))) else (if x4 = 0 then (lang_reader_expr.j1 k x3 x4 true x1000 x1001) else ((lang_reader_is.f k x1000 x1001 40).bind fun bt195 => (lang_reader_expr.j1 k x3 x4 (!bt195.1) bt195.2.1 bt195.2.2)))
def lang_reader_expr.j1 : Nat → ByteArray → Int → Bool → ByteArray → Int → Option ((List (S43)) × ByteArray × Int)
 | 0, _, _, _, _, _ => none
 | k + 1, x3, x4, x25, x1000, x1001 => if x25 = true then ((lang_tree.f k 1 x3 0 0 ([] : List (List (S43)))).bind fun t198 => (some (t198, x1000, x1001))) else ((lang_reader_expr.f k x1000 x1001).bind fun bt201 => (lang_reader_expr.l1 k x4 (([bt201.1] : List (List (S43)))) bt201.2.1 bt201.2.2))
def lang_reader_expr.j3 : Nat → Int → List (List (S43)) → ByteArray → Int → Option ((List (S43)) × ByteArray × Int)
 | 0, _, _, _, _ => none
 | k + 1, x4, x6, x1000, x1001 => (lang_numbered.f x4).bind fun t220 => (if t220 = true then ((lang_reader_must.f k x1000 x1001 44).bind fun bt221 => ((lang_reader_number.f k bt221.1 bt221.2).bind fun bt223 => ((lang_reader_must.f k bt223.2.1 bt223.2.2 41).bind fun bt226 => ((lang_tree.f k x4 (⟨#[]⟩ : ByteArray) bt223.1 0 x6).bind fun t228 => (some (t228, bt226.1, bt226.2)))))) else ((lang_reader_must.f k x1000 x1001 41).bind fun bt231 => ((lang_tree.f k x4 (⟨#[]⟩ : ByteArray) 0 0 x6).bind fun t233 => (some (t233, bt231.1, bt231.2)))))
def lang_reader_expr.l1 : Nat → Int → List (List (S43)) → ByteArray → Int → Option ((List (S43)) × ByteArray × Int)
 | 0, _, _, _, _ => none
 | k + 1, x4, x6, x1000, x1001 => if x4 = 2 then ((lang_reader_is.f k x1000 x1001 44).bind fun bt209 => (if bt209.1 = true then ((lang_reader_expr.f k bt209.2.1 bt209.2.2).bind fun bt212 => (if x6.length < 5864062014805 then (lang_reader_expr.l1 k x4 (x6 ++ [bt212.1]) bt212.2.1 bt212.2.2) else (none))) else (lang_reader_expr.j3 k x4 x6 bt209.2.1 bt209.2.2))) else (lang_reader_expr.j3 k x4 x6 x1000 x1001)
def lang_reader_expr.f : Nat → ByteArray → Int → Option ((List (S43)) × ByteArray × Int)
 | 0, _, _ => none
 | k + 1, s0_0, s0_1 => (lang_reader_word.f k s0_0 s0_1).bind fun bt191 => (lang_reader_expr.l0 k bt191.1 0 2 bt191.2.1 bt191.2.2)
end
set_option maxHeartbeats 8000000 in
set_option maxRecDepth 100000 in
theorem lang_reader_expr.calls (k : Nat) : ∀ (g : Nat) (s0_0 : ByteArray) (s0_1 : Int) (r1 : List (S43)) (r2 : ByteArray) (r3 : Int) (w0 w : World) (hI : IsS81 w0 w g s0_0 s0_1) (hB : Below w0.heap.size w0 w) (h : lang_reader_expr.f k s0_0 s0_1 = some (r1, r2, r3)),
  Calls Tryd.prog 61 #[.pointer (some ⟨g, 0, none⟩)] w fun e w' => ∃ v0_ : Value, e = .returned (v0_) ∧ Kd.R k43 43 w' w.heap.size (fun _ => True) v0_ r1 ∧ IsS81 w0 w' g r2 r3 ∧ Below w0.heap.size w0 w' ∧ KeepBut w w' g none := by
 induction k using Nat.strongRecOn with
 | _ k ih =>
 intro g s0_0 s0_1 r1 r2 r3 w0 w hI hB h
 cases k with
 | zero => exact absurd h (by simp [lang_reader_expr.f])
 | succ k =>
 simp only [lang_reader_expr.f] at h
 have hu43 := Tryd.underlying43
 have HI0 := Aside0.mk hI
 have HK := Aside0.mk (KeepBut.refl w g none)
 have HL := Aside0.mk hB.size
 clear hI
 have HW0 := Aside0.mk hB.size
 have HB := Aside0.mk hB
 clear hB
 have H := h
 unfold lang_reader_expr.f at H
 clear h
 replace H := Option.bind_eq_some_iff.mp H
 obtain ⟨⟨t191, t192, t193⟩, A20, H⟩ := H
 try dsimp only at H
 have A2 := Aside0.mk A20
 clear A20
 have H' := Aside0.mk H
 clear H
 go_enter Tryd.func61, Tryd.ntmps61
 go_wp2_with (first | ((with_reducible refine gate_callee (f := 83) rfl ?_); refine goesL_ (some 9) rfl rfl Tryd.func83 (by kernel_rfl) rfl #[.pointer (some ⟨g, 0, none⟩)] rfl (mA1 rfl) ?_; (with_reducible refine (lang_reader_word.calls k g s0_0 s0_1 t191 t192 t193 w0 _ ?side1 ?side2 A2.out).mono ?_); (case side1 => repeat (first | (with_reducible first | exact HI0.out | apply IsS81.alloc | apply IsS81.drewN | apply IsS81.drew | apply IsS81.set_0 | apply IsS81.set_1) | exact HI0.out)); (case side2 => repeat (first | (with_reducible first | exact HB.out | apply below_alloc | apply pw_below_drewN | apply below_drew1 | refine below_set ?_ (IsS81.ge HI0.out)) | exact HB.out)); rintro e w3 ⟨rfl, hi, hb, hk⟩; refine ⟨_, rfl, ?_⟩; replace HK := Aside0.mk (KeepBut.trans (by repeat (first | (with_reducible first | exact HK.out | apply KeepBut.set_ | apply keep_drewN | apply keep_drew | apply keep_alloc) | exact HK.out)) hk (.inl rfl)); replace HB := Aside0.mk hb; replace HI0 := Aside0.mk (hi); (try clear hb)))
 go_loopg [4, 5] k (fun kq v4 v5 w' => ∃ (x4_1 : Int) (x5_1 : Int), v4 = .int .i64 x4_1 ∧ v5 = .int .i64 x5_1 ∧ Aside0 (lang_reader_expr.l0 kq t191 x4_1 x5_1 t192 t193 = some (r1, r2, r3)) ∧ Aside0 (kq ≤ k) ∧ Aside0 (IsS81 w0 w' g t192 t193) ∧ Aside0 (KeepBut w w' g none) ∧ Aside0 (Below w0.heap.size w0 w'))
 case atStart => exact ⟨(0), (2), rfl, rfl, H', ⟨Nat.le_refl _⟩, HI0, HK, ⟨HB.out⟩⟩
 case round =>
  clear H'
  obtain ⟨x4_1, x5_1, rfl, rfl, HA, HK1, HI0, HK, HB⟩ := hrel
  cases gk with
  | zero => exact absurd HA.out (by simp [lang_reader_expr.l0])
  | succ k1 =>
   have H := HA.out
   clear HA
   simp only [lang_reader_expr.l0] at H
   by_cases c4 : x5_1 ≤ 7
   ·
    rw [if_pos c4] at H
    have c4b0 := decide_eq_true c4
    clear c4
    replace H := Option.bind_eq_some_iff.mp H
    obtain ⟨t194, A50, H⟩ := H
    try dsimp only at H
    have A5 := Aside0.mk A50
    clear A50
    by_cases c6 : t194.toList = t191.toList
    rotate_left
    ·
     rw [if_neg c6] at H
     have c6b0 := beq_eq_false_iff_ne.mpr c6
     have c6b1 := bne_iff_ne.mpr c6
     have H' := Aside0.mk H
     clear H
     go_wp2_with (first | ((with_reducible refine gate_callee (f := 52) rfl ?_); refine goesL_ (some 15) rfl rfl Tryd.func52 (by kernel_rfl) rfl #[.int .i64 x5_1] rfl (mA1 rfl) ?_; (with_reducible refine (lang_word.calls x5_1 t194 _ A5.out).mono ?_); rintro e w' ⟨rfl, ⟨nd, rfl⟩⟩; refine ⟨_, rfl, ?_⟩))
     go_roundg k1
     case measure => have := HK1.out; omega
     case rel => exact ⟨(x4_1), (wrap64 (x5_1 + 1)), rfl, rfl, H', ⟨by have := HK1.out; omega⟩, HI0, HK, ⟨hO HB⟩⟩
    rw [if_pos c6] at H
    have c6b0 := beq_iff_eq.mpr c6
    have c6b1 := bne_eq_false_iff_eq.mpr c6
    clear c6
    have H' := Aside0.mk H
    clear H
    go_wp2_with (first | ((with_reducible refine gate_callee (f := 52) rfl ?_); refine goesL_ (some 15) rfl rfl Tryd.func52 (by kernel_rfl) rfl #[.int .i64 x5_1] rfl (mA1 rfl) ?_; (with_reducible refine (lang_word.calls x5_1 t194 _ A5.out).mono ?_); rintro e w' ⟨rfl, ⟨nd, rfl⟩⟩; refine ⟨_, rfl, ?_⟩))
    go_roundg k1
    case measure => have := HK1.out; omega
    case rel => exact ⟨(x5_1), (wrap64 (x5_1 + 1)), rfl, rfl, H', ⟨by have := HK1.out; omega⟩, HI0, HK, ⟨hO HB⟩⟩
   rw [if_neg c4] at H
   have c4b0 := decide_eq_false c4
   clear c4
   have HC7 := Aside0.mk H
   clear H
   go_upto_region 8 with (fail)
   go_cut [25] (fun v25 wc => ∃ (kq : Nat) (x25_6 : Bool) (x1000_6 : ByteArray) (x1001_6 : Int), v25 = .bool x25_6 ∧ Aside0 (lang_reader_expr.j1 kq t191 x4_1 x25_6 x1000_6 x1001_6 = some (r1, r2, r3)) ∧ Aside0 (kq ≤ k1) ∧ Aside0 (IsS81 w0 wc g x1000_6 x1001_6) ∧ Aside0 (KeepBut w wc g none) ∧ Aside0 (Below w0.heap.size w0 wc))
   case first =>
    have H := HC7.out
    clear HC7
    by_cases c8 : x4_1 = 0
    ·
     rw [if_pos c8] at H
     have c8b0 := beq_iff_eq.mpr c8
     have c8b1 := bne_eq_false_iff_eq.mpr c8
     clear c8
     (first | rw [c8b0] | (simp only [i64_w, i32_w]; rw [c8b0]) | skip)
     have H' := Aside0.mk H
     clear H
     go_wp2
     go_meet
     case rel => exact ⟨_, (true), (t192), (t193), rfl, H', ⟨by have := HK1.out; first | omega | exact Nat.le_refl _⟩, HI0, HK, ⟨HB.out⟩⟩
    rw [if_neg c8] at H
    have c8b0 := beq_eq_false_iff_ne.mpr c8
    have c8b1 := bne_iff_ne.mpr c8
    (first | rw [c8b0] | (simp only [i64_w, i32_w]; rw [c8b0]) | skip)
    replace H := Option.bind_eq_some_iff.mp H
    obtain ⟨⟨t195, t196, t197⟩, A90, H⟩ := H
    try dsimp only at H
    have A9 := Aside0.mk A90
    clear A90
    have H' := Aside0.mk H
    clear H
    go_wp2_with (first | (go_at_call 84; (with_reducible refine (lang_reader_is.calls k1 g t192 t193 40 t195 t196 t197 w0 _ ?side1 ?side2 A9.out).mono ?_); (case side1 => repeat (first | (with_reducible first | exact HI0.out | apply IsS81.alloc | apply IsS81.drewN | apply IsS81.drew | apply IsS81.set_0 | apply IsS81.set_1) | exact HI0.out)); (case side2 => repeat (first | (with_reducible first | exact HB.out | apply below_alloc | apply pw_below_drewN | apply below_drew1 | refine below_set ?_ (IsS81.ge HI0.out)) | exact HB.out)); rintro e w10 ⟨rfl, hi, hb, hk⟩; replace HK := Aside0.mk (KeepBut.trans (by repeat (first | (with_reducible first | exact HK.out | apply KeepBut.set_ | apply keep_drewN | apply keep_drew | apply keep_alloc) | exact HK.out)) hk (.inl rfl)); replace HB := Aside0.mk hb; replace HI0 := Aside0.mk (hi); (try clear hb)))
    go_meet
    case rel => exact ⟨_, (!t195), (t196), (t197), rfl, H', ⟨by have := HK1.out; first | omega | exact Nat.le_refl _⟩, HI0, HK, ⟨HB.out⟩⟩
   case rest =>
    clear HC7; try clear p2; try clear c4; try clear c4b0; try clear c5; try clear c6; try clear c6b0; try clear c6b1; try clear p6; try clear c8; try clear c8b0; try clear c8b1
    obtain ⟨kq, x25_6, x1000_6, x1001_6, rfl, HA, HJ6, HI0, HK, HB⟩ := hcut
    cases kq with
    | zero => exact absurd HA.out (by simp [lang_reader_expr.j1])
    | succ kj6 =>
     have H := HA.out
     clear HA
     simp only [lang_reader_expr.j1] at H
     by_cases c11 : x25_6 = true
     ·
      subst c11
      rw [if_pos rfl] at H
      replace H := Option.bind_eq_some_iff.mp H
      obtain ⟨t198, A120, H⟩ := H
      try dsimp only at H
      have A12 := Aside0.mk A120
      clear A120
      simp only [Option.some.injEq, Prod.mk.injEq] at H
      obtain ⟨rfl, rfl, rfl⟩ := H
      go_wp2_with (first | ((with_reducible refine gate_callee (f := 71) rfl ?_); refine goesL_ (some 28) rfl rfl Tryd.func71 (by kernel_rfl) rfl #[.agg #[.int .i64 1, .string t191, .int .i64 0, .int .i64 0], .slice none 0 0] rfl (mA2 rfl rfl) ?_; (refine (lang_tree.calls kj6 1 t191 0 0 _ _ ([] : List (List (S43))) t198 _ ?side1 ?side2 A12.out).mono ?_); (case side1 => exact Kd.C_nil _ _); (case side2 => exact Nat.le_refl _); rintro e w13 ⟨v199, rfl, ho0, hb⟩; refine ⟨_, rfl, ?_⟩; have HO200 := Aside0.mk (Kd.R_lower ho0 (keep_size (w := w) (g := g) (row := none) (by repeat (first | (with_reducible first | exact HK.out | apply KeepBut.set_ | apply keep_drewN | apply keep_drew | apply keep_alloc) | exact HK.out)))); replace HI0 := Aside0.mk (IsS81.below (by repeat (first | (with_reducible first | exact HI0.out | apply IsS81.alloc | apply IsS81.drewN | apply IsS81.drew | apply IsS81.set_0 | apply IsS81.set_1) | exact HI0.out)) hb); replace HK := Aside0.mk (KeepBut.trans (by repeat (first | (with_reducible first | exact HK.out | apply KeepBut.set_ | apply keep_drewN | apply keep_drew | apply keep_alloc) | exact HK.out)) (KeepBut.of_below hb g none) (.inl rfl)); replace HB := mSt HB hb; (try clear hb); (try clear ho0)))
      go_ret
      exact ⟨_, rfl, by exact HO200.out, by repeat (first | (with_reducible first | exact HI0.out | apply IsS81.alloc | apply IsS81.drewN | apply IsS81.drew | apply IsS81.set_0 | apply IsS81.set_1) | exact HI0.out), by repeat (first | (with_reducible first | exact HB.out | apply below_alloc | apply pw_below_drewN | apply below_drew1 | refine below_set ?_ (IsS81.ge HI0.out)) | exact HB.out), by repeat (first | (with_reducible first | exact HK.out | apply KeepBut.set_ | apply keep_drewN | apply keep_drew | apply keep_alloc) | exact HK.out)⟩
     replace c11 := Bool.eq_false_iff.mpr c11
     subst c11
     rw [if_neg (show ¬ (false = true) by decide)] at H
     replace H := Option.bind_eq_some_iff.mp H
     obtain ⟨⟨t201, t204, t205⟩, A140, H⟩ := H
     try dsimp only at H
     have A14 := Aside0.mk A140
     clear A140
     obtain ⟨y206, hy206⟩ : ∃ y_ : List (List (S43)), y_ = (([t201] : List (List (S43)))) := ⟨_, rfl⟩
     rw [← hy206] at H
     have Ny206 := Aside0.mk hy206
     clear hy206
     have HC15 := Aside0.mk H
     clear H
     go_upto_block 2 with (first | ((with_reducible refine gate_callee (f := 61) rfl ?_); refine goesL_ (some 30) rfl rfl Tryd.func61 (by kernel_rfl) rfl #[.pointer (some ⟨g, 0, none⟩)] rfl (mA1 rfl) ?_; (with_reducible refine (ih kj6 (by have := HK1.out; have := HJ6.out; omega) g x1000_6 x1001_6 t201 t204 t205 w0 _ ?side1 ?side2 A14.out).mono ?_); (case side1 => repeat (first | (with_reducible first | exact HI0.out | apply IsS81.alloc | apply IsS81.drewN | apply IsS81.drew | apply IsS81.set_0 | apply IsS81.set_1) | exact HI0.out)); (case side2 => repeat (first | (with_reducible first | exact HB.out | apply below_alloc | apply pw_below_drewN | apply below_drew1 | refine below_set ?_ (IsS81.ge HI0.out)) | exact HB.out)); rintro e w16 ⟨v202, rfl, ho0, hi, hb, hk⟩; refine ⟨_, rfl, ?_⟩; have HO203 := Aside0.mk (Kd.R_lower ho0 (keep_size (w := w) (g := g) (row := none) (by repeat (first | (with_reducible first | exact HK.out | apply KeepBut.set_ | apply keep_drewN | apply keep_drew | apply keep_alloc) | exact HK.out)))); replace HK := Aside0.mk (KeepBut.trans (by repeat (first | (with_reducible first | exact HK.out | apply KeepBut.set_ | apply keep_drewN | apply keep_drew | apply keep_alloc) | exact HK.out)) hk (.inl rfl)); replace HB := Aside0.mk hb; replace HI0 := Aside0.mk (hi); (try clear hb); (try clear ho0); obtain ⟨Ao17, co17, eo17⟩ := Kd.R_slice HO203.out; subst eo17) | ((with_reducible refine gate_dst (N := 31) rfl ?_); refine Kd.N_lit (Kd.slice 43 k43) _ 22 ?hg (N' := 31) ?hd (xs := ([t201] : List (List (S43)))) (inner := [.slice Ao17 t201.length co17]) (ok := (fun k_ => k_ ≠ g)) (okp := (fun k_ => k_ ≠ g)) ?hr ?hp (fun _ hk => hk) ((show ∀ k_, w16.heap.size ≤ k_ → (fun k_ => k_ ≠ g) k_ from fun k_ hk => IsS81.fresh (by repeat (first | (with_reducible first | exact HI0.out | apply IsS81.alloc | apply IsS81.drewN | apply IsS81.drew | apply IsS81.set_0 | apply IsS81.set_1) | exact HI0.out)) k_ hk) _ (Nat.le_refl _)) (Below.refl _ _) (Nat.le_refl _) (by simp) ?_; (case hd => rfl); (case hg => rfl); (case hr => first | (go_simp; done) | (go_simp; rfl)); (case hp => exact (Reps.one (show Kd.FK (Kd.slice 43 k43) _ _ t201 [.slice Ao17 t201.length co17] from (Kd.FK_slice_mk (Kd.R_reads' (Kd.R_mono (ok' := (fun k_ => k_ ≠ g)) (IsS81.apart HI0.out (HO203.out) (by decide)) (fun k_ hk => hk.2))).2.1 (Kd.R_F (Kd.R_mono (ok' := (fun k_ => k_ ≠ g)) (IsS81.apart HI0.out (HO203.out) (by decide)) (fun k_ hk => hk.2))))) (Reps.none _ _))); intro v207 w18 ho19 hb hg_ hnew_; clear hg_ hnew_; (first | rw [← Ny206.out] at ho19 | (simp only [Int.reduceToNat] at ho19; rw [← Ny206.out] at ho19)); have HO208 := Aside0.mk (Kd.N_lower ho19 (keep_size (w := w) (g := g) (row := none) (by repeat (first | (with_reducible first | exact HK.out | apply KeepBut.set_ | apply keep_drewN | apply keep_drew | apply keep_alloc) | exact HK.out)))); replace HI0 := Aside0.mk (IsS81.below (by repeat (first | (with_reducible first | exact HI0.out | apply IsS81.alloc | apply IsS81.drewN | apply IsS81.drew | apply IsS81.set_0 | apply IsS81.set_1) | exact HI0.out)) hb); replace HK := Aside0.mk (KeepBut.trans (by repeat (first | (with_reducible first | exact HK.out | apply KeepBut.set_ | apply keep_drewN | apply keep_drew | apply keep_alloc) | exact HK.out)) (KeepBut.of_below hb g none) (.inl rfl)); replace HB := mSt HB hb; clear HO203; clear hb ho19))
     (try simp only [Act.put, List.setIfInBounds_toArray, List.set_cons_zero, List.set_cons_succ])
     go_cut [6] (fun v6 wc => ∃ (kq : Nat) (x6_14 : List (List (S43))) (x1000_14 : ByteArray) (x1001_14 : Int), Aside0 (lang_reader_expr.j3 kq x4_1 x6_14 x1000_14 x1001_14 = some (r1, r2, r3)) ∧ Aside0 (kq ≤ kj6) ∧ Aside0 (Kd.N (Kd.slice 43 k43) 22 wc w.heap.size (fun k_ => k_ ≠ g) v6 x6_14) ∧ Aside0 (IsS81 w0 wc g x1000_14 x1001_14) ∧ Aside0 (KeepBut w wc g none) ∧ Aside0 (Below w0.heap.size w0 wc))
     case first =>
      have H := HC15.out
      clear HC15
      have H' := Aside0.mk H
      clear H
      go_wp2
      go_loopg [6] kj6 (fun kq v6 w' => ∃ (x6_3 : List (List (S43))) (x1000_3 : ByteArray) (x1001_3 : Int), Aside0 (lang_reader_expr.l1 kq x4_1 x6_3 x1000_3 x1001_3 = some (r1, r2, r3)) ∧ Aside0 (kq ≤ kj6) ∧ Aside0 (Kd.N (Kd.slice 43 k43) 22 w' w.heap.size (fun k_ => k_ ≠ g) v6 x6_3) ∧ Aside0 (IsS81 w0 w' g x1000_3 x1001_3) ∧ Aside0 (KeepBut w w' g none) ∧ Aside0 (Below w0.heap.size w0 w'))
      case atStart => exact ⟨(y206), (t204), (t205), H', ⟨Nat.le_refl _⟩, HO208, HI0, HK, ⟨HB.out⟩⟩
      case round =>
       clear H'
       try clear c1; try clear p2; try clear c4; try clear c4b0; try clear c5; try clear c6; try clear c6b0; try clear c6b1; try clear p6; try clear c7; try clear c8; try clear c8b0; try clear c8b1; try clear c11
       obtain ⟨x6_3, x1000_3, x1001_3, HA, HK3, HO_6, HI0, HK, HB⟩ := hrel
       cases gk with
       | zero => exact absurd HA.out (by simp [lang_reader_expr.l1])
       | succ k3 =>
        have H := HA.out
        clear HA
        simp only [lang_reader_expr.l1] at H
        by_cases c20 : x4_1 = 2
        rotate_left
        ·
         rw [if_neg c20] at H
         have c20b0 := beq_eq_false_iff_ne.mpr c20
         have c20b1 := bne_iff_ne.mpr c20
         (first | rw [c20b0] | (simp only [i64_w, i32_w]; rw [c20b0]) | skip)
         have H' := Aside0.mk H
         clear H
         go_wp2
         go_meet
         case rel => exact ⟨_, (x6_3), (x1000_3), (x1001_3), H', ⟨by have := HK1.out; have := HJ6.out; have := HK3.out; first | omega | exact Nat.le_refl _⟩, HO_6, HI0, HK, ⟨HB.out⟩⟩
        rw [if_pos c20] at H
        have c20b0 := beq_iff_eq.mpr c20
        have c20b1 := bne_eq_false_iff_eq.mpr c20
        clear c20
        (first | rw [c20b0] | (simp only [i64_w, i32_w]; rw [c20b0]) | skip)
        replace H := Option.bind_eq_some_iff.mp H
        obtain ⟨⟨t209, t210, t211⟩, A210, H⟩ := H
        try dsimp only at H
        have A21 := Aside0.mk A210
        clear A210
        by_cases c22 : t209 = true
        rotate_left
        ·
         replace c22 := Bool.eq_false_iff.mpr c22
         subst c22
         rw [if_neg (show ¬ (false = true) by decide)] at H
         have H' := Aside0.mk H
         clear H
         go_wp2_with (first | (go_at_call 84; (with_reducible refine (lang_reader_is.calls k3 g x1000_3 x1001_3 44 false t210 t211 w0 _ ?side1 ?side2 A21.out).mono ?_); (case side1 => repeat (first | (with_reducible first | exact HI0.out | apply IsS81.alloc | apply IsS81.drewN | apply IsS81.drew | apply IsS81.set_0 | apply IsS81.set_1) | exact HI0.out)); (case side2 => repeat (first | (with_reducible first | exact HB.out | apply below_alloc | apply pw_below_drewN | apply below_drew1 | refine below_set ?_ (IsS81.ge HI0.out)) | exact HB.out)); rintro e w29 ⟨rfl, hi, hb, hk⟩; replace HO_6 := Aside0.mk (Kd.N_mono (Kd.N_keep (Kd.N_mono (ok := fun k_ => k_ ≠ g) HO_6.out (fun k_ hk_ => (⟨hk_, hk_⟩ : _ ∧ k_ ≠ g))) hk (fun _ h => h.2)) (fun _ h => h.1)); replace HK := Aside0.mk (KeepBut.trans (by repeat (first | (with_reducible first | exact HK.out | apply KeepBut.set_ | apply keep_drewN | apply keep_drew | apply keep_alloc) | exact HK.out)) hk (.inl rfl)); replace HB := Aside0.mk hb; replace HI0 := Aside0.mk (hi); (try clear hb)))
         go_meet
         case rel => exact ⟨_, (x6_3), (t210), (t211), H', ⟨by have := HK1.out; have := HJ6.out; have := HK3.out; first | omega | exact Nat.le_refl _⟩, HO_6, HI0, HK, ⟨HB.out⟩⟩
        subst c22
        rw [if_pos rfl] at H
        replace H := Option.bind_eq_some_iff.mp H
        obtain ⟨⟨t212, t215, t216⟩, A230, H⟩ := H
        try dsimp only at H
        have A23 := Aside0.mk A230
        clear A230
        obtain ⟨c24, H⟩ : (x6_3.length < 5864062014805) ∧ _ := mIf H
        have LMc24 := Aside0.mk c24
        clear c24
        obtain ⟨y217, hy217⟩ : ∃ y_ : List (List (S43)), y_ = (x6_3 ++ [t212]) := ⟨_, rfl⟩
        rw [← hy217] at H
        have Ny217 := Aside0.mk hy217
        clear hy217
        have H' := Aside0.mk H
        clear H
        go_wp2_with (first | (go_at_call 84; (with_reducible refine (lang_reader_is.calls k3 g x1000_3 x1001_3 44 true t210 t211 w0 _ ?side1 ?side2 A21.out).mono ?_); (case side1 => repeat (first | (with_reducible first | exact HI0.out | apply IsS81.alloc | apply IsS81.drewN | apply IsS81.drew | apply IsS81.set_0 | apply IsS81.set_1) | exact HI0.out)); (case side2 => repeat (first | (with_reducible first | exact HB.out | apply below_alloc | apply pw_below_drewN | apply below_drew1 | refine below_set ?_ (IsS81.ge HI0.out)) | exact HB.out)); rintro e w25 ⟨rfl, hi, hb, hk⟩; replace HO_6 := Aside0.mk (Kd.N_mono (Kd.N_keep (Kd.N_mono (ok := fun k_ => k_ ≠ g) HO_6.out (fun k_ hk_ => (⟨hk_, hk_⟩ : _ ∧ k_ ≠ g))) hk (fun _ h => h.2)) (fun _ h => h.1)); replace HK := Aside0.mk (KeepBut.trans (by repeat (first | (with_reducible first | exact HK.out | apply KeepBut.set_ | apply keep_drewN | apply keep_drew | apply keep_alloc) | exact HK.out)) hk (.inl rfl)); replace HB := Aside0.mk hb; replace HI0 := Aside0.mk (hi); (try clear hb)) | ((with_reducible refine gate_callee (f := 61) rfl ?_); refine goesL_ (some 40) rfl rfl Tryd.func61 (by kernel_rfl) rfl #[.pointer (some ⟨g, 0, none⟩)] rfl (mA1 rfl) ?_; (with_reducible refine (ih k3 (by have := HK1.out; have := HJ6.out; have := HK3.out; omega) g t210 t211 t212 t215 t216 w0 _ ?side1 ?side2 A23.out).mono ?_); (case side1 => repeat (first | (with_reducible first | exact HI0.out | apply IsS81.alloc | apply IsS81.drewN | apply IsS81.drew | apply IsS81.set_0 | apply IsS81.set_1) | exact HI0.out)); (case side2 => repeat (first | (with_reducible first | exact HB.out | apply below_alloc | apply pw_below_drewN | apply below_drew1 | refine below_set ?_ (IsS81.ge HI0.out)) | exact HB.out)); rintro e w26 ⟨v213, rfl, ho0, hi, hb, hk⟩; refine ⟨_, rfl, ?_⟩; replace HO_6 := Aside0.mk (Kd.N_mono (Kd.N_told (Kd.N_oldK (Kd.N_mono (ok := fun k_ => k_ ≠ g) HO_6.out (fun k_ hk_ => (⟨hk_, hk_⟩ : _ ∧ k_ ≠ g))) hk) (Kd.R_base ho0)) (fun _ h_ => h_.1)); have HO214 := Aside0.mk (Kd.R_lower ho0 (keep_size (w := w) (g := g) (row := none) (by repeat (first | (with_reducible first | exact HK.out | apply KeepBut.set_ | apply keep_drewN | apply keep_drew | apply keep_alloc) | exact HK.out)))); replace HK := Aside0.mk (KeepBut.trans (by repeat (first | (with_reducible first | exact HK.out | apply KeepBut.set_ | apply keep_drewN | apply keep_drew | apply keep_alloc) | exact HK.out)) hk (.inl rfl)); replace HB := Aside0.mk hb; replace HI0 := Aside0.mk (hi); (try clear hb); (try clear ho0); obtain ⟨Ao28, co28, eo28⟩ := Kd.R_slice HO214.out; subst eo28) | ((with_reducible refine gate_builtin (b := .append) (xs := #[.tmp 38, .tmp 41]) rfl ?_); at_builtin; refine Kd.N_append (Kd.slice 43 k43) w.heap.size rfl (.tmp 38) (.tmp 41) 61 22 (.slice none 0 0) 24 rfl Tryd.underlying61 info22 rfl (by decide) (by omega) u6 x6_3 t212 [.slice Ao28 t212.length co28] (fun k_ => k_ ≠ g) (fun k_ => ((fun k_ => k_ ≠ g)) k_ ∧ some k_ ≠ (u6 : Value).ownBlock) rfl rfl ?aP (fun _ hk => hk) ?aF ?aO (Below.refl _ _) ?aS ?aL ?_; (case aP => exact (Kd.FK_slice_mk (Kd.R_reads' (Kd.R_mono (ok' := (fun k_ => ((fun k_ => k_ ≠ g)) k_ ∧ some k_ ≠ (u6 : Value).ownBlock)) (IsS81.apart HI0.out (Kd.R_apart' (HO214.out) (Kd.N_typed HO_6.out) (by decide)) (by decide)) (fun k_ hk => ⟨hk.2, hk.1.2⟩))).2.1 (Kd.R_F (Kd.R_mono (ok' := (fun k_ => ((fun k_ => k_ ≠ g)) k_ ∧ some k_ ≠ (u6 : Value).ownBlock)) (IsS81.apart HI0.out (Kd.R_apart' (HO214.out) (Kd.N_typed HO_6.out) (by decide)) (by decide)) (fun k_ hk => ⟨hk.2, hk.1.2⟩))))); (case aF => exact (fun k_ hk => IsS81.fresh (by repeat (first | (with_reducible first | exact HI0.out | apply IsS81.alloc | apply IsS81.drewN | apply IsS81.drew | apply IsS81.set_0 | apply IsS81.set_1) | exact HI0.out)) k_ hk)); (case aO => exact (by (with_reducible repeat (first | apply Kd.N_alloc | apply Kd.N_drewN | apply Kd.N_drew)); exact Kd.N_mono HO_6.out (fun _ hk => hk.1))); (case aS => exact (keep_size (w := w) (g := g) (row := none) (by repeat (first | (with_reducible first | exact HK.out | apply KeepBut.set_ | apply keep_drewN | apply keep_drew | apply keep_alloc) | exact HK.out)))); (case aL => have := LMc24.out; omega); intro v218 w27 ho hb hg hat; rw [← Ny217.out] at ho; replace HI0 := Aside0.mk (IsS81.grown (by repeat (first | (with_reducible first | exact HI0.out | apply IsS81.alloc | apply IsS81.drewN | apply IsS81.drew | apply IsS81.set_0 | apply IsS81.set_1) | exact HI0.out)) hg (IsS81.own_neN HI0.out HO_6.out (by decide))); replace HB := Aside0.mk (below_weaken HB.out HL.out hb); replace HK := Aside0.mk (KeepBut.trans (by repeat (first | (with_reducible first | exact HK.out | apply KeepBut.set_ | apply keep_drewN | apply keep_drew | apply keep_alloc) | exact HK.out)) (KeepBut.of_grown hg g) (Kd.N_base2 HO_6.out)); have HO219 := Aside0.mk ho; clear HO_6 HO214; clear ho hb hg hat))
        go_roundg k3
        case measure => have := HK1.out; have := HJ6.out; have := HK3.out; omega
        case rel => exact ⟨(y217), (t215), (t216), H', ⟨by have := HK1.out; have := HJ6.out; have := HK3.out; omega⟩, HO219, HI0, HK, ⟨HB.out⟩⟩
     case rest =>
      clear HC15; try clear c1; try clear c2; try clear p2; try clear c4; try clear c4b0; try clear c5; try clear c6; try clear c6b0; try clear c6b1; try clear p6; try clear c7; try clear c8; try clear c8b0; try clear c8b1; try clear c11; try clear c20; try clear c20b0; try clear c20b1; try clear c22; try clear c24
      obtain ⟨kq, x6_14, x1000_14, x1001_14, HA, HJ14, HO_6, HI0, HK, HB⟩ := hcut
      cases kq with
      | zero => exact absurd HA.out (by simp [lang_reader_expr.j3])
      | succ kj14 =>
       have H := HA.out
       clear HA
       simp only [lang_reader_expr.j3] at H
       replace H := Option.bind_eq_some_iff.mp H
       obtain ⟨t220, A300, H⟩ := H
       try dsimp only at H
       have A30 := Aside0.mk A300
       clear A300
       by_cases c31 : t220 = true
       rotate_left
       ·
        replace c31 := Bool.eq_false_iff.mpr c31
        subst c31
        rw [if_neg (show ¬ (false = true) by decide)] at H
        replace H := Option.bind_eq_some_iff.mp H
        obtain ⟨⟨t231, t232⟩, A410, H⟩ := H
        try dsimp only at H
        have A41 := Aside0.mk A410
        clear A410
        replace H := Option.bind_eq_some_iff.mp H
        obtain ⟨t233, A420, H⟩ := H
        try dsimp only at H
        have A42 := Aside0.mk A420
        clear A420
        simp only [Option.some.injEq, Prod.mk.injEq] at H
        obtain ⟨rfl, rfl, rfl⟩ := H
        go_wp2_with (first | ((with_reducible refine gate_callee (f := 50) rfl ?_); refine goesL_ (some 44) rfl rfl Tryd.func50 (by kernel_rfl) rfl #[.int .i64 x4_1] rfl (mA1 rfl) ?_; (with_reducible refine (lang_numbered.calls x4_1 false _ A30.out).mono ?_); rintro e w' ⟨rfl, ⟨nd, rfl⟩⟩; refine ⟨_, rfl, ?_⟩) | ((with_reducible refine gate_callee (f := 85) rfl ?_); refine goesL_ (some 50) rfl rfl Tryd.func85 (by kernel_rfl) rfl #[.pointer (some ⟨g, 0, none⟩), .int .u8 41] rfl (mA2 rfl rfl) ?_; (with_reducible refine (lang_reader_must.calls kj14 g x1000_14 x1001_14 41 t231 t232 w0 _ ?side1 ?side2 A41.out).mono ?_); (case side1 => repeat (first | (with_reducible first | exact HI0.out | apply IsS81.alloc | apply IsS81.drewN | apply IsS81.drew | apply IsS81.set_0 | apply IsS81.set_1) | exact HI0.out)); (case side2 => repeat (first | (with_reducible first | exact HB.out | apply below_alloc | apply pw_below_drewN | apply below_drew1 | refine below_set ?_ (IsS81.ge HI0.out)) | exact HB.out)); rintro e w43 ⟨rfl, hi, hb, hk⟩; refine ⟨_, rfl, ?_⟩; replace HO_6 := Aside0.mk (Kd.N_mono (Kd.N_keep (Kd.N_mono (ok := fun k_ => k_ ≠ g) HO_6.out (fun k_ hk_ => (⟨hk_, hk_⟩ : _ ∧ k_ ≠ g))) hk (fun _ h => h.2)) (fun _ h => h.1)); replace HK := Aside0.mk (KeepBut.trans (by repeat (first | (with_reducible first | exact HK.out | apply KeepBut.set_ | apply keep_drewN | apply keep_drew | apply keep_alloc) | exact HK.out)) hk (.inl rfl)); replace HB := Aside0.mk hb; replace HI0 := Aside0.mk (hi); (try clear hb); obtain ⟨Ao44, co44, eo44⟩ := Kd.N_slice HO_6.out; subst eo44) | ((with_reducible refine gate_callee (f := 71) rfl ?_); refine goesL_ (some 55) rfl rfl Tryd.func71 (by kernel_rfl) rfl #[.agg #[.int .i64 x4_1, .string (⟨#[]⟩ : ByteArray), .int .i64 0, .int .i64 0], .slice Ao44 x6_14.length co44] rfl (mA2 rfl rfl) ?_; (with_reducible refine (lang_tree.calls kj14 x4_1 (⟨#[]⟩ : ByteArray) 0 0 _ _ x6_14 t233 _ ((Kd.N_reads' HO_6.out).2.2) ((Kd.N_reads' HO_6.out).2.1) A42.out).mono ?_); rintro e w45 ⟨v234, rfl, ho0, hb⟩; refine ⟨_, rfl, ?_⟩; replace HO_6 := Aside0.mk (Kd.N_elder' HO_6.out (Kd.R_base ho0) hb); have HO235 := Aside0.mk (Kd.R_lower ho0 (keep_size (w := w) (g := g) (row := none) (by repeat (first | (with_reducible first | exact HK.out | apply KeepBut.set_ | apply keep_drewN | apply keep_drew | apply keep_alloc) | exact HK.out)))); replace HI0 := Aside0.mk (IsS81.below (by repeat (first | (with_reducible first | exact HI0.out | apply IsS81.alloc | apply IsS81.drewN | apply IsS81.drew | apply IsS81.set_0 | apply IsS81.set_1) | exact HI0.out)) hb); replace HK := Aside0.mk (KeepBut.trans (by repeat (first | (with_reducible first | exact HK.out | apply KeepBut.set_ | apply keep_drewN | apply keep_drew | apply keep_alloc) | exact HK.out)) (KeepBut.of_below hb g none) (.inl rfl)); replace HB := mSt HB hb; (try clear hb); (try clear ho0)))
        go_ret
        exact ⟨_, rfl, by exact HO235.out, by repeat (first | (with_reducible first | exact HI0.out | apply IsS81.alloc | apply IsS81.drewN | apply IsS81.drew | apply IsS81.set_0 | apply IsS81.set_1) | exact HI0.out), by repeat (first | (with_reducible first | exact HB.out | apply below_alloc | apply pw_below_drewN | apply below_drew1 | refine below_set ?_ (IsS81.ge HI0.out)) | exact HB.out), by repeat (first | (with_reducible first | exact HK.out | apply KeepBut.set_ | apply keep_drewN | apply keep_drew | apply keep_alloc) | exact HK.out)⟩
       subst c31
       rw [if_pos rfl] at H
       replace H := Option.bind_eq_some_iff.mp H
       obtain ⟨⟨t221, t222⟩, A320, H⟩ := H
       try dsimp only at H
       have A32 := Aside0.mk A320
       clear A320
       replace H := Option.bind_eq_some_iff.mp H
       obtain ⟨⟨t223, t224, t225⟩, A330, H⟩ := H
       try dsimp only at H
       have A33 := Aside0.mk A330
       clear A330
       replace H := Option.bind_eq_some_iff.mp H
       obtain ⟨⟨t226, t227⟩, A340, H⟩ := H
       try dsimp only at H
       have A34 := Aside0.mk A340
       clear A340
       replace H := Option.bind_eq_some_iff.mp H
       obtain ⟨t228, A350, H⟩ := H
       try dsimp only at H
       have A35 := Aside0.mk A350
       clear A350
       simp only [Option.some.injEq, Prod.mk.injEq] at H
       obtain ⟨rfl, rfl, rfl⟩ := H
       go_wp2_with (first | ((with_reducible refine gate_callee (f := 50) rfl ?_); refine goesL_ (some 44) rfl rfl Tryd.func50 (by kernel_rfl) rfl #[.int .i64 x4_1] rfl (mA1 rfl) ?_; (with_reducible refine (lang_numbered.calls x4_1 true _ A30.out).mono ?_); rintro e w' ⟨rfl, ⟨nd, rfl⟩⟩; refine ⟨_, rfl, ?_⟩) | ((with_reducible refine gate_callee (f := 85) rfl ?_); refine goesL_ (some 46) rfl rfl Tryd.func85 (by kernel_rfl) rfl #[.pointer (some ⟨g, 0, none⟩), .int .u8 44] rfl (mA2 rfl rfl) ?_; (with_reducible refine (lang_reader_must.calls kj14 g x1000_14 x1001_14 44 t221 t222 w0 _ ?side1 ?side2 A32.out).mono ?_); (case side1 => repeat (first | (with_reducible first | exact HI0.out | apply IsS81.alloc | apply IsS81.drewN | apply IsS81.drew | apply IsS81.set_0 | apply IsS81.set_1) | exact HI0.out)); (case side2 => repeat (first | (with_reducible first | exact HB.out | apply below_alloc | apply pw_below_drewN | apply below_drew1 | refine below_set ?_ (IsS81.ge HI0.out)) | exact HB.out)); rintro e w36 ⟨rfl, hi, hb, hk⟩; refine ⟨_, rfl, ?_⟩; replace HO_6 := Aside0.mk (Kd.N_mono (Kd.N_keep (Kd.N_mono (ok := fun k_ => k_ ≠ g) HO_6.out (fun k_ hk_ => (⟨hk_, hk_⟩ : _ ∧ k_ ≠ g))) hk (fun _ h => h.2)) (fun _ h => h.1)); replace HK := Aside0.mk (KeepBut.trans (by repeat (first | (with_reducible first | exact HK.out | apply KeepBut.set_ | apply keep_drewN | apply keep_drew | apply keep_alloc) | exact HK.out)) hk (.inl rfl)); replace HB := Aside0.mk hb; replace HI0 := Aside0.mk (hi); (try clear hb)) | ((with_reducible refine gate_callee (f := 86) rfl ?_); refine goesL_ (some 48) rfl rfl Tryd.func86 (by kernel_rfl) rfl #[.pointer (some ⟨g, 0, none⟩)] rfl (mA1 rfl) ?_; (with_reducible refine (lang_reader_number.calls kj14 g t221 t222 t223 t224 t225 w0 _ ?side1 ?side2 A33.out).mono ?_); (case side1 => repeat (first | (with_reducible first | exact HI0.out | apply IsS81.alloc | apply IsS81.drewN | apply IsS81.drew | apply IsS81.set_0 | apply IsS81.set_1) | exact HI0.out)); (case side2 => repeat (first | (with_reducible first | exact HB.out | apply below_alloc | apply pw_below_drewN | apply below_drew1 | refine below_set ?_ (IsS81.ge HI0.out)) | exact HB.out)); rintro e w37 ⟨rfl, hi, hb, hk⟩; refine ⟨_, rfl, ?_⟩; replace HO_6 := Aside0.mk (Kd.N_mono (Kd.N_keep (Kd.N_mono (ok := fun k_ => k_ ≠ g) HO_6.out (fun k_ hk_ => (⟨hk_, hk_⟩ : _ ∧ k_ ≠ g))) hk (fun _ h => h.2)) (fun _ h => h.1)); replace HK := Aside0.mk (KeepBut.trans (by repeat (first | (with_reducible first | exact HK.out | apply KeepBut.set_ | apply keep_drewN | apply keep_drew | apply keep_alloc) | exact HK.out)) hk (.inl rfl)); replace HB := Aside0.mk hb; replace HI0 := Aside0.mk (hi); (try clear hb)) | ((with_reducible refine gate_callee (f := 85) rfl ?_); refine goesL_ (some 50) rfl rfl Tryd.func85 (by kernel_rfl) rfl #[.pointer (some ⟨g, 0, none⟩), .int .u8 41] rfl (mA2 rfl rfl) ?_; (with_reducible refine (lang_reader_must.calls kj14 g t224 t225 41 t226 t227 w0 _ ?side1 ?side2 A34.out).mono ?_); (case side1 => repeat (first | (with_reducible first | exact HI0.out | apply IsS81.alloc | apply IsS81.drewN | apply IsS81.drew | apply IsS81.set_0 | apply IsS81.set_1) | exact HI0.out)); (case side2 => repeat (first | (with_reducible first | exact HB.out | apply below_alloc | apply pw_below_drewN | apply below_drew1 | refine below_set ?_ (IsS81.ge HI0.out)) | exact HB.out)); rintro e w38 ⟨rfl, hi, hb, hk⟩; refine ⟨_, rfl, ?_⟩; replace HO_6 := Aside0.mk (Kd.N_mono (Kd.N_keep (Kd.N_mono (ok := fun k_ => k_ ≠ g) HO_6.out (fun k_ hk_ => (⟨hk_, hk_⟩ : _ ∧ k_ ≠ g))) hk (fun _ h => h.2)) (fun _ h => h.1)); replace HK := Aside0.mk (KeepBut.trans (by repeat (first | (with_reducible first | exact HK.out | apply KeepBut.set_ | apply keep_drewN | apply keep_drew | apply keep_alloc) | exact HK.out)) hk (.inl rfl)); replace HB := Aside0.mk hb; replace HI0 := Aside0.mk (hi); (try clear hb); obtain ⟨Ao39, co39, eo39⟩ := Kd.N_slice HO_6.out; subst eo39) | ((with_reducible refine gate_callee (f := 71) rfl ?_); refine goesL_ (some 55) rfl rfl Tryd.func71 (by kernel_rfl) rfl #[.agg #[.int .i64 x4_1, .string (⟨#[]⟩ : ByteArray), .int .i64 t223, .int .i64 0], .slice Ao39 x6_14.length co39] rfl (mA2 rfl rfl) ?_; (with_reducible refine (lang_tree.calls kj14 x4_1 (⟨#[]⟩ : ByteArray) t223 0 _ _ x6_14 t228 _ ((Kd.N_reads' HO_6.out).2.2) ((Kd.N_reads' HO_6.out).2.1) A35.out).mono ?_); rintro e w40 ⟨v229, rfl, ho0, hb⟩; refine ⟨_, rfl, ?_⟩; replace HO_6 := Aside0.mk (Kd.N_elder' HO_6.out (Kd.R_base ho0) hb); have HO230 := Aside0.mk (Kd.R_lower ho0 (keep_size (w := w) (g := g) (row := none) (by repeat (first | (with_reducible first | exact HK.out | apply KeepBut.set_ | apply keep_drewN | apply keep_drew | apply keep_alloc) | exact HK.out)))); replace HI0 := Aside0.mk (IsS81.below (by repeat (first | (with_reducible first | exact HI0.out | apply IsS81.alloc | apply IsS81.drewN | apply IsS81.drew | apply IsS81.set_0 | apply IsS81.set_1) | exact HI0.out)) hb); replace HK := Aside0.mk (KeepBut.trans (by repeat (first | (with_reducible first | exact HK.out | apply KeepBut.set_ | apply keep_drewN | apply keep_drew | apply keep_alloc) | exact HK.out)) (KeepBut.of_below hb g none) (.inl rfl)); replace HB := mSt HB hb; (try clear hb); (try clear ho0)))
       go_ret
       exact ⟨_, rfl, by exact HO230.out, by repeat (first | (with_reducible first | exact HI0.out | apply IsS81.alloc | apply IsS81.drewN | apply IsS81.drew | apply IsS81.set_0 | apply IsS81.set_1) | exact HI0.out), by repeat (first | (with_reducible first | exact HB.out | apply below_alloc | apply pw_below_drewN | apply below_drew1 | refine below_set ?_ (IsS81.ge HI0.out)) | exact HB.out), by repeat (first | (with_reducible first | exact HK.out | apply KeepBut.set_ | apply keep_drewN | apply keep_drew | apply keep_alloc) | exact HK.out)⟩
end Go.Proofs.YtimikhbnihedkaaDoor.PAll
