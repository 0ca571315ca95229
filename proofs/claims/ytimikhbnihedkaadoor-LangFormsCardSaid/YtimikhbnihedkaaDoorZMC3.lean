/- Texts of the proof, laid end to end. -/
import Derived.Test.YtimikhbnihedkaaDoorZMC0
import Derived.Test.YtimikhbnihedkaaDoorZMC2
import Derived.Test.YtimikhbnihedkaaDoorZPAllf54
import Derived.Test.YtimikhbnihedkaaDoorZMC1
import Derived.KernelRfl
namespace Go.Proofs.YtimikhbnihedkaaDoor.PAll
open Go.RowKit Go.Proofs.YtimikhbnihedkaaDoorW.PrintWords Go.Proofs.YtimikhbnihedkaaDoorW.PrintLast Go.Proofs.YtimikhbnihedkaaDoorW.PrintMore
attribute [local go_sem] max2_int min2_int max_two min_two max_three min_three max_four min_four
set_option linter.unusedVariables false
set_option linter.unusedSimpArgs false
mutual
def lang_leaves.l0 : Nat → List (S63) → List (List (S43)) → Int → Int → Int → ByteArray → Int → Int → Option ((List (S63)) × Bool)
 | 0, _, _, _, _, _, _, _, _ => none
 | k + 1, x5, x23, x24, x25, x274000, x274001, x274002, x274003 => if x25 < x24 then (if 0 ≤ x25 then (if x25 < (x23.length : Int) then ((lang_leaves.f k (rd_L3 x23 x25)).bind fun bt281 => (if bt281.2 = true then (if x5.length + bt281.1.length < 3518437208883 then (lang_leaves.l0 k (x5 ++ bt281.1) x23 x24 (wrap64 (x25 + 1)) x274000 x274001 x274002 x274003) else (none)) else (some (([] : List (S63)), false)))) else (none)) else (none)) else (if x274000 = 4 then ((lang_leaf.f k x5).bind fun t288 => (lang_leaves.j1 k t288 x274000 x274001 x274002 x274003)) else (lang_leaves.j1 k x5 x274000 x274001 x274002 x274003))
def lang_leaves.j1 : Nat → List (S63) → Int → ByteArray → Int → Int → Option ((List (S63)) × Bool)
 | 0, _, _, _, _, _ => none
 | k + 1, x5, x274000, x274001, x274002, x274003 => if x274000 = 7 then (if (wrap64 ((x5.length : Int) * x274002)) > 64 then (some (([] : List (S63)), false)) else (if ([] : List (S63)).length + x5.length < 3518437208883 then (lang_leaves.l1 k x5 (([] : List (S63)) ++ x5) (wrap64 (x274002 - 1)) 0 x274000 x274001 x274002 x274003) else (none))) else (lang_leaves.j3 k x5 x274000 x274001 x274002 x274003)
def lang_leaves.j3 : Nat → List (S63) → Int → ByteArray → Int → Int → Option ((List (S63)) × Bool)
 | 0, _, _, _, _, _ => none
 | k + 1, x5, x274000, x274001, x274002, x274003 => lang_leaves.l2 k x5 (x5.length : Int) 0 x274000 x274001 x274002 x274003
def lang_leaves.l2 : Nat → List (S63) → Int → Int → Int → ByteArray → Int → Int → Option ((List (S63)) × Bool)
 | 0, _, _, _, _, _, _, _ => none
 | k + 1, x5, x65, x66, x274000, x274001, x274002, x274003 => if x66 < x65 then (if 0 ≤ x66 then (if x66 < (x5.length : Int) then ((lang_leaf_under.f ((rd_T63 x5 x66).f0) ((rd_T63 x5 x66).f1) ((rd_T63 x5 x66).f2) ((rd_T63 x5 x66).f3) ((rd_T63 x5 x66).f4) x274000 x274001 x274002 x274003).bind fun bt296 => (if bt296.2.2.2.2 > 8192 then (some (([] : List (S63)), false)) else (lang_leaves.l2 k (x5.set (x66 : Int).toNat (⟨bt296.1, bt296.2.1, bt296.2.2.1, bt296.2.2.2.1, bt296.2.2.2.2⟩ : S63)) x65 (wrap64 (x66 + 1)) x274000 x274001 x274002 x274003))) else (none)) else (none)) else (some (x5, decide ((x5.length : Int) ≤ 64)))
def lang_leaves.l1 : Nat → List (S63) → List (S63) → Int → Int → Int → ByteArray → Int → Int → Option ((List (S63)) × Bool)
 | 0, _, _, _, _, _, _, _, _ => none
 | k + 1, x5, x10, x57, x58, x274000, x274001, x274002, x274003 => if x58 < x57 then (if x5.length + x10.length < 3518437208883 then (lang_leaves.l1 k (x5 ++ x10) x10 x57 (wrap64 (x58 + 1)) x274000 x274001 x274002 x274003) else (none)) else (lang_leaves.j3 k x5 x274000 x274001 x274002 x274003)
def lang_leaves.f : Nat → List (S43) → Option ((List (S63)) × Bool)
 | 0, _ => none
 | k + 1, l0 => if 0 < (l0.length : Int) then (if ((rd_T43 l0 0).f0) = 1 then (some ((([(⟨(rd_T43 l0 0).f1, 0, false, false, 1⟩ : S63)] : List (S63))), true)) else ((lang_arguments.f k l0).bind fun t277 => (lang_leaves.l0 k ([] : List (S63)) t277 (t277.length : Int) 0 ((rd_T43 l0 0).f0) ((rd_T43 l0 0).f1) ((rd_T43 l0 0).f2) ((rd_T43 l0 0).f3)))) else (none)
end
def lang_leaves.T26 : Bool × List (List Nat × List Nat) := (true, [([], []), ([], []), ([], []), ([], []), ([2, 3], [2, 3]), ([4], [4]), ([], []), ([5, 6], [5, 6]), ([0, 1, 0, 1, 2, 3, 4, 5, 6, 7], [0, 1]), ([8, 7, 7, 0, 1, 2, 3, 4, 5, 6, 7], [7, 8])])
def lang_leaves.B26 : List Nat := [0, 0, 0, 0, 12, 28, 0, 124, 255, 511]
theorem lang_leaves.tab26 : rtab .any (opsOf Tryd.f40 26) = lang_leaves.T26 := by kernel_rfl
theorem lang_leaves.bits26 : waitsOk lang_leaves.T26.2 lang_leaves.B26 = true := by kernel_rfl
set_option maxHeartbeats 8000000 in
set_option maxRecDepth 100000 in
theorem lang_leaves.calls (k : Nat) : ∀ (A0 : Option Addr) (c0 : Nat) (l0 : List (S43)) (r1 : List (S63)) (r2 : Bool) (w : World) (hr0 : Kd.C k43 w A0 l0.length l0) (hc0 : l0.length ≤ c0) (h : lang_leaves.f k l0 = some (r1, r2)),
  Calls Tryd.prog 40 #[.slice A0 l0.length c0] w fun e w' => ∃ v0_ : Value, e = .returned (.tuple #[v0_, .bool r2]) ∧ Kd.R k63 63 w' w.heap.size (fun _ => True) v0_ r1 ∧ Below w.heap.size w w' := by
 induction k using Nat.strongRecOn with
 | _ k ih =>
 intro A0 c0 l0 r1 r2 w hr0 hc0 h
 cases k with
 | zero => exact absurd h (by simp [lang_leaves.f])
 | succ k =>
 simp only [lang_leaves.f] at h
 have hu43 := Tryd.underlying43
 have hu63 := Tryd.underlying63
 have HR0 := Aside0.mk hr0
 have HC0 := Aside0.mk hc0
 clear hr0 hc0
 have HB := Aside0.mk (Below.refl w.heap.size w)
 have H := h
 unfold lang_leaves.f at H
 clear h
 obtain ⟨c2, H⟩ : (0 < (l0.length : Int)) ∧ _ := mIf H
 have c2b0 := decide_eq_true c2
 have c2b1 : decide (0 < l0.length) = true := decide_eq_true (by omega)
 clear c2
 by_cases c3 : ((rd_T43 l0 0).f0) = 1
 ·
  rw [if_pos c3] at H
  have c3b0 := beq_iff_eq.mpr c3
  have c3b1 := bne_eq_false_iff_eq.mpr c3
  clear c3
  obtain ⟨y274, hy274⟩ : ∃ y_ : List (S63), y_ = (([(⟨(rd_T43 l0 0).f1, 0, false, false, 1⟩ : S63)] : List (S63))) := ⟨_, rfl⟩
  rw [← hy274] at H
  have Ny274 := Aside0.mk hy274
  clear hy274
  simp only [Option.some.injEq, Prod.mk.injEq] at H
  obtain ⟨rfl, rfl⟩ := H
  have p272 : 0 ≤ (0 : Int) := (by omega)
  have q272 : 0 < (l0.length : Int) := of_decide_eq_true (by assumption)
  obtain ⟨ad272, e272, hx272_0, hx272_1, hx272_2, hx272_3⟩ := at_T43 HR0.out 0 p272 q272
  cases e272
  have qi272 : (0 < l0.length) = True := eq_true (by omega)
  (try rw [show ((0 : Int)).toNat = 0 from rfl] at hx272_0)
  (try rw [show 0 * 4 = 0 from rfl] at hx272_0)
  (try rw [Addr.add_zero'] at hx272_0)
  (try rw [show ((0 : Int)).toNat = 0 from rfl] at hx272_1)
  (try rw [show 0 * 4 = 0 from rfl] at hx272_1)
  (try rw [Addr.add_zero'] at hx272_1)
  (try rw [show ((0 : Int)).toNat = 0 from rfl] at hx272_2)
  (try rw [show 0 * 4 = 0 from rfl] at hx272_2)
  (try rw [Addr.add_zero'] at hx272_2)
  (try rw [show ((0 : Int)).toNat = 0 from rfl] at hx272_3)
  (try rw [show 0 * 4 = 0 from rfl] at hx272_3)
  (try rw [Addr.add_zero'] at hx272_3)
  replace p272 := eq_true p272
  replace q272 := eq_true q272
  go_enter Tryd.func40, Tryd.ntmps40
  go_wp2_with (first | ((with_reducible refine gate_dst (N := 4) rfl ?_); refine box_event rfl (N := 4) rfl (cs := #[.int .i64 0, .string (⟨#[]⟩ : ByteArray), .int .i64 0, .int .i64 0]) (t := 43) (by first | (go_simp; done) | (go_simp; rfl)) ?_; intro gb2 hg w4 hbox hb; have BK2 := Aside0.mk hbox; have GW2 := Aside0.mk ((by rw [hg]; exact (below_size (hO HB)) : w.heap.size ≤ gb2)); have GE2 := GW2; replace HB := mSx HB hb; clear hb hbox hg; have hcz5 := blk_cell BK2.out; have hfz5 := blk_frozen BK2.out) | ((with_reducible refine gate_dst (N := 21) rfl ?_); refine Kd.R_lit k63 _ 63 ?hg (N := 21) ?hd (xs := ([(⟨(rd_T43 l0 0).f1, 0, false, false, 1⟩ : S63)] : List (S63))) (inner := [.string ((rd_T43 l0 0).f1), .int .i64 0, .bool false, .bool false, .int .i64 1]) (ok := fun _ => True) (okp := fun _ => True) ?hr ?hp (fun _ hk => hk) trivial (Below.refl _ _) (Nat.le_refl _) (by simp) ?_; (case hd => rfl); (case hg => rfl); (case hr => first | (go_simp; done) | (go_simp; rfl)); (case hp => exact (Reps.c5 (k63_mkM _ _ _ _) (Reps.none _ _))); intro v275 w6 ho7 hb hg_ hnew_; clear hg_ hnew_; (first | rw [← Ny274.out] at ho7 | (simp only [Int.reduceToNat] at ho7; rw [← Ny274.out] at ho7)); have HO276 := Aside0.mk (Kd.R_lower ho7 (below_size (hO HB))); replace BK2 := Aside0.mk (blk_below (g := gb2) (o := .cells #[.int .i64 ((rd_T43 l0 0).f0), .string ((rd_T43 l0 0).f1), .int .i64 ((rd_T43 l0 0).f2), .int .i64 ((rd_T43 l0 0).f3)] 43 (0, 0)) (by refine blk_put (cs := #[.int .i64 ((rd_T43 l0 0).f0), .string ((rd_T43 l0 0).f1), .int .i64 ((rd_T43 l0 0).f2), .int .i64 0]) ?_ 3 _ rfl; refine blk_put (cs := #[.int .i64 ((rd_T43 l0 0).f0), .string ((rd_T43 l0 0).f1), .int .i64 0, .int .i64 0]) ?_ 2 _ rfl; refine blk_put (cs := #[.int .i64 ((rd_T43 l0 0).f0), .string (⟨#[]⟩ : ByteArray), .int .i64 0, .int .i64 0]) ?_ 1 _ rfl; refine blk_put (cs := #[.int .i64 0, .string (⟨#[]⟩ : ByteArray), .int .i64 0, .int .i64 0]) ?_ 0 _ rfl; exact BK2.out) hb); replace HB := mSx HB hb; clear hb ho7))
  go_ret2
  exact ⟨_, rfl, by exact HO276.out, hO HB⟩
 rw [if_neg c3] at H
 have c3b0 := beq_eq_false_iff_ne.mpr c3
 have c3b1 := bne_iff_ne.mpr c3
 replace H := Option.bind_eq_some_iff.mp H
 obtain ⟨t277, A80, H⟩ := H
 try dsimp only at H
 have A8 := Aside0.mk A80
 clear A80
 have H' := Aside0.mk H
 clear H
 have p272 : 0 ≤ (0 : Int) := (by omega)
 have q272 : 0 < (l0.length : Int) := of_decide_eq_true (by assumption)
 obtain ⟨ad272, e272, hx272_0, hx272_1, hx272_2, hx272_3⟩ := at_T43 HR0.out 0 p272 q272
 cases e272
 have qi272 : (0 < l0.length) = True := eq_true (by omega)
 (try rw [show ((0 : Int)).toNat = 0 from rfl] at hx272_0)
 (try rw [show 0 * 4 = 0 from rfl] at hx272_0)
 (try rw [Addr.add_zero'] at hx272_0)
 (try rw [show ((0 : Int)).toNat = 0 from rfl] at hx272_1)
 (try rw [show 0 * 4 = 0 from rfl] at hx272_1)
 (try rw [Addr.add_zero'] at hx272_1)
 (try rw [show ((0 : Int)).toNat = 0 from rfl] at hx272_2)
 (try rw [show 0 * 4 = 0 from rfl] at hx272_2)
 (try rw [Addr.add_zero'] at hx272_2)
 (try rw [show ((0 : Int)).toNat = 0 from rfl] at hx272_3)
 (try rw [show 0 * 4 = 0 from rfl] at hx272_3)
 (try rw [Addr.add_zero'] at hx272_3)
 replace p272 := eq_true p272
 replace q272 := eq_true q272
 go_enter Tryd.func40, Tryd.ntmps40
 go_wp2_with (first | ((with_reducible refine gate_dst (N := 4) rfl ?_); refine box_event rfl (N := 4) rfl (cs := #[.int .i64 0, .string (⟨#[]⟩ : ByteArray), .int .i64 0, .int .i64 0]) (t := 43) (by first | (go_simp; done) | (go_simp; rfl)) ?_; intro gb2 hg w9 hbox hb; have BK2 := Aside0.mk hbox; have GW2 := Aside0.mk ((by rw [hg]; exact (below_size (hO HB)) : w.heap.size ≤ gb2)); have GE2 := GW2; replace HB := mSx HB hb; clear hb hbox hg; have hcz10 := blk_cell BK2.out; have hfz10 := blk_frozen BK2.out) | ((with_reducible refine gate_store (t := 43) (p := 4) rfl ?_); refine store_event (t := 43) (p := 4) (v := ?vo_w11) (w1 := ((((w9.setCell ⟨gb2, 0, none⟩ (.int .i64 ((rd_T43 l0 0).f0))).setCell ⟨gb2, 1, none⟩ (.string ((rd_T43 l0 0).f1))).setCell ⟨gb2, 2, none⟩ (.int .i64 ((rd_T43 l0 0).f2))).setCell ⟨gb2, 3, none⟩ (.int .i64 ((rd_T43 l0 0).f3)))) ?hg ?ho ?hn ?hr ?_; (case ho => rfl); (case hg => rfl); (case hn => rfl); (case hr => first | (go_simp; done) | (go_simp; rfl)); intro w11 hw; have n0_ : Aside0 (w11.heap[gb2]? = some (.cells #[.int .i64 ((rd_T43 l0 0).f0), .string ((rd_T43 l0 0).f1), .int .i64 ((rd_T43 l0 0).f2), .int .i64 ((rd_T43 l0 0).f3)] 43 (0, 0))) := ⟨(by rw [hw]; exact (by refine blk_put (cs := #[.int .i64 ((rd_T43 l0 0).f0), .string ((rd_T43 l0 0).f1), .int .i64 ((rd_T43 l0 0).f2), .int .i64 0]) ?_ 3 _ rfl; refine blk_put (cs := #[.int .i64 ((rd_T43 l0 0).f0), .string ((rd_T43 l0 0).f1), .int .i64 0, .int .i64 0]) ?_ 2 _ rfl; refine blk_put (cs := #[.int .i64 ((rd_T43 l0 0).f0), .string (⟨#[]⟩ : ByteArray), .int .i64 0, .int .i64 0]) ?_ 1 _ rfl; refine blk_put (cs := #[.int .i64 0, .string (⟨#[]⟩ : ByteArray), .int .i64 0, .int .i64 0]) ?_ 0 _ rfl; exact BK2.out))⟩; have n1_ : Aside0 (Below w.heap.size w w11) := ⟨(by rw [hw]; exact (hO HB))⟩; clear hw BK2 HB; have BK2 := n0_; have HB := n1_; clear n0_ n1_; have hcz12 := blk_cell BK2.out; have hfz12 := blk_frozen BK2.out) | ((with_reducible refine gate_callee (f := 49) rfl ?_); refine goesL_ (some 23) rfl rfl Tryd.func49 (by kernel_rfl) rfl #[.slice (some ad272) l0.length c0] rfl (mA1 rfl) ?_; (with_reducible refine (lang_arguments.calls k (fun k_ => k_ < w.heap.size) _ _ l0 t277 _ (Kd.V_mk HC0.out (Kd.F_below (Kd.C_F k43_heap HR0.out) (hO HB))) A8.out).mono ?_); rintro e w13 ⟨v278, rfl, ho0, hb⟩; refine ⟨_, rfl, ?_⟩; have HO279 := Aside0.mk (Kd.N_lower (Kd.N_mono (ok' := fun k_ => k_ ≠ gb2) ho0 (fun k_ hk_ => Or.elim hk_ (fun hs_ => fun e_ => Nat.not_le.2 hs_ (by rw [e_]; exact GW2.out)) (fun hn_ => (Kd.freshB (g := gb2) (o := .cells #[.int .i64 ((rd_T43 l0 0).f0), .string ((rd_T43 l0 0).f1), .int .i64 ((rd_T43 l0 0).f2), .int .i64 ((rd_T43 l0 0).f3)] 43 (0, 0)) BK2.out k_ hn_)))) (below_size (hO HB))); replace BK2 := mBb BK2 hb; replace HB := mSx HB hb; (try clear hb); (try clear ho0); obtain ⟨Ao14, co14, eo14⟩ := Kd.N_slice HO279.out; subst eo14))
 go_loopg [5, 25] k (fun kq v5 v25 w' => ∃ (x5_1 : List (S63)) (x25_1 : Int), v25 = .int .i64 x25_1 ∧ Aside0 (lang_leaves.l0 kq x5_1 t277 (t277.length : Int) x25_1 ((rd_T43 l0 0).f0) ((rd_T43 l0 0).f1) ((rd_T43 l0 0).f2) ((rd_T43 l0 0).f3) = some (r1, r2)) ∧ Aside0 (kq ≤ k) ∧ Aside0 (Kd.R k63 63 w' w.heap.size (fun _ => True) v5 x5_1) ∧ Aside0 (Kd.N (Kd.slice 43 k43) 22 w' w.heap.size (fun k_ => some k_ ≠ (v5 : Value).ownBlock ∧ k_ ≠ gb2) (.slice Ao14 t277.length co14) t277) ∧ Aside0 (w'.heap[gb2]? = some (.cells #[.int .i64 ((rd_T43 l0 0).f0), .string ((rd_T43 l0 0).f1), .int .i64 ((rd_T43 l0 0).f2), .int .i64 ((rd_T43 l0 0).f3)] 43 (0, 0))) ∧ Aside0 (Below w.heap.size w w'))
 case atStart => exact ⟨(([] : List (S63))), (0), rfl, H', ⟨Nat.le_refl _⟩, ⟨by first | exact Kd.R_nil _ _ _ _ _ | exact Kd.N_nil _ _ _ _ _ | exact Kd.V_nil _ _ _ _ _ | exact Kd.Q_nil _ _ _ _ _ | exact Kd.S_nil _ _ _ _ _⟩, ⟨Kd.N_mono HO279.out (fun _ hk => ⟨(by simp [Value.ownBlock]), hk⟩)⟩, ⟨BK2.out⟩, ⟨HB.out⟩⟩
 case round =>
  clear H' c2b0 c2b1 c3 c3b0 c3b1 hx272_0 hx272_1 hx272_2 hx272_3 p272 q272
  obtain ⟨x5_1, x25_1, rfl, HA, HK1, HO_5, HO_23, BK2, HB⟩ := hrel
  cases gk with
  | zero => exact absurd HA.out (by simp [lang_leaves.l0])
  | succ k1 =>
   have H := HA.out
   clear HA
   simp only [lang_leaves.l0] at H
   by_cases c15 : x25_1 < (t277.length : Int)
   ·
    rw [if_pos c15] at H
    have c15b0 := decide_eq_true c15
    clear c15
    obtain ⟨c16, H⟩ : (0 ≤ x25_1) ∧ _ := mIf H
    have c16b0 := decide_eq_true c16
    clear c16
    obtain ⟨c17, H⟩ : (x25_1 < (t277.length : Int)) ∧ _ := mIf H
    have c17b0 := decide_eq_true c17
    clear c17
    replace H := Option.bind_eq_some_iff.mp H
    obtain ⟨⟨t281, t282⟩, A180, H⟩ := H
    try dsimp only at H
    have A18 := Aside0.mk A180
    clear A180
    by_cases c19 : t282 = true
    rotate_left
    ·
     replace c19 := Bool.eq_false_iff.mpr c19
     subst c19
     rw [if_neg (show ¬ (false = true) by decide)] at H
     simp only [Option.some.injEq, Prod.mk.injEq] at H
     obtain ⟨rfl, rfl⟩ := H
     have p280 : 0 ≤ (x25_1 : Int) := of_decide_eq_true (by assumption)
     have q280 : x25_1 < (t277.length : Int) := of_decide_eq_true (by assumption)
     obtain ⟨ad280, A280_0, c280_0, e280, hx280_0, hl280_0, hi280_0⟩ := at_L3 (Kd.N_reads' HO_23.out).2.2 x25_1 p280 q280
     cases e280
     obtain ⟨ce280, hce280, hMe280, hcc280⟩ := Kd.N_get HO_23.out [] x25_1 p280 (by first | exact q280 | exact of_decide_eq_true (by assumption) | (have e_ := (Kd.N_reads' HO_23.out).1; omega))
     obtain ⟨ua280_0, uc280_0, rfl, ul280_0, ge280_0⟩ := Kd.FK_slice_open hMe280
     have hv280_0 := hcc280 0 _ rfl
     rw [Nat.add_zero, show ((Kd.slice 43 k43)).sz = 1 from rfl, Nat.mul_one] at hv280_0
     replace hv280_0 := Option.some.inj (hv280_0.symm.trans hx280_0)
     injection hv280_0 with hva_ hvn_ hvc_
     rw [hva_] at ge280_0
     rw [hvc_] at ul280_0
     have HL280_0 := Aside0.mk (show Kd.V k43 43 _ w.heap.size _ _ (rd_L3 t277 x25_1) from Kd.V_mk ul280_0 ge280_0)
     clear hva_ hvn_ hvc_ ge280_0 ul280_0 hcc280 hce280
     have HR280_0 := Aside0.mk hi280_0
     have HC280_0 := Aside0.mk hl280_0
     clear hi280_0 hl280_0
     replace p280 := eq_true p280
     replace q280 := eq_true q280
     go_wp2_with (first | ((with_reducible refine gate_callee (f := 40) rfl ?_); refine goesL_ (some 31) rfl rfl Tryd.func40 (by kernel_rfl) rfl #[.slice A280_0 (rd_L3 t277 x25_1).length c280_0] rfl (mA1 rfl) ?_; (with_reducible refine (ih k1 (by have := HK1.out; omega) _ _ (rd_L3 t277 x25_1) t281 false _ ?side1 ?side2 A18.out).mono ?_); (case side1 => repeat (first | exact (by repeat (first | (with_reducible exact HR280_0.out) | (with_reducible refine Kd.C_alloc ?_ _) | (with_reducible refine Kd.C_drewN ?_ _) | (with_reducible refine Kd.C_drew ?_) | exact HR280_0.out)) | (with_reducible refine Kd.C_alloc ?_ _) | (with_reducible refine Kd.C_drewN ?_ _) | (with_reducible refine Kd.C_drew ?_))); (case side2 => exact HC280_0.out); rintro e w24 ⟨v283, rfl, ho0, hb⟩; refine ⟨_, rfl, ?_⟩; replace HO_23 := Aside0.mk (Kd.N_elder' HO_23.out (Kd.R_base ho0) hb); replace HL280_0 := Aside0.mk (Kd.V_elder' HL280_0.out (Kd.R_base ho0) hb); have HO284 := Aside0.mk (Kd.R_lower (Kd.R_new' ho0 (Kd.R_lt HO_5.out)) (below_size HB.out)); replace HO_5 := Aside0.mk (Kd.R_elder' HO_5.out (Kd.R_base ho0) hb); replace BK2 := mBb BK2 hb; replace HR280_0 := Aside0.mk (Kd.C_below (by repeat (first | (with_reducible exact HR280_0.out) | (with_reducible refine Kd.C_alloc ?_ _) | (with_reducible refine Kd.C_drewN ?_ _) | (with_reducible refine Kd.C_drew ?_) | exact HR280_0.out)) hb); replace HB := mSt HB hb; (try clear hb); (try clear ho0)))
     go_ret2
     exact ⟨_, rfl, by first | exact Kd.R_nil _ _ _ _ _ | exact Kd.N_nil _ _ _ _ _ | exact Kd.V_nil _ _ _ _ _ | exact Kd.Q_nil _ _ _ _ _ | exact Kd.S_nil _ _ _ _ _, HB.out⟩
    subst c19
    rw [if_pos rfl] at H
    obtain ⟨c20, H⟩ : (x5_1.length + t281.length < 3518437208883) ∧ _ := mIf H
    have LMc20 := Aside0.mk c20
    clear c20
    obtain ⟨y285, hy285⟩ : ∃ y_ : List (S63), y_ = (x5_1 ++ t281) := ⟨_, rfl⟩
    rw [← hy285] at H
    have Ny285 := Aside0.mk hy285
    clear hy285
    have H' := Aside0.mk H
    clear H
    have p280 : 0 ≤ (x25_1 : Int) := of_decide_eq_true (by assumption)
    have q280 : x25_1 < (t277.length : Int) := of_decide_eq_true (by assumption)
    obtain ⟨ad280, A280_0, c280_0, e280, hx280_0, hl280_0, hi280_0⟩ := at_L3 (Kd.N_reads' HO_23.out).2.2 x25_1 p280 q280
    cases e280
    obtain ⟨ce280, hce280, hMe280, hcc280⟩ := Kd.N_get HO_23.out [] x25_1 p280 (by first | exact q280 | exact of_decide_eq_true (by assumption) | (have e_ := (Kd.N_reads' HO_23.out).1; omega))
    obtain ⟨ua280_0, uc280_0, rfl, ul280_0, ge280_0⟩ := Kd.FK_slice_open hMe280
    have hv280_0 := hcc280 0 _ rfl
    rw [Nat.add_zero, show ((Kd.slice 43 k43)).sz = 1 from rfl, Nat.mul_one] at hv280_0
    replace hv280_0 := Option.some.inj (hv280_0.symm.trans hx280_0)
    injection hv280_0 with hva_ hvn_ hvc_
    rw [hva_] at ge280_0
    rw [hvc_] at ul280_0
    have HL280_0 := Aside0.mk (show Kd.V k43 43 _ w.heap.size _ _ (rd_L3 t277 x25_1) from Kd.V_mk ul280_0 ge280_0)
    clear hva_ hvn_ hvc_ ge280_0 ul280_0 hcc280 hce280
    have HR280_0 := Aside0.mk hi280_0
    have HC280_0 := Aside0.mk hl280_0
    clear hi280_0 hl280_0
    replace p280 := eq_true p280
    replace q280 := eq_true q280
    go_wp2_with (first | ((with_reducible refine gate_callee (f := 40) rfl ?_); refine goesL_ (some 31) rfl rfl Tryd.func40 (by kernel_rfl) rfl #[.slice A280_0 (rd_L3 t277 x25_1).length c280_0] rfl (mA1 rfl) ?_; (with_reducible refine (ih k1 (by have := HK1.out; omega) _ _ (rd_L3 t277 x25_1) t281 true _ ?side1 ?side2 A18.out).mono ?_); (case side1 => repeat (first | exact (by repeat (first | (with_reducible exact HR280_0.out) | (with_reducible refine Kd.C_alloc ?_ _) | (with_reducible refine Kd.C_drewN ?_ _) | (with_reducible refine Kd.C_drew ?_) | exact HR280_0.out)) | (with_reducible refine Kd.C_alloc ?_ _) | (with_reducible refine Kd.C_drewN ?_ _) | (with_reducible refine Kd.C_drew ?_))); (case side2 => exact HC280_0.out); rintro e w21 ⟨v283, rfl, ho0, hb⟩; refine ⟨_, rfl, ?_⟩; replace HO_23 := Aside0.mk (Kd.N_elder' HO_23.out (Kd.R_base ho0) hb); replace HL280_0 := Aside0.mk (Kd.V_elder' HL280_0.out (Kd.R_base ho0) hb); have HO284 := Aside0.mk (Kd.R_lower (Kd.R_new' ho0 (Kd.R_lt HO_5.out)) (below_size HB.out)); replace HO_5 := Aside0.mk (Kd.R_elder' HO_5.out (Kd.R_base ho0) hb); replace BK2 := mBb BK2 hb; replace HR280_0 := Aside0.mk (Kd.C_below (by repeat (first | (with_reducible exact HR280_0.out) | (with_reducible refine Kd.C_alloc ?_ _) | (with_reducible refine Kd.C_drewN ?_ _) | (with_reducible refine Kd.C_drew ?_) | exact HR280_0.out)) hb); replace HB := mSt HB hb; (try clear hb); (try clear ho0); obtain ⟨Ao23, co23, eo23⟩ := Kd.R_slice HO284.out; subst eo23) | ((with_reducible refine gate_builtin (b := .append) (xs := #[.tmp 36, .tmp 37]) rfl ?_); at_builtin; refine Kd.R_append_rows k63 (w0 := w) w.heap.size rfl (.tmp 36) (.tmp 37) 58 63 (.agg #[(.string ⟨#[]⟩), (.int .i64 0), (.bool false), (.bool false), (.int .i64 0)]) 40 rfl Tryd.underlying58 info63 rfl (by decide) (by omega) u5 x5_1 t281 _ _ _ (fun k_ => some k_ ≠ (.slice Ao23 t281.length co23 : Value).ownBlock) (fun _ => False) rfl rfl ?aO ?aR (fun _ _ h => h) (fun _ h => h.elim) ?aF ?aB ?aS ?aL ?_; (case aR => repeat (first | exact (Kd.R_reads' HO284.out).2.2 | (with_reducible refine Kd.C_alloc ?_ _) | (with_reducible refine Kd.C_drewN ?_ _) | (with_reducible refine Kd.C_drew ?_))); (case aB => exact HB.out); (case aF => exact (fun k_ hk => Kd.fresh' (Kd.R_lt HO284.out) k_ hk)); (case aO => exact (by exact Kd.R_mono HO_5.out (fun _ hk => hk.2))); (case aS => exact (below_size HB.out)); (case aL => have := LMc20.out; omega); intro v286 w22 ho hb hg hat; rw [← Ny285.out] at ho; replace HO_23 := Aside0.mk (Kd.N_afterv (ok := (fun k_ => some k_ ≠ (.slice Ao23 t281.length co23 : Value).ownBlock ∧ k_ ≠ gb2)) (by (with_reducible repeat (first | apply Kd.N_alloc | apply Kd.N_drewN | apply Kd.N_drew)); exact Kd.N_mono HO_23.out (fun _ hk => ⟨⟨hk.2, hk.1.2⟩, hk.1.1⟩)) hg hat); replace BK2 := Aside0.mk (blk_grown (g := gb2) (o := .cells #[.int .i64 ((rd_T43 l0 0).f0), .string ((rd_T43 l0 0).f1), .int .i64 ((rd_T43 l0 0).f2), .int .i64 ((rd_T43 l0 0).f3)] 43 (0, 0)) BK2.out hg (Kd.R_ne HO_5.out BK2.out (by decide))); replace HL280_0 := Aside0.mk (Kd.V_afterv (ok := (fun k_ => some k_ ≠ (.slice (some ad280) t277.length co14 : Value).ownBlock ∧ some k_ ≠ (.slice Ao23 t281.length co23 : Value).ownBlock ∧ k_ ≠ gb2)) (by (with_reducible repeat (first | apply Kd.V_alloc | apply Kd.V_drewN | apply Kd.V_drew)); exact Kd.V_mono HL280_0.out (fun _ hk => ⟨⟨hk.1.2, ⟨hk.2, hk.1.1.2⟩⟩, hk.1.1.1⟩)) hg hat); replace HO284 := Aside0.mk (Kd.R_after (ok := (fun _ => True)) HO284.out hg hat); replace HB := Aside0.mk hb; have HO287 := Aside0.mk ho; clear HO_5; clear ho hb hg hat))
    go_roundg k1
    case measure => have := HK1.out; omega
    case rel => exact ⟨(y285), (wrap64 (x25_1 + 1)), rfl, H', ⟨by have := HK1.out; omega⟩, ⟨Kd.R_mono HO287.out (fun _ hk => trivial)⟩, ⟨Kd.N_mono HO_23.out (fun _ hk => ⟨hk.2, hk.1.2⟩)⟩, ⟨BK2.out⟩, ⟨HB.out⟩⟩
   rw [if_neg c15] at H
   have c15b0 := decide_eq_false c15
   clear c15
   have HC25 := Aside0.mk H
   clear H
   have hcz26 := blk_cell BK2.out; have hfz26 := blk_frozen BK2.out
   go_upto_if 42 with (fail)
   go_cut [] (fun wc => ∃ (kq : Nat) (x5_24 : List (S63)), Aside0 (lang_leaves.j1 kq x5_24 ((rd_T43 l0 0).f0) ((rd_T43 l0 0).f1) ((rd_T43 l0 0).f2) ((rd_T43 l0 0).f3) = some (r1, r2)) ∧ Aside0 (kq ≤ k1) ∧ Aside0 (Kd.R k63 63 wc w.heap.size (fun _ => True) u5 x5_24) ∧ Aside0 (wc.heap[gb2]? = some (.cells #[.int .i64 ((rd_T43 l0 0).f0), .string ((rd_T43 l0 0).f1), .int .i64 ((rd_T43 l0 0).f2), .int .i64 ((rd_T43 l0 0).f3)] 43 (0, 0))) ∧ Aside0 (Below w.heap.size w wc))
   case first =>
    have H := HC25.out
    clear HC25
    by_cases c27 : ((rd_T43 l0 0).f0) = 4
    rotate_left
    ·
     rw [if_neg c27] at H
     have c27b0 := beq_eq_false_iff_ne.mpr c27
     have c27b1 := bne_iff_ne.mpr c27
     (first | rw [c27b0] | (simp only [i64_w, i32_w]; rw [c27b0]) | skip)
     have H' := Aside0.mk H
     clear H
     go_wp2
     go_meet
     case rel => exact ⟨_, (x5_1), H', ⟨by have := HK1.out; first | omega | exact Nat.le_refl _⟩, HO_5, ⟨BK2.out⟩, ⟨HB.out⟩⟩
    rw [if_pos c27] at H
    have c27b0 := beq_iff_eq.mpr c27
    have c27b1 := bne_eq_false_iff_eq.mpr c27
    clear c27
    (first | rw [c27b0] | (simp only [i64_w, i32_w]; rw [c27b0]) | skip)
    replace H := Option.bind_eq_some_iff.mp H
    obtain ⟨t288, A280, H⟩ := H
    try dsimp only at H
    have A28 := Aside0.mk A280
    clear A280
    have H' := Aside0.mk H
    clear H
    obtain ⟨Ao29, co29, eo29⟩ := Kd.R_slice HO_5.out
    subst eo29
    go_wp2_with (first | ((with_reducible refine gate_callee (f := 69) rfl ?_); refine goesL_ (some 44) rfl rfl Tryd.func69 (by kernel_rfl) rfl #[.slice Ao29 x5_1.length co29] rfl (mA1 rfl) ?_; (with_reducible refine (lang_leaf.calls k1 (fun k_ => some k_ = (.slice Ao29 x5_1.length co29 : Value).ownBlock) (.slice Ao29 x5_1.length co29) x5_1 t288 w _ ?side1 ?side2 A28.out).mono ?_); (case side1 => repeat (first | (with_reducible first | exact HB.out | apply below_alloc | apply pw_below_drewN | apply below_drew1 | refine below_set ?_ GE2.out) | exact HB.out)); (case side2 => exact Kd.R_tight rfl HO_5.out); rintro e w30 ⟨rfl, hy0, hb, hkp⟩; refine ⟨_, rfl, ?_⟩; replace HO_23 := Aside0.mk (Kd.N_mono (ok' := fun k_ => some k_ ≠ (.slice Ao29 x5_1.length co29 : Value).ownBlock ∧ k_ ≠ gb2) (Kd.N_keptB (HO_23.out) hkp (fun k_ hk_ hs_ => (hk_.1) hs_)) (fun k_ hk_ => ⟨hk_.1.1, hk_.1.2⟩)); replace BK2 := Aside0.mk (blk_kept BK2.out hkp (fun hs_ => (fun e_ => (Kd.R_ne HO_5.out BK2.out (by decide)) e_) hs_)); replace HO_5 := Aside0.mk (Kd.R_reok rfl hy0 (fun k_ e_ => HO_5.out.1 k_ e_)); replace HB := Aside0.mk hb; (try clear hb); (try clear hkp); (try clear hy0)))
    go_meet
    case rel => exact ⟨_, (t288), H', ⟨by have := HK1.out; first | omega | exact Nat.le_refl _⟩, HO_5, ⟨BK2.out⟩, ⟨HB.out⟩⟩
   case rest =>
    clear HC25; try clear c1; try clear c2; try clear c2b0; try clear c2b1; try clear p2; try clear q2; try clear hx2; try clear qi2; try clear c3; try clear c3b0; try clear c3b1; try clear c4; try clear c5; try clear c6; try clear p6; try clear c15; try clear c15b0; try clear c16; try clear c16b0; try clear c17; try clear c17b0; try clear c19; try clear c20; try clear c27; try clear c27b0; try clear c27b1; try clear p27; try clear q27; try clear hx27; try clear qi27; try clear c28; try clear p28; try clear q28; try clear hx28; try clear hcz10_0; try clear hcz10_1; try clear hcz10_2; try clear hcz10_3; try clear hcz12_0; try clear hcz12_1; try clear hcz12_2; try clear hcz12_3; try clear hcz26_0; try clear hcz26_1; try clear hcz26_2; try clear hcz26_3; try clear hcz5_0; try clear hcz5_1; try clear hcz5_2; try clear hcz5_3; try clear hfz10_0; try clear hfz10_1; try clear hfz10_2; try clear hfz10_3; try clear hfz12_0; try clear hfz12_1; try clear hfz12_2; try clear hfz12_3; try clear hfz26_0; try clear hfz26_1; try clear hfz26_2; try clear hfz26_3; try clear hfz5_0; try clear hfz5_1; try clear hfz5_2; try clear hfz5_3; try clear hx272_0; try clear hx272_1; try clear hx272_2; try clear hx272_3; try clear hx280_0; try clear p272; try clear p280; try clear q272; try clear q280
    obtain ⟨kq, x5_24, HA, HJ24, HO_5, BK2, HB⟩ := hcut
    cases kq with
    | zero => exact absurd HA.out (by simp [lang_leaves.j1])
    | succ kj24 =>
     have H := HA.out
     clear HA
     simp only [lang_leaves.j1] at H
     have HC31 := Aside0.mk H
     clear H
     have hcz32 := blk_cell BK2.out; have hfz32 := blk_frozen BK2.out
     go_upto_if 47 with (fail)
     go_cut [5] (fun v5 wc => ∃ (kq : Nat) (x5_30 : List (S63)), Aside0 (lang_leaves.j3 kq x5_30 ((rd_T43 l0 0).f0) ((rd_T43 l0 0).f1) ((rd_T43 l0 0).f2) ((rd_T43 l0 0).f3) = some (r1, r2)) ∧ Aside0 (kq ≤ kj24) ∧ Aside0 (Kd.R k63 63 wc w.heap.size (fun _ => True) v5 x5_30) ∧ Aside0 (wc.heap[gb2]? = some (.cells #[.int .i64 ((rd_T43 l0 0).f0), .string ((rd_T43 l0 0).f1), .int .i64 ((rd_T43 l0 0).f2), .int .i64 ((rd_T43 l0 0).f3)] 43 (0, 0))) ∧ Aside0 (Below w.heap.size w wc))
     case first =>
      have H := HC31.out
      clear HC31
      by_cases c33 : ((rd_T43 l0 0).f0) = 7
      rotate_left
      ·
       rw [if_neg c33] at H
       have c33b0 := beq_eq_false_iff_ne.mpr c33
       have c33b1 := bne_iff_ne.mpr c33
       (first | rw [c33b0] | (simp only [i64_w, i32_w]; rw [c33b0]) | skip)
       have H' := Aside0.mk H
       clear H
       go_wp2
       go_meet
       case rel => exact ⟨_, (x5_24), H', ⟨by have := HK1.out; have := HJ24.out; first | omega | exact Nat.le_refl _⟩, HO_5, ⟨BK2.out⟩, ⟨HB.out⟩⟩
      rw [if_pos c33] at H
      have c33b0 := beq_iff_eq.mpr c33
      have c33b1 := bne_eq_false_iff_eq.mpr c33
      clear c33
      (first | rw [c33b0] | (simp only [i64_w, i32_w]; rw [c33b0]) | skip)
      by_cases c34 : (wrap64 ((x5_24.length : Int) * ((rd_T43 l0 0).f2))) > 64
      ·
       rw [if_pos c34] at H
       have c34b0 := decide_eq_true c34
       clear c34
       simp only [Option.some.injEq, Prod.mk.injEq] at H
       obtain ⟨rfl, rfl⟩ := H
       obtain ⟨Ao35, co35, eo35⟩ := Kd.R_slice HO_5.out
       subst eo35
       have hcz36 := blk_cell BK2.out; have hfz36 := blk_frozen BK2.out
       go_wp2
       go_ret2
       exact ⟨_, rfl, by first | exact Kd.R_nil _ _ _ _ _ | exact Kd.N_nil _ _ _ _ _ | exact Kd.V_nil _ _ _ _ _ | exact Kd.Q_nil _ _ _ _ _ | exact Kd.S_nil _ _ _ _ _, HB.out⟩
      rw [if_neg c34] at H
      have c34b0 := decide_eq_false c34
      clear c34
      obtain ⟨c37, H⟩ : (([] : List (S63)).length + x5_24.length < 3518437208883) ∧ _ := mIf H
      have LMc37 := Aside0.mk c37
      clear c37
      obtain ⟨y289, hy289⟩ : ∃ y_ : List (S63), y_ = (([] : List (S63)) ++ x5_24) := ⟨_, rfl⟩
      rw [← hy289] at H
      have Ny289 := Aside0.mk hy289
      clear hy289
      have H' := Aside0.mk H
      clear H
      obtain ⟨Ao38, co38, eo38⟩ := Kd.R_slice HO_5.out
      subst eo38
      have hcz39 := blk_cell BK2.out; have hfz39 := blk_frozen BK2.out
      have HE_ := Aside0.mk (show y289 = x5_24 from by rw [Ny289.out, List.nil_append])
      have HA_ : Aside0 (Kd.Al k63 wc (.slice Ao38 x5_24.length co38) Ao38 y289 x5_24) := ⟨by rw [HE_.out]; exact Kd.Al_start HO_5.out⟩
      go_wp2
      go_loopg [5, 58] kj24 (fun kq v5 v58 w' => ∃ (x5_3 : List (S63)) (x58_3 : Int), v58 = .int .i64 x58_3 ∧ Aside0 (lang_leaves.l1 kq x5_3 y289 (wrap64 (((rd_T43 l0 0).f2) - 1)) x58_3 ((rd_T43 l0 0).f0) ((rd_T43 l0 0).f1) ((rd_T43 l0 0).f2) ((rd_T43 l0 0).f3) = some (r1, r2)) ∧ Aside0 (kq ≤ kj24) ∧ Aside0 (Kd.R k63 63 w' w.heap.size (fun _ => True) v5 x5_3) ∧ Aside0 (Kd.Al k63 w' v5 Ao38 y289 x5_3) ∧ Aside0 (w'.heap[gb2]? = some (.cells #[.int .i64 ((rd_T43 l0 0).f0), .string ((rd_T43 l0 0).f1), .int .i64 ((rd_T43 l0 0).f2), .int .i64 ((rd_T43 l0 0).f3)] 43 (0, 0))) ∧ Aside0 (Below w.heap.size w w'))
      case atStart => exact ⟨(x5_24), (0), rfl, H', ⟨Nat.le_refl _⟩, ⟨Kd.R_mono HO_5.out (fun _ _ => trivial)⟩, ⟨HA_.out⟩, ⟨BK2.out⟩, ⟨HB.out⟩⟩
      case round =>
       clear H' c33b0 c33b1 c34b0
       obtain ⟨x5_3, x58_3, rfl, HA, HK3, HO_5, HO_10, BK2, HB⟩ := hrel
       cases gk with
       | zero => exact absurd HA.out (by simp [lang_leaves.l1])
       | succ k3 =>
        have H := HA.out
        clear HA
        simp only [lang_leaves.l1] at H
        by_cases c42 : x58_3 < (wrap64 (((rd_T43 l0 0).f2) - 1))
        rotate_left
        ·
         rw [if_neg c42] at H
         have c42b0 := decide_eq_false c42
         clear c42
         have H' := Aside0.mk H
         clear H
         go_wp2
         go_meet
         case rel => exact ⟨_, (x5_3), H', ⟨by have := HK1.out; have := HJ24.out; have := HK3.out; first | omega | exact Nat.le_refl _⟩, ⟨Kd.R_mono HO_5.out (fun _ hk => trivial)⟩, ⟨BK2.out⟩, ⟨HB.out⟩⟩
        rw [if_pos c42] at H
        have c42b0 := decide_eq_true c42
        clear c42
        obtain ⟨c43, H⟩ : (x5_3.length + y289.length < 3518437208883) ∧ _ := mIf H
        have LMc43 := Aside0.mk c43
        clear c43
        obtain ⟨y292, hy292⟩ : ∃ y_ : List (S63), y_ = (x5_3 ++ y289) := ⟨_, rfl⟩
        rw [← hy292] at H
        have Ny292 := Aside0.mk hy292
        clear hy292
        have H' := Aside0.mk H
        clear H
        go_wp2_with (first | ((with_reducible refine gate_builtin (b := .append) (xs := #[.tmp 60, .tmp 61]) rfl ?_); at_builtin; refine Kd.R_append_rows2 k63 (w0 := w) w.heap.size rfl (.tmp 60) (.tmp 61) 58 63 (.agg #[(.string ⟨#[]⟩), (.int .i64 0), (.bool false), (.bool false), (.int .i64 0)]) 40 rfl Tryd.underlying58 info63 rfl (by decide) (by omega) u5 x5_3 y289 _ _ _ (fun _ => True) (fun _ => False) rfl rfl ?aO ?aR (fun _ _ h => h) (fun _ h => h.elim) ?aF ?aB ?aS ?aL ?_; (case aR => have h_ := HO_10.out.1; rw [show y289.length = x5_24.length from by rw [HE_.out]] at h_; exact h_); (case aB => exact HB.out); (case aF => exact (fun _ _ => trivial)); (case aO => exact HO_5.out); (case aS => exact (below_size HB.out)); (case aL => have := LMc43.out; have h_ := congrArg List.length HE_.out; omega); intro v293 w44 ho hb hg hat hkp; have nA_ := Kd.Al_step HO_5.out HO_10.out ho hg hat hkp (fun x_ cs_ h_ => by rw [k63_open h_]; exact k63_mk _ x_); rw [← Ny292.out] at ho nA_; have n0_ := Aside0.mk nA_; clear nA_ hkp; have n1_ := Aside0.mk (blk_grown (g := gb2) (o := .cells #[.int .i64 ((rd_T43 l0 0).f0), .string ((rd_T43 l0 0).f1), .int .i64 ((rd_T43 l0 0).f2), .int .i64 ((rd_T43 l0 0).f3)] 43 (0, 0)) BK2.out hg (Kd.R_ne HO_5.out BK2.out (by decide))); have n2_ := Aside0.mk hb; have n3_ := Aside0.mk ho; clear HO_10 BK2 HB HO_5; have HO_10 := n0_; have BK2 := n1_; have HB := n2_; have HO294 := n3_; clear n0_ n1_ n2_ n3_; clear ho hb hg hat))
        go_roundg k3
        case measure => have := HK1.out; have := HJ24.out; have := HK3.out; omega
        case rel => exact ⟨(y292), (wrap64 (x58_3 + 1)), rfl, H', ⟨by have := HK1.out; have := HJ24.out; have := HK3.out; omega⟩, HO294, ⟨HO_10.out⟩, ⟨BK2.out⟩, ⟨HB.out⟩⟩
     case rest =>
      clear HC31; try clear c1; try clear c2; try clear c2b0; try clear c2b1; try clear p2; try clear q2; try clear hx2; try clear qi2; try clear c3; try clear c3b0; try clear c3b1; try clear c4; try clear c5; try clear c6; try clear p6; try clear c15; try clear c15b0; try clear c16; try clear c16b0; try clear c17; try clear c17b0; try clear c19; try clear c20; try clear c27; try clear c27b0; try clear c27b1; try clear p27; try clear q27; try clear hx27; try clear qi27; try clear c28; try clear p28; try clear q28; try clear hx28; try clear c33; try clear c33b0; try clear c33b1; try clear c34; try clear c34b0; try clear c37; try clear c40; try clear c42; try clear c42b0; try clear c43; try clear hcz10_0; try clear hcz10_1; try clear hcz10_2; try clear hcz10_3; try clear hcz12_0; try clear hcz12_1; try clear hcz12_2; try clear hcz12_3; try clear hcz26_0; try clear hcz26_1; try clear hcz26_2; try clear hcz26_3; try clear hcz32_0; try clear hcz32_1; try clear hcz32_2; try clear hcz32_3; try clear hcz36_0; try clear hcz36_1; try clear hcz36_2; try clear hcz36_3; try clear hcz39_0; try clear hcz39_1; try clear hcz39_2; try clear hcz39_3; try clear hcz41_0; try clear hcz41_1; try clear hcz41_2; try clear hcz41_3; try clear hcz5_0; try clear hcz5_1; try clear hcz5_2; try clear hcz5_3; try clear hfz10_0; try clear hfz10_1; try clear hfz10_2; try clear hfz10_3; try clear hfz12_0; try clear hfz12_1; try clear hfz12_2; try clear hfz12_3; try clear hfz26_0; try clear hfz26_1; try clear hfz26_2; try clear hfz26_3; try clear hfz32_0; try clear hfz32_1; try clear hfz32_2; try clear hfz32_3; try clear hfz36_0; try clear hfz36_1; try clear hfz36_2; try clear hfz36_3; try clear hfz39_0; try clear hfz39_1; try clear hfz39_2; try clear hfz39_3; try clear hfz41_0; try clear hfz41_1; try clear hfz41_2; try clear hfz41_3; try clear hfz5_0; try clear hfz5_1; try clear hfz5_2; try clear hfz5_3; try clear hx272_0; try clear hx272_1; try clear hx272_2; try clear hx272_3; try clear hx280_0; try clear p272; try clear p280; try clear q272; try clear q280
      obtain ⟨kq, x5_30, HA, HJ30, HO_5, BK2, HB⟩ := hcut
      cases kq with
      | zero => exact absurd HA.out (by simp [lang_leaves.j3])
      | succ kj30 =>
       have H := HA.out
       clear HA
       simp only [lang_leaves.j3] at H
       have H' := Aside0.mk H
       clear H
       obtain ⟨Ao46, co46, eo46⟩ := Kd.R_slice HO_5.out
       subst eo46
       go_wp2
       go_loopg [66] kj30 (fun kq v66 w' => ∃ (x5_4 : List (S63)) (x66_4 : Int), v66 = .int .i64 x66_4 ∧ Aside0 (lang_leaves.l2 kq x5_4 (x5_30.length : Int) x66_4 ((rd_T43 l0 0).f0) ((rd_T43 l0 0).f1) ((rd_T43 l0 0).f2) ((rd_T43 l0 0).f3) = some (r1, r2)) ∧ Aside0 (kq ≤ kj30) ∧ Aside0 (Kd.R k63 63 w' w.heap.size (fun _ => True) (.slice Ao46 x5_30.length co46) x5_4) ∧ Aside0 (w'.heap[gb2]? = some (.cells #[.int .i64 ((rd_T43 l0 0).f0), .string ((rd_T43 l0 0).f1), .int .i64 ((rd_T43 l0 0).f2), .int .i64 ((rd_T43 l0 0).f3)] 43 (0, 0))) ∧ Aside0 (Below w.heap.size w w'))
       case atStart => exact ⟨(x5_30), (0), rfl, H', ⟨Nat.le_refl _⟩, HO_5, ⟨BK2.out⟩, ⟨HB.out⟩⟩
       case round =>
        clear H'
        obtain ⟨x5_4, x66_4, rfl, HA, HK4, HO_5, BK2, HB⟩ := hrel
        have hl5_4 := (Kd.R_reads' HO_5.out).1
        rw [hl5_4] at HO_5
        (try simp only [hl5_4])
        (try simp only [hl5_4] at BK2)
        cases gk with
        | zero => exact absurd HA.out (by simp [lang_leaves.l2])
        | succ k4 =>
         have H := HA.out
         clear HA
         simp only [lang_leaves.l2] at H
         by_cases c47 : x66_4 < (x5_30.length : Int)
         rotate_left
         ·
          rw [if_neg c47] at H
          have c47b0 := decide_eq_false c47
          (try simp only [hl5_4] at c47b0)
          clear c47
          simp only [Option.some.injEq, Prod.mk.injEq] at H
          obtain ⟨rfl, rfl⟩ := H
          go_wp2
          go_ret2
          exact ⟨_, rfl, by exact HO_5.out, HB.out⟩
         rw [if_pos c47] at H
         have c47b0 := decide_eq_true c47
         (try simp only [hl5_4] at c47b0)
         clear c47
         obtain ⟨c48, H⟩ : (0 ≤ x66_4) ∧ _ := mIf H
         have c48b0 := decide_eq_true c48
         clear c48
         obtain ⟨c49, H⟩ : (x66_4 < (x5_4.length : Int)) ∧ _ := mIf H
         have c49b0 := decide_eq_true c49
         (try simp only [hl5_4] at c49b0)
         clear c49
         replace H := Option.bind_eq_some_iff.mp H
         obtain ⟨⟨t296, t297, t298, t299, t300⟩, A500, H⟩ := H
         try dsimp only at H
         have A50 := Aside0.mk A500
         clear A500
         obtain ⟨y301, hy301⟩ : ∃ y_ : List (S63), y_ = (x5_4.set (x66_4 : Int).toNat (⟨t296, t297, t298, t299, t300⟩ : S63)) := ⟨_, rfl⟩
         rw [← hy301] at H
         have Ny301 := Aside0.mk hy301
         clear hy301
         by_cases c53 : t300 > 8192
         ·
          rw [if_pos c53] at H
          have c53b0 := decide_eq_true c53
          clear c53
          simp only [Option.some.injEq, Prod.mk.injEq] at H
          obtain ⟨rfl, rfl⟩ := H
          try go_wp2
          replace HO_5 := Aside0.mk (Kd.R_drew HO_5.out); replace BK2 := Aside0.mk (blk_drew BK2.out); replace HB := Aside0.mk (below_drew1 HB.out)
          have p295 : 0 ≤ (x66_4 : Int) := of_decide_eq_true (by assumption)
          have q295 : x66_4 < (x5_4.length : Int) := of_decide_eq_true (by assumption)
          obtain ⟨ad295, e295, hx295_0, hx295_1, hx295_2, hx295_3, hx295_4⟩ := at_T63 (Kd.R_reads' HO_5.out).2.2 x66_4 p295 q295
          cases e295
          replace p295 := eq_true p295
          replace q295 := eq_true q295
          refine start_ (n := 10) (S := fun w' => w'.cell? ⟨gb2, 0, none⟩ = some (.int .i64 ((rd_T43 l0 0).f0)) ∧ w'.cell? ⟨gb2, 1, none⟩ = some (.string ((rd_T43 l0 0).f1)) ∧ w'.cell? ⟨gb2, 2, none⟩ = some (.int .i64 ((rd_T43 l0 0).f2)) ∧ w'.cell? ⟨gb2, 3, none⟩ = some (.int .i64 ((rd_T43 l0 0).f3)) ∧ w'.cell? (ad295.add ((x66_4).toNat * 5)) = some (.string ((rd_T63 x5_4 x66_4).f0)) ∧ w'.cell? ⟨(ad295.add ((x66_4).toNat * 5)).block, (ad295.add ((x66_4).toNat * 5)).off + 1, none⟩ = some (.int .i64 ((rd_T63 x5_4 x66_4).f1)) ∧ w'.cell? ⟨(ad295.add ((x66_4).toNat * 5)).block, (ad295.add ((x66_4).toNat * 5)).off + 2, none⟩ = some (.bool ((rd_T63 x5_4 x66_4).f2)) ∧ w'.cell? ⟨(ad295.add ((x66_4).toNat * 5)).block, (ad295.add ((x66_4).toNat * 5)).off + 3, none⟩ = some (.bool ((rd_T63 x5_4 x66_4).f3)) ∧ w'.cell? ⟨(ad295.add ((x66_4).toNat * 5)).block, (ad295.add ((x66_4).toNat * 5)).off + 4, none⟩ = some (.int .i64 ((rd_T63 x5_4 x66_4).f4))) (ds := [9]) #[false, false, false, false, false, false, false, false, false, false] (by kernel_rfl) rfl rfl ⟨(blk_cell BK2.out 0).trans rfl, (blk_cell BK2.out 1).trans rfl, (blk_cell BK2.out 2).trans rfl, (blk_cell BK2.out 3).trans rfl, hx295_0, hx295_1, hx295_2, hx295_3, hx295_4⟩ (fun hHeld => ?_); refine with_tabW lang_leaves.tab26 lang_leaves.bits26 (fun HT_ HW_ => ?_)
          generalize wr.drew = w54 at HO_5 BK2 HB hx295_0 hx295_1 hx295_2 hx295_3 hx295_4 hHeld ⊢
          refine pM 0 69 HT_ ?_
          refine pM 1 70 HT_ ?_
          refine pM 2 71 HT_ ?_
          refine pM 3 72 HT_ ?_
          refine pM 4 73 HT_ ?_
          refine tM 5 74 rfl HT_ HW_ (by rintro w' ⟨s0, s1, s2, s3, s4, s5, s6, s7, s8⟩; go_simp; with_reducible rfl) hHeld ?_
          refine tM 6 75 rfl HT_ HW_ (by rintro w' ⟨s0, s1, s2, s3, s4, s5, s6, s7, s8⟩; go_simp; with_reducible rfl) hHeld ?_
          refine one_ (i := 7) (N := some 76) #[true, true, true, true, true, true, true, true, false, false] rfl rfl (one_of HT_.out (by kernel_rfl)) (by decide) (fun K hK => ?_)
          refine goes_ Tryd.func70 (by kernel_rfl) rfl #[.agg #[.string ((rd_T63 x5_4 x66_4).f0), .int .i64 ((rd_T63 x5_4 x66_4).f1), .bool ((rd_T63 x5_4 x66_4).f2), .bool ((rd_T63 x5_4 x66_4).f3), .int .i64 ((rd_T63 x5_4 x66_4).f4)], .agg #[.int .i64 ((rd_T43 l0 0).f0), .string ((rd_T43 l0 0).f1), .int .i64 ((rd_T43 l0 0).f2), .int .i64 ((rd_T43 l0 0).f3)]] (by rfl) rfl rfl (by (try simp only [List.map_toArray, List.map_cons, List.map_nil]); first | done | rfl | (simp only [List.length_drop, List.length_take]; rfl)) ?_
          with_reducible refine (lang_leaf_under.calls ((rd_T63 x5_4 x66_4).f0) ((rd_T63 x5_4 x66_4).f1) ((rd_T63 x5_4 x66_4).f2) ((rd_T63 x5_4 x66_4).f3) ((rd_T63 x5_4 x66_4).f4) ((rd_T43 l0 0).f0) ((rd_T43 l0 0).f1) ((rd_T43 l0 0).f2) ((rd_T43 l0 0).f3) t296 t297 t298 t299 t300 _ A50.out).mono ?_
          rintro e w55 ⟨rfl, hb⟩
          have HS4_ := (hb.cell (World.block_lt_of_cell? _ _ (hHeld.2.2.2.2.1))).trans (hHeld.2.2.2.2.1)
          have HS5_ := (hb.cell (World.block_lt_of_cell? _ _ (hHeld.2.2.2.2.2.1))).trans (hHeld.2.2.2.2.2.1)
          have HS6_ := (hb.cell (World.block_lt_of_cell? _ _ (hHeld.2.2.2.2.2.2.1))).trans (hHeld.2.2.2.2.2.2.1)
          have HS7_ := (hb.cell (World.block_lt_of_cell? _ _ (hHeld.2.2.2.2.2.2.2.1))).trans (hHeld.2.2.2.2.2.2.2.1)
          have HS8_ := (hb.cell (World.block_lt_of_cell? _ _ (hHeld.2.2.2.2.2.2.2.2))).trans (hHeld.2.2.2.2.2.2.2.2)
          refine ⟨_, rfl, ?_⟩
          replace HO_5 := Aside0.mk (Kd.R_below HO_5.out hb); replace BK2 := mBb BK2 hb; replace HB := mSt HB hb
          (try clear hb)
          (try clear hb2)
          (try clear hk)
          (try clear hi)
          have p51 : 0 ≤ (x66_4 : Int) := of_decide_eq_true (by assumption)
          have q51 : (x66_4 : Int) < ((x5_4.length : Int) : Int) := of_decide_eq_true (by assumption)
          obtain ⟨go51, co51, eo51, gb1, gl51, cl51, HG51⟩ := Kd.R_form HO_5.out (by omega)
          (first | cases eo51 | (injection eo51 with ea_ en_ ec_; (first | subst ea_ | (injection ea_ with ea_; subst ea_)); subst ec_; clear en_))
          have GB51 := Aside0.mk gb1
          have GG51 := Aside0.mk HG51
          clear gb1 gl51 HG51
          (first | simp only [add_plain] at hx295_0 | skip)
          (first | simp only [add_plain] at hx295_1 | skip)
          (first | simp only [add_plain] at hx295_2 | skip)
          (first | simp only [add_plain] at hx295_3 | skip)
          (first | simp only [add_plain] at hx295_4 | skip)
          obtain ⟨ce51, hcl51, hM51, hcc51, hfr51⟩ := Kd.R_elem HO_5.out z63 (x66_4 : Int) p51 q51
          obtain rfl := k63_openM hM51
          have hx51_0 : World.cell? _ ⟨go51, (x66_4 : Int).toNat * 5, none⟩ = some (.string ((rd_T63 x5_4 x66_4).f0)) := hcc51 0 _ rfl
          have hx51_1 : World.cell? _ ⟨go51, (x66_4 : Int).toNat * 5 + 1, none⟩ = some (.int .i64 ((rd_T63 x5_4 x66_4).f1)) := hcc51 1 _ rfl
          have hx51_2 : World.cell? _ ⟨go51, (x66_4 : Int).toNat * 5 + 2, none⟩ = some (.bool ((rd_T63 x5_4 x66_4).f2)) := hcc51 2 _ rfl
          have hx51_3 : World.cell? _ ⟨go51, (x66_4 : Int).toNat * 5 + 3, none⟩ = some (.bool ((rd_T63 x5_4 x66_4).f3)) := hcc51 3 _ rfl
          have hx51_4 : World.cell? _ ⟨go51, (x66_4 : Int).toNat * 5 + 4, none⟩ = some (.int .i64 ((rd_T63 x5_4 x66_4).f4)) := hcc51 4 _ rfl
          have hf51_0 : World.frozen? _ ⟨go51, (x66_4 : Int).toNat * 5, none⟩ = false := hfr51 0
          have hf51_1 : World.frozen? _ ⟨go51, (x66_4 : Int).toNat * 5 + 1, none⟩ = false := hfr51 1
          have hf51_2 : World.frozen? _ ⟨go51, (x66_4 : Int).toNat * 5 + 2, none⟩ = false := hfr51 2
          have hf51_3 : World.frozen? _ ⟨go51, (x66_4 : Int).toNat * 5 + 3, none⟩ = false := hfr51 3
          have hf51_4 : World.frozen? _ ⟨go51, (x66_4 : Int).toNat * 5 + 4, none⟩ = false := hfr51 4
          clear hcl51 hcc51 hfr51 hM51
          replace p51 := eq_true p51
          replace q51 := eq_true q51
          obtain ⟨ce56, hcl56, hM56, hcc56, hfr56⟩ := Kd.R_elem HO_5.out z63 (x66_4 : Int) (of_decide_eq_true (by assumption)) (by have h_ : (x66_4 : Int) < ((x5_4.length : Int) : Int) := of_decide_eq_true (by assumption); first | exact h_ | (have e_ := (Kd.R_reads' HO_5.out).1; omega) | simpa using h_)
          obtain rfl := k63_openM hM56
          have HP56 := (Kd.R_seg HO_5.out (x66_4 : Int) (of_decide_eq_true (by assumption)) (by have h_ : (x66_4 : Int) < ((x5_4.length : Int) : Int) := of_decide_eq_true (by assumption); first | exact h_ | (have e_ := (Kd.R_reads' HO_5.out).1; omega) | simpa using h_) (seg := [.string t296, .int .i64 t297, .bool t298, .bool t299, .int .i64 t300]) (j := 0) hcl56 hcc56 (show 5 ≤ 5 from by decide) (x' := (⟨t296, t297, t298, t299, t300⟩ : S63)) (k63_mkM _ _ _ (⟨t296, t297, t298, t299, t300⟩ : S63) ) (fun _ hk => hk)).1
          rw [← Ny301.out] at HP56
          have HQ56 := Aside0.mk HP56
          clear hcl56 hcc56 hfr56 hM56 HP56
          refine hK.out _ _ ⟨blk_cell BK2.out 0, blk_cell BK2.out 1, blk_cell BK2.out 2, blk_cell BK2.out 3, HS4_, HS5_, HS6_, HS7_, HS8_⟩ (fun hHeld => ?_)
          clear hK K
          refine norm_ (by show Act.put _ (some 76) _ = _; simp only [mP]; rfl) ?_
          refine pM 8 77 HT_ ?_
          refine last_ (i := 9) (N := none) #[true, true, true, true, true, true, true, true, true, true] rfl rfl (one_of HT_.out (by kernel_rfl)) (by decide) (fun K hK => ?_)
          refine skip_ (w1 := ?_) (by rfl) rfl ?_ ?_
          rotate_left
          ·
           go_simp
           rfl
          refine hK.out _ _ ?_
          clear hK K
          refine done_ (done_of HT_.out (by kernel_rfl)) ?_
          have p52 : 0 ≤ (x66_4 : Int) := of_decide_eq_true (by assumption)
          have q52 : (x66_4 : Int) < ((x5_4.length : Int) : Int) := of_decide_eq_true (by assumption)
          replace p52 := eq_true p52
          replace q52 := eq_true q52
          try go_wp2
          go_ret2
          exact ⟨_, rfl, by first | exact Kd.R_nil _ _ _ _ _ | exact Kd.N_nil _ _ _ _ _ | exact Kd.V_nil _ _ _ _ _ | exact Kd.Q_nil _ _ _ _ _ | exact Kd.S_nil _ _ _ _ _, hO HB⟩
         rw [if_neg c53] at H
         have c53b0 := decide_eq_false c53
         clear c53
         have H' := Aside0.mk H
         clear H
         try go_wp2
         replace HO_5 := Aside0.mk (Kd.R_drew HO_5.out); replace BK2 := Aside0.mk (blk_drew BK2.out); replace HB := Aside0.mk (below_drew1 HB.out)
         have p295 : 0 ≤ (x66_4 : Int) := of_decide_eq_true (by assumption)
         have q295 : x66_4 < (x5_4.length : Int) := of_decide_eq_true (by assumption)
         obtain ⟨ad295, e295, hx295_0, hx295_1, hx295_2, hx295_3, hx295_4⟩ := at_T63 (Kd.R_reads' HO_5.out).2.2 x66_4 p295 q295
         cases e295
         replace p295 := eq_true p295
         replace q295 := eq_true q295
         refine start_ (n := 10) (S := fun w' => w'.cell? ⟨gb2, 0, none⟩ = some (.int .i64 ((rd_T43 l0 0).f0)) ∧ w'.cell? ⟨gb2, 1, none⟩ = some (.string ((rd_T43 l0 0).f1)) ∧ w'.cell? ⟨gb2, 2, none⟩ = some (.int .i64 ((rd_T43 l0 0).f2)) ∧ w'.cell? ⟨gb2, 3, none⟩ = some (.int .i64 ((rd_T43 l0 0).f3)) ∧ w'.cell? (ad295.add ((x66_4).toNat * 5)) = some (.string ((rd_T63 x5_4 x66_4).f0)) ∧ w'.cell? ⟨(ad295.add ((x66_4).toNat * 5)).block, (ad295.add ((x66_4).toNat * 5)).off + 1, none⟩ = some (.int .i64 ((rd_T63 x5_4 x66_4).f1)) ∧ w'.cell? ⟨(ad295.add ((x66_4).toNat * 5)).block, (ad295.add ((x66_4).toNat * 5)).off + 2, none⟩ = some (.bool ((rd_T63 x5_4 x66_4).f2)) ∧ w'.cell? ⟨(ad295.add ((x66_4).toNat * 5)).block, (ad295.add ((x66_4).toNat * 5)).off + 3, none⟩ = some (.bool ((rd_T63 x5_4 x66_4).f3)) ∧ w'.cell? ⟨(ad295.add ((x66_4).toNat * 5)).block, (ad295.add ((x66_4).toNat * 5)).off + 4, none⟩ = some (.int .i64 ((rd_T63 x5_4 x66_4).f4))) (ds := [9]) #[false, false, false, false, false, false, false, false, false, false] (by kernel_rfl) rfl rfl ⟨(blk_cell BK2.out 0).trans rfl, (blk_cell BK2.out 1).trans rfl, (blk_cell BK2.out 2).trans rfl, (blk_cell BK2.out 3).trans rfl, hx295_0, hx295_1, hx295_2, hx295_3, hx295_4⟩ (fun hHeld => ?_); refine with_tabW lang_leaves.tab26 lang_leaves.bits26 (fun HT_ HW_ => ?_)
         generalize wr.drew = w57 at HO_5 BK2 HB hx295_0 hx295_1 hx295_2 hx295_3 hx295_4 hHeld ⊢
         refine pM 0 69 HT_ ?_
         refine pM 1 70 HT_ ?_
         refine pM 2 71 HT_ ?_
         refine pM 3 72 HT_ ?_
         refine pM 4 73 HT_ ?_
         refine tM 5 74 rfl HT_ HW_ (by rintro w' ⟨s0, s1, s2, s3, s4, s5, s6, s7, s8⟩; go_simp; with_reducible rfl) hHeld ?_
         refine tM 6 75 rfl HT_ HW_ (by rintro w' ⟨s0, s1, s2, s3, s4, s5, s6, s7, s8⟩; go_simp; with_reducible rfl) hHeld ?_
         refine one_ (i := 7) (N := some 76) #[true, true, true, true, true, true, true, true, false, false] rfl rfl (one_of HT_.out (by kernel_rfl)) (by decide) (fun K hK => ?_)
         refine goes_ Tryd.func70 (by kernel_rfl) rfl #[.agg #[.string ((rd_T63 x5_4 x66_4).f0), .int .i64 ((rd_T63 x5_4 x66_4).f1), .bool ((rd_T63 x5_4 x66_4).f2), .bool ((rd_T63 x5_4 x66_4).f3), .int .i64 ((rd_T63 x5_4 x66_4).f4)], .agg #[.int .i64 ((rd_T43 l0 0).f0), .string ((rd_T43 l0 0).f1), .int .i64 ((rd_T43 l0 0).f2), .int .i64 ((rd_T43 l0 0).f3)]] (by rfl) rfl rfl (by (try simp only [List.map_toArray, List.map_cons, List.map_nil]); first | done | rfl | (simp only [List.length_drop, List.length_take]; rfl)) ?_
         with_reducible refine (lang_leaf_under.calls ((rd_T63 x5_4 x66_4).f0) ((rd_T63 x5_4 x66_4).f1) ((rd_T63 x5_4 x66_4).f2) ((rd_T63 x5_4 x66_4).f3) ((rd_T63 x5_4 x66_4).f4) ((rd_T43 l0 0).f0) ((rd_T43 l0 0).f1) ((rd_T43 l0 0).f2) ((rd_T43 l0 0).f3) t296 t297 t298 t299 t300 _ A50.out).mono ?_
         rintro e w58 ⟨rfl, hb⟩
         have HS4_ := (hb.cell (World.block_lt_of_cell? _ _ (hHeld.2.2.2.2.1))).trans (hHeld.2.2.2.2.1)
         have HS5_ := (hb.cell (World.block_lt_of_cell? _ _ (hHeld.2.2.2.2.2.1))).trans (hHeld.2.2.2.2.2.1)
         have HS6_ := (hb.cell (World.block_lt_of_cell? _ _ (hHeld.2.2.2.2.2.2.1))).trans (hHeld.2.2.2.2.2.2.1)
         have HS7_ := (hb.cell (World.block_lt_of_cell? _ _ (hHeld.2.2.2.2.2.2.2.1))).trans (hHeld.2.2.2.2.2.2.2.1)
         have HS8_ := (hb.cell (World.block_lt_of_cell? _ _ (hHeld.2.2.2.2.2.2.2.2))).trans (hHeld.2.2.2.2.2.2.2.2)
         refine ⟨_, rfl, ?_⟩
         replace HO_5 := Aside0.mk (Kd.R_below HO_5.out hb); replace BK2 := mBb BK2 hb; replace HB := mSt HB hb
         (try clear hb)
         (try clear hb2)
         (try clear hk)
         (try clear hi)
         have p51 : 0 ≤ (x66_4 : Int) := of_decide_eq_true (by assumption)
         have q51 : (x66_4 : Int) < ((x5_4.length : Int) : Int) := of_decide_eq_true (by assumption)
         obtain ⟨go51, co51, eo51, gb1, gl51, cl51, HG51⟩ := Kd.R_form HO_5.out (by omega)
         (first | cases eo51 | (injection eo51 with ea_ en_ ec_; (first | subst ea_ | (injection ea_ with ea_; subst ea_)); subst ec_; clear en_))
         have GB51 := Aside0.mk gb1
         have GG51 := Aside0.mk HG51
         clear gb1 gl51 HG51
         (first | simp only [add_plain] at hx295_0 | skip)
         (first | simp only [add_plain] at hx295_1 | skip)
         (first | simp only [add_plain] at hx295_2 | skip)
         (first | simp only [add_plain] at hx295_3 | skip)
         (first | simp only [add_plain] at hx295_4 | skip)
         obtain ⟨ce51, hcl51, hM51, hcc51, hfr51⟩ := Kd.R_elem HO_5.out z63 (x66_4 : Int) p51 q51
         obtain rfl := k63_openM hM51
         have hx51_0 : World.cell? _ ⟨go51, (x66_4 : Int).toNat * 5, none⟩ = some (.string ((rd_T63 x5_4 x66_4).f0)) := hcc51 0 _ rfl
         have hx51_1 : World.cell? _ ⟨go51, (x66_4 : Int).toNat * 5 + 1, none⟩ = some (.int .i64 ((rd_T63 x5_4 x66_4).f1)) := hcc51 1 _ rfl
         have hx51_2 : World.cell? _ ⟨go51, (x66_4 : Int).toNat * 5 + 2, none⟩ = some (.bool ((rd_T63 x5_4 x66_4).f2)) := hcc51 2 _ rfl
         have hx51_3 : World.cell? _ ⟨go51, (x66_4 : Int).toNat * 5 + 3, none⟩ = some (.bool ((rd_T63 x5_4 x66_4).f3)) := hcc51 3 _ rfl
         have hx51_4 : World.cell? _ ⟨go51, (x66_4 : Int).toNat * 5 + 4, none⟩ = some (.int .i64 ((rd_T63 x5_4 x66_4).f4)) := hcc51 4 _ rfl
         have hf51_0 : World.frozen? _ ⟨go51, (x66_4 : Int).toNat * 5, none⟩ = false := hfr51 0
         have hf51_1 : World.frozen? _ ⟨go51, (x66_4 : Int).toNat * 5 + 1, none⟩ = false := hfr51 1
         have hf51_2 : World.frozen? _ ⟨go51, (x66_4 : Int).toNat * 5 + 2, none⟩ = false := hfr51 2
         have hf51_3 : World.frozen? _ ⟨go51, (x66_4 : Int).toNat * 5 + 3, none⟩ = false := hfr51 3
         have hf51_4 : World.frozen? _ ⟨go51, (x66_4 : Int).toNat * 5 + 4, none⟩ = false := hfr51 4
         clear hcl51 hcc51 hfr51 hM51
         replace p51 := eq_true p51
         replace q51 := eq_true q51
         obtain ⟨ce59, hcl59, hM59, hcc59, hfr59⟩ := Kd.R_elem HO_5.out z63 (x66_4 : Int) (of_decide_eq_true (by assumption)) (by have h_ : (x66_4 : Int) < ((x5_4.length : Int) : Int) := of_decide_eq_true (by assumption); first | exact h_ | (have e_ := (Kd.R_reads' HO_5.out).1; omega) | simpa using h_)
         obtain rfl := k63_openM hM59
         have HP59 := (Kd.R_seg HO_5.out (x66_4 : Int) (of_decide_eq_true (by assumption)) (by have h_ : (x66_4 : Int) < ((x5_4.length : Int) : Int) := of_decide_eq_true (by assumption); first | exact h_ | (have e_ := (Kd.R_reads' HO_5.out).1; omega) | simpa using h_) (seg := [.string t296, .int .i64 t297, .bool t298, .bool t299, .int .i64 t300]) (j := 0) hcl59 hcc59 (show 5 ≤ 5 from by decide) (x' := (⟨t296, t297, t298, t299, t300⟩ : S63)) (k63_mkM _ _ _ (⟨t296, t297, t298, t299, t300⟩ : S63) ) (fun _ hk => hk)).1
         rw [← Ny301.out] at HP59
         have HQ59 := Aside0.mk HP59
         clear hcl59 hcc59 hfr59 hM59 HP59
         refine hK.out _ _ ⟨blk_cell BK2.out 0, blk_cell BK2.out 1, blk_cell BK2.out 2, blk_cell BK2.out 3, HS4_, HS5_, HS6_, HS7_, HS8_⟩ (fun hHeld => ?_)
         clear hK K
         refine norm_ (by show Act.put _ (some 76) _ = _; simp only [mP]; rfl) ?_
         refine pM 8 77 HT_ ?_
         refine last_ (i := 9) (N := none) #[true, true, true, true, true, true, true, true, true, true] rfl rfl (one_of HT_.out (by kernel_rfl)) (by decide) (fun K hK => ?_)
         refine skip_ (w1 := ?_) (by rfl) rfl ?_ ?_
         rotate_left
         ·
          go_simp
          rfl
         refine hK.out _ _ ?_
         clear hK K
         refine done_ (done_of HT_.out (by kernel_rfl)) ?_
         have p52 : 0 ≤ (x66_4 : Int) := of_decide_eq_true (by assumption)
         have q52 : (x66_4 : Int) < ((x5_4.length : Int) : Int) := of_decide_eq_true (by assumption)
         replace p52 := eq_true p52
         replace q52 := eq_true q52
         try go_wp2
         (try simp only [← hl5_4])
         go_roundg k4
         case measure => have := HK1.out; have := HJ24.out; have := HJ30.out; have := HK4.out; omega
         case rel => exact ⟨(y301), (wrap64 (x66_4 + 1)), rfl, H', ⟨by have := HK1.out; have := HJ24.out; have := HJ30.out; have := HK4.out; omega⟩, ⟨by (try simp only [hl5_4]); exact rO HQ59⟩, ⟨by (try simp only [hl5_4]); refine blk_far ?_ (by have h_ := Kd.R_ne HO_5.out BK2.out (by decide); intro e_; exact h_ (by rw [e_]; rfl)) _; refine blk_far ?_ (by have h_ := Kd.R_ne HO_5.out BK2.out (by decide); intro e_; exact h_ (by rw [e_]; rfl)) _; refine blk_far ?_ (by have h_ := Kd.R_ne HO_5.out BK2.out (by decide); intro e_; exact h_ (by rw [e_]; rfl)) _; refine blk_far ?_ (by have h_ := Kd.R_ne HO_5.out BK2.out (by decide); intro e_; exact h_ (by rw [e_]; rfl)) _; refine blk_far ?_ (by have h_ := Kd.R_ne HO_5.out BK2.out (by decide); intro e_; exact h_ (by rw [e_]; rfl)) _; exact BK2.out⟩, ⟨hO HB⟩⟩
mutual
def lang_leaf_written.j0 : Nat → List (S43) → Int → Bool → ByteArray → Int → Bool → Bool → Int → Option ((List (S43)) × Bool)
 | 0, _, _, _, _, _, _, _, _ => none
 | k + 1, x4, x5, x18, x304000, x304001, x304002, x304003, x304004 => if x18 = true then ((lang_tree.f k 6 (⟨#[]⟩ : ByteArray) x5 0 (([x4] : List (List (S43))))).bind fun t310 => (lang_leaf_written.j1 k t310 1 x304000 x304001 x304002 x304003 x304004)) else (lang_leaf_written.j1 k x4 x5 x304000 x304001 x304002 x304003 x304004)
def lang_leaf_written.j1 : Nat → List (S43) → Int → ByteArray → Int → Bool → Bool → Int → Option ((List (S43)) × Bool)
 | 0, _, _, _, _, _, _, _ => none
 | k + 1, x4, x5, x304000, x304001, x304002, x304003, x304004 => lang_leaf_written.l0 k x4 x5 16 x304000 x304001 x304002 x304003 x304004
def lang_leaf_written.l0 : Nat → List (S43) → Int → Int → ByteArray → Int → Bool → Bool → Int → Option ((List (S43)) × Bool)
 | 0, _, _, _, _, _, _, _, _ => none
 | k + 1, x4, x5, x6, x304000, x304001, x304002, x304003, x304004 => if x6 ≥ 2 then (lang_leaf_written.l1 k x4 x5 x6 x304000 x304001 x304002 x304003 x304004) else (if x304003 = true then ((lang_tree.f k 4 (⟨#[]⟩ : ByteArray) 0 0 (([x4] : List (List (S43))))).bind fun t322 => (lang_leaf_written.j4 k t322 x5 x304000 x304001 x304002 x304003 x304004)) else (lang_leaf_written.j4 k x4 x5 x304000 x304001 x304002 x304003 x304004))
def lang_leaf_written.l1 : Nat → List (S43) → Int → Int → ByteArray → Int → Bool → Bool → Int → Option ((List (S43)) × Bool)
 | 0, _, _, _, _, _, _, _, _ => none
 | k + 1, x4, x5, x6, x304000, x304001, x304002, x304003, x304004 => if x6 = 0 then (none) else (if (Int.tmod x5 x6) = 0 then ((lang_tree.f k 6 (⟨#[]⟩ : ByteArray) x6 0 (([x4] : List (List (S43))))).bind fun t316 => (lang_leaf_written.l1 k t316 (wrap64 (Int.tdiv x5 x6)) x6 x304000 x304001 x304002 x304003 x304004)) else (lang_leaf_written.l0 k x4 x5 (wrap64 (x6 - 1)) x304000 x304001 x304002 x304003 x304004))
def lang_leaf_written.j4 : Nat → List (S43) → Int → ByteArray → Int → Bool → Bool → Int → Option ((List (S43)) × Bool)
 | 0, _, _, _, _, _, _, _ => none
 | k + 1, x4, x5, x304000, x304001, x304002, x304003, x304004 => if x304002 = true then ((lang_tree.f k 3 (⟨#[]⟩ : ByteArray) 0 0 (([x4] : List (List (S43))))).bind fun t328 => (if x304001 > 0 then ((lang_tree.f k 5 (⟨#[]⟩ : ByteArray) x304001 0 (([t328] : List (List (S43))))).bind fun t334 => (some (t334, (x5 == 1)))) else (some (t328, (x5 == 1))))) else (if x304001 > 0 then ((lang_tree.f k 5 (⟨#[]⟩ : ByteArray) x304001 0 (([x4] : List (List (S43))))).bind fun t340 => (some (t340, (x5 == 1)))) else (some (x4, (x5 == 1))))
end
def lang_leaf_written.f (k : Nat) (a0_0 : ByteArray) (a0_1 : Int) (a0_2 : Bool) (a0_3 : Bool) (a0_4 : Int) : Option ((List (S43)) × Bool) := (lang_tree.f k 1 a0_0 0 0 ([] : List (List (S43)))).bind fun t304 => (if a0_4 > 1 then (lang_leaf_written.j0 k t304 a0_4 (decide (a0_4 ≤ 16)) a0_0 a0_1 a0_2 a0_3 a0_4) else (lang_leaf_written.j0 k t304 a0_4 false a0_0 a0_1 a0_2 a0_3 a0_4))
def lang_leaf_written.T9 : Bool × List (List Nat × List Nat) := (true, [([], []), ([0], [0]), ([], []), ([2], [2]), ([1, 3], [1, 3]), ([], []), ([], []), ([5, 6], [5, 6]), ([4, 4, 0, 1, 2, 3, 4], [2, 4]), ([7, 8, 0, 1, 2, 3, 4, 5, 6, 7, 8], [5, 7])])
def lang_leaf_written.B9 : List Nat := [0, 1, 0, 4, 15, 0, 0, 96, 31, 511]
theorem lang_leaf_written.tab9 : rtab .any (opsOf Tryd.f41 9) = lang_leaf_written.T9 := by kernel_rfl
theorem lang_leaf_written.bits9 : waitsOk lang_leaf_written.T9.2 lang_leaf_written.B9 = true := by kernel_rfl
set_option maxHeartbeats 8000000 in
set_option maxRecDepth 100000 in
theorem lang_leaf_written.calls (k : Nat) (a0_0 : ByteArray) (a0_1 : Int) (a0_2 : Bool) (a0_3 : Bool) (a0_4 : Int) (r1 : List (S43)) (r2 : Bool) (w : World) (h : lang_leaf_written.f k a0_0 a0_1 a0_2 a0_3 a0_4 = some (r1, r2)) :
  Calls Tryd.prog 41 #[.agg #[.string a0_0, .int .i64 a0_1, .bool a0_2, .bool a0_3, .int .i64 a0_4]] w fun e w' => ∃ v0_ : Value, e = .returned (.tuple #[v0_, .bool r2]) ∧ Kd.R k43 43 w' w.heap.size (fun _ => True) v0_ r1 ∧ Below w.heap.size w w' := by
 have hu63 := Tryd.underlying63
 have hu43 := Tryd.underlying43
 have HB := Aside0.mk (Below.refl w.heap.size w)
 have H := h
 unfold lang_leaf_written.f at H
 clear h
 replace H := Option.bind_eq_some_iff.mp H
 obtain ⟨t304, A20, H⟩ := H
 try dsimp only at H
 have A2 := Aside0.mk A20
 clear A20
 have HC3 := Aside0.mk H
 clear H
 go_enter Tryd.func41, Tryd.ntmps41
 go_upto_region 3 with (first | ((with_reducible refine gate_dst (N := 1) rfl ?_); refine box_event rfl (N := 1) rfl (cs := #[.string a0_0, .int .i64 a0_1, .bool a0_2, .bool a0_3, .int .i64 a0_4]) (t := 63) (by first | (go_simp; done) | (go_simp; rfl)) ?_; intro gb1 hg w4 hbox hb; have BK1 := Aside0.mk hbox; have GW1 := mGw HB hg; have GE1 := GW1; replace HB := mSt HB hb; clear hb hbox hg; have hcz5 := blk_cell BK1.out; have hfz5 := blk_frozen BK1.out) | ((with_reducible refine gate_callee (f := 71) rfl ?_); refine goesL_ (some 10) rfl rfl Tryd.func71 (by kernel_rfl) rfl #[.agg #[.int .i64 1, .string a0_0, .int .i64 0, .int .i64 0], .slice none 0 0] rfl (mA2 rfl rfl) ?_; (refine (lang_tree.calls k 1 a0_0 0 0 _ _ ([] : List (List (S43))) t304 _ ?side1 ?side2 A2.out).mono ?_); (case side1 => exact Kd.C_nil _ _); (case side2 => exact Nat.le_refl _); rintro e w6 ⟨v305, rfl, ho0, hb⟩; refine ⟨_, rfl, ?_⟩; have HO306 := Aside0.mk (Kd.R_lower ho0 (below_size HB.out)); replace BK1 := mBb BK1 hb; replace HB := mSt HB hb; (try clear hb); (try clear ho0); have hcz7 := blk_cell BK1.out; have hfz7 := blk_frozen BK1.out))
 (try simp only [Act.put, List.setIfInBounds_toArray, List.set_cons_zero, List.set_cons_succ])
 go_cut [18] (fun v18 wc => ∃ (kq : Nat) (x18_2 : Bool), v18 = .bool x18_2 ∧ Aside0 (lang_leaf_written.j0 kq t304 a0_4 x18_2 a0_0 a0_1 a0_2 a0_3 a0_4 = some (r1, r2)) ∧ Aside0 (kq ≤ k) ∧ Aside0 (Kd.R k43 43 wc w.heap.size (fun _ => True) v305 t304) ∧ Aside0 (wc.heap[gb1]? = some (.cells #[.string a0_0, .int .i64 a0_1, .bool a0_2, .bool a0_3, .int .i64 a0_4] 63 (0, 0))) ∧ Aside0 (Below w.heap.size w wc))
 case first =>
  have H := HC3.out
  clear HC3
  by_cases c8 : a0_4 > 1
  rotate_left
  ·
   rw [if_neg c8] at H
   have c8b0 := decide_eq_false c8
   clear c8
   (first | rw [c8b0] | (simp only [i64_w, i32_w]; rw [c8b0]) | skip)
   have H' := Aside0.mk H
   clear H
   go_wp2
   go_meet
   case rel => exact ⟨_, (false), rfl, H', ⟨by first | omega | exact Nat.le_refl _⟩, HO306, ⟨BK1.out⟩, ⟨HB.out⟩⟩
  rw [if_pos c8] at H
  have c8b0 := decide_eq_true c8
  clear c8
  (first | rw [c8b0] | (simp only [i64_w, i32_w]; rw [c8b0]) | skip)
  have H' := Aside0.mk H
  clear H
  go_wp2
  go_meet
  case rel => exact ⟨_, (decide (a0_4 ≤ 16)), rfl, H', ⟨by first | omega | exact Nat.le_refl _⟩, HO306, ⟨BK1.out⟩, ⟨HB.out⟩⟩
 case rest =>
  clear HC3; try clear p2; try clear c4; try clear c7; try clear c8; try clear c8b0; try clear hcz5_0; try clear hcz5_1; try clear hcz5_2; try clear hcz5_3; try clear hcz5_4; try clear hcz7_0; try clear hcz7_1; try clear hcz7_2; try clear hcz7_3; try clear hcz7_4; try clear hfz5_0; try clear hfz5_1; try clear hfz5_2; try clear hfz5_3; try clear hfz5_4; try clear hfz7_0; try clear hfz7_1; try clear hfz7_2; try clear hfz7_3; try clear hfz7_4
  obtain ⟨kq, x18_2, rfl, HA, HJ2, HO_4, BK1, HB⟩ := hcut
  cases kq with
  | zero => exact absurd HA.out (by simp [lang_leaf_written.j0])
  | succ kj2 =>
   have H := HA.out
   clear HA
   simp only [lang_leaf_written.j0] at H
   have HC9 := Aside0.mk H
   clear H
   go_upto_if 18 with (fail)
   go_cut [4, 5] (fun v4 v5 wc => ∃ (kq : Nat) (x4_8 : List (S43)) (x5_8 : Int), v5 = .int .i64 x5_8 ∧ Aside0 (lang_leaf_written.j1 kq x4_8 x5_8 a0_0 a0_1 a0_2 a0_3 a0_4 = some (r1, r2)) ∧ Aside0 (kq ≤ kj2) ∧ Aside0 (Kd.R k43 43 wc w.heap.size (fun _ => True) v4 x4_8) ∧ Aside0 (wc.heap[gb1]? = some (.cells #[.string a0_0, .int .i64 a0_1, .bool a0_2, .bool a0_3, .int .i64 a0_4] 63 (0, 0))) ∧ Aside0 (Below w.heap.size w wc))
   case first =>
    have H := HC9.out
    clear HC9
    by_cases c10 : x18_2 = true
    rotate_left
    ·
     replace c10 := Bool.eq_false_iff.mpr c10
     subst c10
     rw [if_neg (show ¬ (false = true) by decide)] at H
     have H' := Aside0.mk H
     clear H
     go_wp2
     go_meet
     case rel => exact ⟨_, (t304), (a0_4), rfl, H', ⟨by have := HJ2.out; first | omega | exact Nat.le_refl _⟩, HO_4, ⟨BK1.out⟩, ⟨HB.out⟩⟩
    subst c10
    rw [if_pos rfl] at H
    obtain ⟨y307, hy307⟩ : ∃ y_ : List (List (S43)), y_ = (([t304] : List (List (S43)))) := ⟨_, rfl⟩
    rw [← hy307] at H
    have Ny307 := Aside0.mk hy307
    clear hy307
    replace H := Option.bind_eq_some_iff.mp H
    obtain ⟨t310, A110, H⟩ := H
    try dsimp only at H
    have A11 := Aside0.mk A110
    clear A110
    have H' := Aside0.mk H
    clear H
    obtain ⟨Ao12, co12, eo12⟩ := Kd.R_slice HO_4.out
    subst eo12
    go_wp2_with (first | ((with_reducible refine gate_dst (N := 22) rfl ?_); refine Kd.N_lit (Kd.slice 43 k43) _ 22 ?hg (N' := 22) ?hd (xs := ([t304] : List (List (S43)))) (inner := [.slice Ao12 t304.length co12]) (ok := (fun k_ => k_ ≠ gb1)) (okp := (fun k_ => k_ ≠ gb1)) ?hr ?hp (fun _ hk => hk) ((show ∀ k_, wc.heap.size ≤ k_ → (fun k_ => k_ ≠ gb1) k_ from fun k_ hk => Kd.freshB (g := gb1) (o := .cells #[.string a0_0, .int .i64 a0_1, .bool a0_2, .bool a0_3, .int .i64 a0_4] 63 (0, 0)) BK1.out k_ hk) _ (Nat.le_refl _)) (Below.refl _ _) (Nat.le_refl _) (by simp) ?_; (case hd => rfl); (case hg => rfl); (case hr => first | (go_simp; done) | (go_simp; rfl)); (case hp => exact (Reps.one (show Kd.FK (Kd.slice 43 k43) _ _ t304 [.slice Ao12 t304.length co12] from (Kd.FK_slice_mk (Kd.R_reads' (Kd.R_mono (ok' := (fun k_ => k_ ≠ gb1)) (Kd.R_types (HO_4.out) BK1.out (by decide)) (fun k_ hk => hk.2))).2.1 (Kd.R_F (Kd.R_mono (ok' := (fun k_ => k_ ≠ gb1)) (Kd.R_types (HO_4.out) BK1.out (by decide)) (fun k_ hk => hk.2))))) (Reps.none _ _))); intro v308 w13 ho14 hb hg_ hnew_; clear hg_ hnew_; (first | rw [← Ny307.out] at ho14 | (simp only [Int.reduceToNat] at ho14; rw [← Ny307.out] at ho14)); have HO309 := Aside0.mk (Kd.N_lower ho14 (below_size HB.out)); replace BK1 := mBb BK1 hb; replace HB := mSt HB hb; clear HO_4; clear hb ho14; obtain ⟨Ao15, co15, eo15⟩ := Kd.N_slice HO309.out; subst eo15) | ((with_reducible refine gate_callee (f := 71) rfl ?_); refine goesL_ (some 23) rfl rfl Tryd.func71 (by kernel_rfl) rfl #[.agg #[.int .i64 6, .string (⟨#[]⟩ : ByteArray), .int .i64 a0_4, .int .i64 0], .slice Ao15 y307.length co15] rfl (mA2 rfl rfl) ?_; (with_reducible refine (lang_tree.calls kj2 6 (⟨#[]⟩ : ByteArray) a0_4 0 _ _ y307 t310 _ ((Kd.N_reads' HO309.out).2.2) ((Kd.N_reads' HO309.out).2.1) A11.out).mono ?_); rintro e w16 ⟨v311, rfl, ho0, hb⟩; refine ⟨_, rfl, ?_⟩; replace HO309 := Aside0.mk (Kd.N_elder' HO309.out (Kd.R_base ho0) hb); have HO312 := Aside0.mk (Kd.R_lower ho0 (below_size HB.out)); replace BK1 := mBb BK1 hb; replace HB := mSt HB hb; (try clear hb); (try clear ho0)))
    go_meet
    case rel => exact ⟨_, (t310), (1), rfl, H', ⟨by have := HJ2.out; first | omega | exact Nat.le_refl _⟩, HO312, ⟨BK1.out⟩, ⟨HB.out⟩⟩
   case rest =>
    clear HC9; try clear c1; try clear p2; try clear c4; try clear c7; try clear c8; try clear c8b0; try clear c10; try clear hcz5_0; try clear hcz5_1; try clear hcz5_2; try clear hcz5_3; try clear hcz5_4; try clear hcz7_0; try clear hcz7_1; try clear hcz7_2; try clear hcz7_3; try clear hcz7_4; try clear hfz5_0; try clear hfz5_1; try clear hfz5_2; try clear hfz5_3; try clear hfz5_4; try clear hfz7_0; try clear hfz7_1; try clear hfz7_2; try clear hfz7_3; try clear hfz7_4
    obtain ⟨kq, x4_8, x5_8, rfl, HA, HJ8, HO_4, BK1, HB⟩ := hcut
    cases kq with
    | zero => exact absurd HA.out (by simp [lang_leaf_written.j1])
    | succ kj8 =>
     have H := HA.out
     clear HA
     simp only [lang_leaf_written.j1] at H
     have H' := Aside0.mk H
     clear H
     go_wp2
     go_loopg [4, 5, 6] kj8 (fun kq v4 v5 v6 w' => ∃ (x4_3 : List (S43)) (x5_3 : Int) (x6_3 : Int), v5 = .int .i64 x5_3 ∧ v6 = .int .i64 x6_3 ∧ Aside0 (lang_leaf_written.l0 kq x4_3 x5_3 x6_3 a0_0 a0_1 a0_2 a0_3 a0_4 = some (r1, r2)) ∧ Aside0 (kq ≤ kj8) ∧ Aside0 (Kd.R k43 43 w' w.heap.size (fun _ => True) v4 x4_3) ∧ Aside0 (w'.heap[gb1]? = some (.cells #[.string a0_0, .int .i64 a0_1, .bool a0_2, .bool a0_3, .int .i64 a0_4] 63 (0, 0))) ∧ Aside0 (Below w.heap.size w w'))
     case atStart => exact ⟨(x4_8), (x5_8), (16), rfl, rfl, H', ⟨Nat.le_refl _⟩, HO_4, ⟨BK1.out⟩, ⟨HB.out⟩⟩
     case round =>
      clear H'
      obtain ⟨x4_3, x5_3, x6_3, rfl, rfl, HA, HK3, HO_4, BK1, HB⟩ := hrel
      cases gk with
      | zero => exact absurd HA.out (by simp [lang_leaf_written.l0])
      | succ k3 =>
       have H := HA.out
       clear HA
       simp only [lang_leaf_written.l0] at H
       by_cases c17 : x6_3 ≥ 2
       rotate_left
       ·
        rw [if_neg c17] at H
        have c17b0 := decide_eq_false c17
        clear c17
        have HC27 := Aside0.mk H
        clear H
        have hcz28 := blk_cell BK1.out; have hfz28 := blk_frozen BK1.out
        go_upto_if 41 with (fail)
        go_cut [4] (fun v4 wc => ∃ (kq : Nat) (x4_26 : List (S43)), Aside0 (lang_leaf_written.j4 kq x4_26 x5_3 a0_0 a0_1 a0_2 a0_3 a0_4 = some (r1, r2)) ∧ Aside0 (kq ≤ k3) ∧ Aside0 (Kd.R k43 43 wc w.heap.size (fun _ => True) v4 x4_26) ∧ Aside0 (wc.heap[gb1]? = some (.cells #[.string a0_0, .int .i64 a0_1, .bool a0_2, .bool a0_3, .int .i64 a0_4] 63 (0, 0))) ∧ Aside0 (Below w.heap.size w wc))
        case first =>
         have H := HC27.out
         clear HC27
         by_cases c29 : a0_3 = true
         rotate_left
         ·
          replace c29 := Bool.eq_false_iff.mpr c29
          subst c29
          rw [if_neg (show ¬ (false = true) by decide)] at H
          have H' := Aside0.mk H
          clear H
          go_wp2
          go_meet
          case rel => exact ⟨_, (x4_3), H', ⟨by have := HJ2.out; have := HJ8.out; have := HK3.out; first | omega | exact Nat.le_refl _⟩, HO_4, ⟨BK1.out⟩, ⟨HB.out⟩⟩
         subst c29
         rw [if_pos rfl] at H
         obtain ⟨y319, hy319⟩ : ∃ y_ : List (List (S43)), y_ = (([x4_3] : List (List (S43)))) := ⟨_, rfl⟩
         rw [← hy319] at H
         have Ny319 := Aside0.mk hy319
         clear hy319
         replace H := Option.bind_eq_some_iff.mp H
         obtain ⟨t322, A300, H⟩ := H
         try dsimp only at H
         have A30 := Aside0.mk A300
         clear A300
         have H' := Aside0.mk H
         clear H
         obtain ⟨Ao31, co31, eo31⟩ := Kd.R_slice HO_4.out
         subst eo31
         go_wp2_with (first | ((with_reducible refine gate_dst (N := 44) rfl ?_); refine Kd.N_lit (Kd.slice 43 k43) _ 22 ?hg (N' := 44) ?hd (xs := ([x4_3] : List (List (S43)))) (inner := [.slice Ao31 x4_3.length co31]) (ok := (fun k_ => k_ ≠ gb1)) (okp := (fun k_ => k_ ≠ gb1)) ?hr ?hp (fun _ hk => hk) ((show ∀ k_, wr.heap.size ≤ k_ → (fun k_ => k_ ≠ gb1) k_ from fun k_ hk => Kd.freshB (g := gb1) (o := .cells #[.string a0_0, .int .i64 a0_1, .bool a0_2, .bool true, .int .i64 a0_4] 63 (0, 0)) BK1.out k_ hk) _ (Nat.le_refl _)) (Below.refl _ _) (Nat.le_refl _) (by simp) ?_; (case hd => rfl); (case hg => rfl); (case hr => first | (go_simp; done) | (go_simp; rfl)); (case hp => exact (Reps.one (show Kd.FK (Kd.slice 43 k43) _ _ x4_3 [.slice Ao31 x4_3.length co31] from (Kd.FK_slice_mk (Kd.R_reads' (Kd.R_mono (ok' := (fun k_ => k_ ≠ gb1)) (Kd.R_types (HO_4.out) BK1.out (by decide)) (fun k_ hk => hk.2))).2.1 (Kd.R_F (Kd.R_mono (ok' := (fun k_ => k_ ≠ gb1)) (Kd.R_types (HO_4.out) BK1.out (by decide)) (fun k_ hk => hk.2))))) (Reps.none _ _))); intro v320 w32 ho33 hb hg_ hnew_; clear hg_ hnew_; (first | rw [← Ny319.out] at ho33 | (simp only [Int.reduceToNat] at ho33; rw [← Ny319.out] at ho33)); have HO321 := Aside0.mk (Kd.N_lower ho33 (below_size HB.out)); replace BK1 := mBb BK1 hb; replace HB := mSt HB hb; clear HO_4; clear hb ho33; obtain ⟨Ao34, co34, eo34⟩ := Kd.N_slice HO321.out; subst eo34) | ((with_reducible refine gate_callee (f := 71) rfl ?_); refine goesL_ (some 45) rfl rfl Tryd.func71 (by kernel_rfl) rfl #[.agg #[.int .i64 4, .string (⟨#[]⟩ : ByteArray), .int .i64 0, .int .i64 0], .slice Ao34 y319.length co34] rfl (mA2 rfl rfl) ?_; (with_reducible refine (lang_tree.calls k3 4 (⟨#[]⟩ : ByteArray) 0 0 _ _ y319 t322 _ ((Kd.N_reads' HO321.out).2.2) ((Kd.N_reads' HO321.out).2.1) A30.out).mono ?_); rintro e w35 ⟨v323, rfl, ho0, hb⟩; refine ⟨_, rfl, ?_⟩; replace HO321 := Aside0.mk (Kd.N_elder' HO321.out (Kd.R_base ho0) hb); have HO324 := Aside0.mk (Kd.R_lower ho0 (below_size HB.out)); replace BK1 := mBb BK1 hb; replace HB := mSt HB hb; (try clear hb); (try clear ho0)))
         go_meet
         case rel => exact ⟨_, (t322), H', ⟨by have := HJ2.out; have := HJ8.out; have := HK3.out; first | omega | exact Nat.le_refl _⟩, HO324, ⟨BK1.out⟩, ⟨HB.out⟩⟩
        case rest =>
         clear HC27; try clear c1; try clear c2; try clear p2; try clear c4; try clear p6; try clear c7; try clear c8; try clear c8b0; try clear c10; try clear c17; try clear c17b0; try clear c18; try clear c18b0; try clear c18b1; try clear c19; try clear c19b0; try clear c19b1; try clear c29; try clear hcz28_0; try clear hcz28_1; try clear hcz28_2; try clear hcz28_3; try clear hcz28_4; try clear hcz5_0; try clear hcz5_1; try clear hcz5_2; try clear hcz5_3; try clear hcz5_4; try clear hcz7_0; try clear hcz7_1; try clear hcz7_2; try clear hcz7_3; try clear hcz7_4; try clear hfz28_0; try clear hfz28_1; try clear hfz28_2; try clear hfz28_3; try clear hfz28_4; try clear hfz5_0; try clear hfz5_1; try clear hfz5_2; try clear hfz5_3; try clear hfz5_4; try clear hfz7_0; try clear hfz7_1; try clear hfz7_2; try clear hfz7_3; try clear hfz7_4
         obtain ⟨kq, x4_26, HA, HJ26, HO_4, BK1, HB⟩ := hcut
         cases kq with
         | zero => exact absurd HA.out (by simp [lang_leaf_written.j4])
         | succ kj26 =>
          have H := HA.out
          clear HA
          simp only [lang_leaf_written.j4] at H
          by_cases c36 : a0_2 = true
          rotate_left
          ·
           replace c36 := Bool.eq_false_iff.mpr c36
           subst c36
           rw [if_neg (show ¬ (false = true) by decide)] at H
           by_cases c59 : a0_1 > 0
           rotate_left
           ·
            rw [if_neg c59] at H
            have c59b0 := decide_eq_false c59
            clear c59
            simp only [Option.some.injEq, Prod.mk.injEq] at H
            obtain ⟨rfl, rfl⟩ := H
            have hcz67 := blk_cell BK1.out; have hfz67 := blk_frozen BK1.out
            go_wp2
            go_ret2
            exact ⟨_, rfl, by exact HO_4.out, HB.out⟩
           rw [if_pos c59] at H
           have c59b0 := decide_eq_true c59
           clear c59
           obtain ⟨y337, hy337⟩ : ∃ y_ : List (List (S43)), y_ = (([x4_26] : List (List (S43)))) := ⟨_, rfl⟩
           rw [← hy337] at H
           have Ny337 := Aside0.mk hy337
           clear hy337
           replace H := Option.bind_eq_some_iff.mp H
           obtain ⟨t340, A600, H⟩ := H
           try dsimp only at H
           have A60 := Aside0.mk A600
           clear A600
           simp only [Option.some.injEq, Prod.mk.injEq] at H
           obtain ⟨rfl, rfl⟩ := H
           have hcz61 := blk_cell BK1.out; have hfz61 := blk_frozen BK1.out
           obtain ⟨Ao62, co62, eo62⟩ := Kd.R_slice HO_4.out
           subst eo62
           go_wp2_with (first | ((with_reducible refine gate_dst (N := 59) rfl ?_); refine Kd.N_lit (Kd.slice 43 k43) _ 22 ?hg (N' := 59) ?hd (xs := ([x4_26] : List (List (S43)))) (inner := [.slice Ao62 x4_26.length co62]) (ok := (fun k_ => k_ ≠ gb1)) (okp := (fun k_ => k_ ≠ gb1)) ?hr ?hp (fun _ hk => hk) ((show ∀ k_, wc.heap.size ≤ k_ → (fun k_ => k_ ≠ gb1) k_ from fun k_ hk => Kd.freshB (g := gb1) (o := .cells #[.string a0_0, .int .i64 a0_1, .bool false, .bool a0_3, .int .i64 a0_4] 63 (0, 0)) BK1.out k_ hk) _ (Nat.le_refl _)) (Below.refl _ _) (Nat.le_refl _) (by simp) ?_; (case hd => rfl); (case hg => rfl); (case hr => first | (go_simp; done) | (go_simp; rfl)); (case hp => exact (Reps.one (show Kd.FK (Kd.slice 43 k43) _ _ x4_26 [.slice Ao62 x4_26.length co62] from (Kd.FK_slice_mk (Kd.R_reads' (Kd.R_mono (ok' := (fun k_ => k_ ≠ gb1)) (Kd.R_types (HO_4.out) BK1.out (by decide)) (fun k_ hk => hk.2))).2.1 (Kd.R_F (Kd.R_mono (ok' := (fun k_ => k_ ≠ gb1)) (Kd.R_types (HO_4.out) BK1.out (by decide)) (fun k_ hk => hk.2))))) (Reps.none _ _))); intro v338 w63 ho64 hb hg_ hnew_; clear hg_ hnew_; (first | rw [← Ny337.out] at ho64 | (simp only [Int.reduceToNat] at ho64; rw [← Ny337.out] at ho64)); have HO339 := Aside0.mk (Kd.N_lower ho64 (below_size HB.out)); replace BK1 := mBb BK1 hb; replace HB := mSt HB hb; clear HO_4; clear hb ho64; obtain ⟨Ao65, co65, eo65⟩ := Kd.N_slice HO339.out; subst eo65) | ((with_reducible refine gate_callee (f := 71) rfl ?_); refine goesL_ (some 60) rfl rfl Tryd.func71 (by kernel_rfl) rfl #[.agg #[.int .i64 5, .string (⟨#[]⟩ : ByteArray), .int .i64 a0_1, .int .i64 0], .slice Ao65 y337.length co65] rfl (mA2 rfl rfl) ?_; (with_reducible refine (lang_tree.calls kj26 5 (⟨#[]⟩ : ByteArray) a0_1 0 _ _ y337 t340 _ ((Kd.N_reads' HO339.out).2.2) ((Kd.N_reads' HO339.out).2.1) A60.out).mono ?_); rintro e w66 ⟨v341, rfl, ho0, hb⟩; refine ⟨_, rfl, ?_⟩; replace HO339 := Aside0.mk (Kd.N_elder' HO339.out (Kd.R_base ho0) hb); have HO342 := Aside0.mk (Kd.R_lower ho0 (below_size HB.out)); replace BK1 := mBb BK1 hb; replace HB := mSt HB hb; (try clear hb); (try clear ho0)))
           go_ret2
           exact ⟨_, rfl, by exact HO342.out, HB.out⟩
          subst c36
          rw [if_pos rfl] at H
          obtain ⟨y325, hy325⟩ : ∃ y_ : List (List (S43)), y_ = (([x4_26] : List (List (S43)))) := ⟨_, rfl⟩
          rw [← hy325] at H
          have Ny325 := Aside0.mk hy325
          clear hy325
          replace H := Option.bind_eq_some_iff.mp H
          obtain ⟨t328, A370, H⟩ := H
          try dsimp only at H
          have A37 := Aside0.mk A370
          clear A370
          by_cases c38 : a0_1 > 0
          rotate_left
          ·
           rw [if_neg c38] at H
           have c38b0 := decide_eq_false c38
           clear c38
           simp only [Option.some.injEq, Prod.mk.injEq] at H
           obtain ⟨rfl, rfl⟩ := H
           have hcz52 := blk_cell BK1.out; have hfz52 := blk_frozen BK1.out
           obtain ⟨Ao53, co53, eo53⟩ := Kd.R_slice HO_4.out
           subst eo53
           go_wp2_with (first | ((with_reducible refine gate_dst (N := 50) rfl ?_); refine Kd.N_lit (Kd.slice 43 k43) _ 22 ?hg (N' := 50) ?hd (xs := ([x4_26] : List (List (S43)))) (inner := [.slice Ao53 x4_26.length co53]) (ok := (fun k_ => k_ ≠ gb1)) (okp := (fun k_ => k_ ≠ gb1)) ?hr ?hp (fun _ hk => hk) ((show ∀ k_, wc.heap.size ≤ k_ → (fun k_ => k_ ≠ gb1) k_ from fun k_ hk => Kd.freshB (g := gb1) (o := .cells #[.string a0_0, .int .i64 a0_1, .bool true, .bool a0_3, .int .i64 a0_4] 63 (0, 0)) BK1.out k_ hk) _ (Nat.le_refl _)) (Below.refl _ _) (Nat.le_refl _) (by simp) ?_; (case hd => rfl); (case hg => rfl); (case hr => first | (go_simp; done) | (go_simp; rfl)); (case hp => exact (Reps.one (show Kd.FK (Kd.slice 43 k43) _ _ x4_26 [.slice Ao53 x4_26.length co53] from (Kd.FK_slice_mk (Kd.R_reads' (Kd.R_mono (ok' := (fun k_ => k_ ≠ gb1)) (Kd.R_types (HO_4.out) BK1.out (by decide)) (fun k_ hk => hk.2))).2.1 (Kd.R_F (Kd.R_mono (ok' := (fun k_ => k_ ≠ gb1)) (Kd.R_types (HO_4.out) BK1.out (by decide)) (fun k_ hk => hk.2))))) (Reps.none _ _))); intro v326 w54 ho55 hb hg_ hnew_; clear hg_ hnew_; (first | rw [← Ny325.out] at ho55 | (simp only [Int.reduceToNat] at ho55; rw [← Ny325.out] at ho55)); have HO327 := Aside0.mk (Kd.N_lower ho55 (below_size HB.out)); replace BK1 := mBb BK1 hb; replace HB := mSt HB hb; clear HO_4; clear hb ho55; obtain ⟨Ao56, co56, eo56⟩ := Kd.N_slice HO327.out; subst eo56) | ((with_reducible refine gate_callee (f := 71) rfl ?_); refine goesL_ (some 51) rfl rfl Tryd.func71 (by kernel_rfl) rfl #[.agg #[.int .i64 3, .string (⟨#[]⟩ : ByteArray), .int .i64 0, .int .i64 0], .slice Ao56 y325.length co56] rfl (mA2 rfl rfl) ?_; (with_reducible refine (lang_tree.calls kj26 3 (⟨#[]⟩ : ByteArray) 0 0 _ _ y325 t328 _ ((Kd.N_reads' HO327.out).2.2) ((Kd.N_reads' HO327.out).2.1) A37.out).mono ?_); rintro e w57 ⟨v329, rfl, ho0, hb⟩; refine ⟨_, rfl, ?_⟩; replace HO327 := Aside0.mk (Kd.N_elder' HO327.out (Kd.R_base ho0) hb); have HO330 := Aside0.mk (Kd.R_lower ho0 (below_size HB.out)); replace BK1 := mBb BK1 hb; replace HB := mSt HB hb; (try clear hb); (try clear ho0); have hcz58 := blk_cell BK1.out; have hfz58 := blk_frozen BK1.out))
           go_ret2
           exact ⟨_, rfl, by exact HO330.out, HB.out⟩
          rw [if_pos c38] at H
          have c38b0 := decide_eq_true c38
          clear c38
          obtain ⟨y331, hy331⟩ : ∃ y_ : List (List (S43)), y_ = (([t328] : List (List (S43)))) := ⟨_, rfl⟩
          rw [← hy331] at H
          have Ny331 := Aside0.mk hy331
          clear hy331
          replace H := Option.bind_eq_some_iff.mp H
          obtain ⟨t334, A390, H⟩ := H
          try dsimp only at H
          have A39 := Aside0.mk A390
          clear A390
          simp only [Option.some.injEq, Prod.mk.injEq] at H
          obtain ⟨rfl, rfl⟩ := H
          have hcz40 := blk_cell BK1.out; have hfz40 := blk_frozen BK1.out
          obtain ⟨Ao41, co41, eo41⟩ := Kd.R_slice HO_4.out
          subst eo41
          go_wp2_with (first | ((with_reducible refine gate_dst (N := 50) rfl ?_); refine Kd.N_lit (Kd.slice 43 k43) _ 22 ?hg (N' := 50) ?hd (xs := ([x4_26] : List (List (S43)))) (inner := [.slice Ao41 x4_26.length co41]) (ok := (fun k_ => k_ ≠ gb1)) (okp := (fun k_ => k_ ≠ gb1)) ?hr ?hp (fun _ hk => hk) ((show ∀ k_, wc.heap.size ≤ k_ → (fun k_ => k_ ≠ gb1) k_ from fun k_ hk => Kd.freshB (g := gb1) (o := .cells #[.string a0_0, .int .i64 a0_1, .bool true, .bool a0_3, .int .i64 a0_4] 63 (0, 0)) BK1.out k_ hk) _ (Nat.le_refl _)) (Below.refl _ _) (Nat.le_refl _) (by simp) ?_; (case hd => rfl); (case hg => rfl); (case hr => first | (go_simp; done) | (go_simp; rfl)); (case hp => exact (Reps.one (show Kd.FK (Kd.slice 43 k43) _ _ x4_26 [.slice Ao41 x4_26.length co41] from (Kd.FK_slice_mk (Kd.R_reads' (Kd.R_mono (ok' := (fun k_ => k_ ≠ gb1)) (Kd.R_types (HO_4.out) BK1.out (by decide)) (fun k_ hk => hk.2))).2.1 (Kd.R_F (Kd.R_mono (ok' := (fun k_ => k_ ≠ gb1)) (Kd.R_types (HO_4.out) BK1.out (by decide)) (fun k_ hk => hk.2))))) (Reps.none _ _))); intro v326 w42 ho43 hb hg_ hnew_; clear hg_ hnew_; (first | rw [← Ny325.out] at ho43 | (simp only [Int.reduceToNat] at ho43; rw [← Ny325.out] at ho43)); have HO327 := Aside0.mk (Kd.N_lower ho43 (below_size HB.out)); replace BK1 := mBb BK1 hb; replace HB := mSt HB hb; clear HO_4; clear hb ho43; obtain ⟨Ao44, co44, eo44⟩ := Kd.N_slice HO327.out; subst eo44) | ((with_reducible refine gate_callee (f := 71) rfl ?_); refine goesL_ (some 51) rfl rfl Tryd.func71 (by kernel_rfl) rfl #[.agg #[.int .i64 3, .string (⟨#[]⟩ : ByteArray), .int .i64 0, .int .i64 0], .slice Ao44 y325.length co44] rfl (mA2 rfl rfl) ?_; (with_reducible refine (lang_tree.calls kj26 3 (⟨#[]⟩ : ByteArray) 0 0 _ _ y325 t328 _ ((Kd.N_reads' HO327.out).2.2) ((Kd.N_reads' HO327.out).2.1) A37.out).mono ?_); rintro e w45 ⟨v329, rfl, ho0, hb⟩; refine ⟨_, rfl, ?_⟩; replace HO327 := Aside0.mk (Kd.N_elder' HO327.out (Kd.R_base ho0) hb); have HO330 := Aside0.mk (Kd.R_lower ho0 (below_size HB.out)); replace BK1 := mBb BK1 hb; replace HB := mSt HB hb; (try clear hb); (try clear ho0); have hcz46 := blk_cell BK1.out; have hfz46 := blk_frozen BK1.out; obtain ⟨Ao47, co47, eo47⟩ := Kd.R_slice HO330.out; subst eo47) | ((with_reducible refine gate_dst (N := 59) rfl ?_); refine Kd.N_lit (Kd.slice 43 k43) _ 22 ?hg (N' := 59) ?hd (xs := ([t328] : List (List (S43)))) (inner := [.slice Ao47 t328.length co47]) (ok := (fun k_ => some k_ ≠ (.slice Ao44 y325.length co44 : Value).ownBlock ∧ k_ ≠ gb1)) (okp := (fun k_ => some k_ ≠ (.slice Ao44 y325.length co44 : Value).ownBlock ∧ k_ ≠ gb1)) ?hr ?hp (fun _ hk => hk) ((show ∀ k_, w45.heap.size ≤ k_ → (fun k_ => some k_ ≠ (.slice Ao44 y325.length co44 : Value).ownBlock ∧ k_ ≠ gb1) k_ from fun k_ hk => ⟨Kd.fresh' (Kd.N_lt HO327.out) k_ hk, Kd.freshB (g := gb1) (o := .cells #[.string a0_0, .int .i64 a0_1, .bool true, .bool a0_3, .int .i64 a0_4] 63 (0, 0)) BK1.out k_ hk⟩) _ (Nat.le_refl _)) (Below.refl _ _) (Nat.le_refl _) (by simp) ?_; (case hd => rfl); (case hg => rfl); (case hr => first | (go_simp; done) | (go_simp; rfl)); (case hp => exact (Reps.one (show Kd.FK (Kd.slice 43 k43) _ _ t328 [.slice Ao47 t328.length co47] from (Kd.FK_slice_mk (Kd.R_reads' (Kd.R_mono (ok' := (fun k_ => some k_ ≠ (.slice Ao44 y325.length co44 : Value).ownBlock ∧ k_ ≠ gb1)) (Kd.R_types (Kd.R_apart' (HO330.out) (Kd.N_typed HO327.out) (by decide)) BK1.out (by decide)) (fun k_ hk => ⟨hk.1.2, hk.2⟩))).2.1 (Kd.R_F (Kd.R_mono (ok' := (fun k_ => some k_ ≠ (.slice Ao44 y325.length co44 : Value).ownBlock ∧ k_ ≠ gb1)) (Kd.R_types (Kd.R_apart' (HO330.out) (Kd.N_typed HO327.out) (by decide)) BK1.out (by decide)) (fun k_ hk => ⟨hk.1.2, hk.2⟩))))) (Reps.none _ _))); intro v332 w48 ho49 hb hg_ hnew_; clear hg_ hnew_; (first | rw [← Ny331.out] at ho49 | (simp only [Int.reduceToNat] at ho49; rw [← Ny331.out] at ho49)); replace HO327 := Aside0.mk (Kd.N_elder' HO327.out (Kd.N_base ho49) hb); have HO333 := Aside0.mk (Kd.N_lower ho49 (below_size HB.out)); replace BK1 := mBb BK1 hb; replace HB := mSt HB hb; clear HO330; clear hb ho49; obtain ⟨Ao50, co50, eo50⟩ := Kd.N_slice HO333.out; subst eo50) | ((with_reducible refine gate_callee (f := 71) rfl ?_); refine goesL_ (some 60) rfl rfl Tryd.func71 (by kernel_rfl) rfl #[.agg #[.int .i64 5, .string (⟨#[]⟩ : ByteArray), .int .i64 a0_1, .int .i64 0], .slice Ao50 y331.length co50] rfl (mA2 rfl rfl) ?_; (with_reducible refine (lang_tree.calls kj26 5 (⟨#[]⟩ : ByteArray) a0_1 0 _ _ y331 t334 _ ((Kd.N_reads' HO333.out).2.2) ((Kd.N_reads' HO333.out).2.1) A39.out).mono ?_); rintro e w51 ⟨v335, rfl, ho0, hb⟩; refine ⟨_, rfl, ?_⟩; replace HO327 := Aside0.mk (Kd.N_elder' HO327.out (Kd.R_base ho0) hb); replace HO333 := Aside0.mk (Kd.N_elder' HO333.out (Kd.R_base ho0) hb); have HO336 := Aside0.mk (Kd.R_lower ho0 (below_size HB.out)); replace BK1 := mBb BK1 hb; replace HB := mSt HB hb; (try clear hb); (try clear ho0)))
          go_ret2
          exact ⟨_, rfl, by exact HO336.out, HB.out⟩
       rw [if_pos c17] at H
       have c17b0 := decide_eq_true c17
       clear c17
       have H' := Aside0.mk H
       clear H
       go_wp2
       go_loopg [4, 5] k3 (fun kq v4 v5 w' => ∃ (x4_4 : List (S43)) (x5_4 : Int), v5 = .int .i64 x5_4 ∧ Aside0 (lang_leaf_written.l1 kq x4_4 x5_4 x6_3 a0_0 a0_1 a0_2 a0_3 a0_4 = some (r1, r2)) ∧ Aside0 (kq ≤ k3) ∧ Aside0 (Kd.R k43 43 w' w.heap.size (fun _ => True) v4 x4_4) ∧ Aside0 (w'.heap[gb1]? = some (.cells #[.string a0_0, .int .i64 a0_1, .bool a0_2, .bool a0_3, .int .i64 a0_4] 63 (0, 0))) ∧ Aside0 (Below w.heap.size w w'))
       case atStart => exact ⟨(x4_3), (x5_3), rfl, H', ⟨Nat.le_refl _⟩, HO_4, ⟨BK1.out⟩, ⟨HB.out⟩⟩
       case round =>
        clear H' c17b0
        obtain ⟨x4_4, x5_4, rfl, HA, HK4, HO_4, BK1, HB⟩ := hrel
        cases gk with
        | zero => exact absurd HA.out (by simp [lang_leaf_written.l1])
        | succ k4 =>
         have H := HA.out
         clear HA
         simp only [lang_leaf_written.l1] at H
         obtain ⟨c18, H⟩ : (¬ (x6_3 = 0)) ∧ _ := mIfn H
         have c18b0 := beq_eq_false_iff_ne.mpr c18
         have c18b1 := bne_iff_ne.mpr c18
         by_cases c19 : (Int.tmod x5_4 x6_3) = 0
         rotate_left
         ·
          rw [if_neg c19] at H
          have c19b0 := beq_eq_false_iff_ne.mpr c19
          have c19b1 := bne_iff_ne.mpr c19
          have H' := Aside0.mk H
          clear H
          go_wp2
          go_roundg k4
          case measure => have := HJ2.out; have := HJ8.out; have := HK3.out; have := HK4.out; omega
          case rel => exact ⟨(x4_4), (x5_4), (wrap64 (x6_3 - 1)), rfl, rfl, H', ⟨by have := HJ2.out; have := HJ8.out; have := HK3.out; have := HK4.out; omega⟩, HO_4, ⟨BK1.out⟩, ⟨HB.out⟩⟩
         rw [if_pos c19] at H
         have c19b0 := beq_iff_eq.mpr c19
         have c19b1 := bne_eq_false_iff_eq.mpr c19
         clear c19
         obtain ⟨y313, hy313⟩ : ∃ y_ : List (List (S43)), y_ = (([x4_4] : List (List (S43)))) := ⟨_, rfl⟩
         rw [← hy313] at H
         have Ny313 := Aside0.mk hy313
         clear hy313
         replace H := Option.bind_eq_some_iff.mp H
         obtain ⟨t316, A200, H⟩ := H
         try dsimp only at H
         have A20 := Aside0.mk A200
         clear A200
         have H' := Aside0.mk H
         clear H
         try go_wp2
         replace HO_4 := Aside0.mk (Kd.R_drew HO_4.out); replace BK1 := Aside0.mk (blk_drew BK1.out); replace HB := Aside0.mk (below_drew1 HB.out)
         obtain ⟨Ao22, co22, eo22⟩ := Kd.R_slice HO_4.out
         subst eo22
         refine start_ (n := 10) (S := fun w' => True) (ds := []) #[false, false, false, false, false, false, false, false, false, false] (by kernel_rfl) rfl rfl trivial (fun hHeld => ?_); refine with_tabW lang_leaf_written.tab9 lang_leaf_written.bits9 (fun HT_ HW_ => ?_)
         generalize wr.drew = w21 at HO_4 BK1 HB hHeld ⊢
         refine pM 0 32 HT_ ?_
         refine pM 1 33 HT_ ?_
         refine pM 2 34 HT_ ?_
         refine pM 5 37 HT_ ?_
         refine pM 6 38 HT_ ?_
         refine pM 7 39 HT_ ?_
         refine one_ (i := 3) (N := some 35) #[true, true, true, true, false, true, true, true, false, false] rfl rfl (one_of HT_.out (by kernel_rfl)) (by decide) (fun K hK => ?_)
         refine Kd.N_lit_step (Kd.slice 43 k43) _ 22 ?hg (N' := 35) ?hd (xs := ([x4_4] : List (List (S43)))) (inner := [.slice Ao22 x4_4.length co22]) (ok := (fun k_ => k_ ≠ gb1)) (okp := (fun k_ => k_ ≠ gb1)) ?hr ?hp (fun _ hk => hk) ((show ∀ k_, w21.heap.size ≤ k_ → (fun k_ => k_ ≠ gb1) k_ from fun k_ hk => Kd.freshB (g := gb1) (o := .cells #[.string a0_0, .int .i64 a0_1, .bool a0_2, .bool a0_3, .int .i64 a0_4] 63 (0, 0)) BK1.out k_ hk) _ (Nat.le_refl _)) (Below.refl _ _) (Nat.le_refl _) (by simp) ?_; (case hd => rfl); (case hg => rfl); (case hr => first | (go_simp; done) | (go_simp; rfl)); (case hp => exact (Reps.one (show Kd.FK (Kd.slice 43 k43) _ _ x4_4 [.slice Ao22 x4_4.length co22] from (Kd.FK_slice_mk (Kd.R_reads' (Kd.R_mono (ok' := (fun k_ => k_ ≠ gb1)) (Kd.R_types (HO_4.out) BK1.out (by decide)) (fun k_ hk => hk.2))).2.1 (Kd.R_F (Kd.R_mono (ok' := (fun k_ => k_ ≠ gb1)) (Kd.R_types (HO_4.out) BK1.out (by decide)) (fun k_ hk => hk.2))))) (Reps.none _ _)))
         intro v314 w23 ho24 hb hg_ hnew_
         clear hg_ hnew_
         (first | rw [← Ny313.out] at ho24 | (simp only [Int.reduceToNat] at ho24; rw [← Ny313.out] at ho24))
         have HO315 := Aside0.mk (Kd.N_lower ho24 (below_size HB.out)); replace BK1 := mBb BK1 hb; replace HB := mSt HB hb; clear HO_4
         clear hb ho24
         obtain ⟨Ao25, co25, eo25⟩ := Kd.N_slice HO315.out
         subst eo25
         refine hK.out _ _ trivial (fun hHeld => ?_)
         clear hK K
         refine norm_ (by show Act.put _ (some 35) _ = _; simp only [mP]; rfl) ?_
         refine one_ (i := 4) (N := some 36) #[true, true, true, true, true, true, true, true, false, false] rfl rfl (one_of HT_.out (by kernel_rfl)) (by decide) (fun K hK => ?_)
         refine goes_ Tryd.func71 (by kernel_rfl) rfl #[.agg #[.int .i64 6, .string (⟨#[]⟩ : ByteArray), .int .i64 x6_3, .int .i64 0], .slice Ao25 y313.length co25] (by rfl) rfl rfl (by (try simp only [List.map_toArray, List.map_cons, List.map_nil]); first | done | rfl | (simp only [List.length_drop, List.length_take]; rfl)) ?_
         with_reducible refine (lang_tree.calls k4 6 (⟨#[]⟩ : ByteArray) x6_3 0 _ _ y313 t316 _ ?side1 ?side2 A20.out).mono ?_
         (case side1 => exact (Kd.N_reads' HO315.out).2.2)
         (case side2 => exact (Kd.N_reads' HO315.out).2.1)
         rintro e w26 ⟨v317, rfl, ho0, hb⟩
         refine ⟨_, rfl, ?_⟩
         replace HO315 := Aside0.mk (Kd.N_elder' HO315.out (Kd.R_base ho0) hb); have HO318 := Aside0.mk (Kd.R_lower ho0 (below_size HB.out)); replace BK1 := mBb BK1 hb; replace HB := mSt HB hb
         (try clear hb)
         (try clear hb2)
         (try clear hk)
         (try clear hi)
         (try clear ho0)
         refine hK.out _ _ trivial (fun hHeld => ?_)
         clear hK K
         refine norm_ (by show Act.put _ (some 36) _ = _; simp only [mP]; rfl) ?_
         refine pM 8 4 HT_ ?_
         refine pM 9 5 HT_ ?_
         refine done_ (done_of HT_.out (by kernel_rfl)) ?_
         try go_wp2
         go_roundg k4
         case measure => have := HJ2.out; have := HJ8.out; have := HK3.out; have := HK4.out; omega
         case rel => exact ⟨(t316), (wrap64 (Int.tdiv x5_4 x6_3)), rfl, H', ⟨by have := HJ2.out; have := HJ8.out; have := HK3.out; have := HK4.out; omega⟩, HO318, ⟨BK1.out⟩, ⟨HB.out⟩⟩
mutual
def lang_one.l0 : Nat → List (List (S43)) → Option ((List (S43)))
 | 0, _ => none
 | k + 1, x0 => if (x0.length : Int) > 1 then (lang_one.l1 k x0 ([] : List (List (S43))) 0) else (if 0 < (x0.length : Int) then (some (rd_L3 x0 0)) else (none))
def lang_one.l1 : Nat → List (List (S43)) → List (List (S43)) → Int → Option ((List (S43)))
 | 0, _, _, _ => none
 | k + 1, x0, x3, x4 => if x4 < (x0.length : Int) then (if 0 ≤ x4 then (if x4 ≤ (mn (wrap64 (x4 + 8)) (x0.length : Int)) then (if (mn (wrap64 (x4 + 8)) (x0.length : Int)) ≤ (x0.length : Int) then ((some ((x0.take ((mn (wrap64 (x4 + 8)) (x0.length : Int)) : Int).toNat).drop (x4 : Int).toNat : List (List (S43)))).bind fun y344 => (if (y344.length : Int) = 1 then (if 0 < (y344.length : Int) then (if x3.length < 5864062014805 then (lang_one.l1 k x0 (x3 ++ [rd_L3 y344 0]) (wrap64 (x4 + 8))) else (none)) else (none)) else ((lang_tree.f k 2 (⟨#[]⟩ : ByteArray) 0 0 y344).bind fun t353 => (if x3.length < 5864062014805 then (lang_one.l1 k x0 (x3 ++ [t353]) (wrap64 (x4 + 8))) else (none))))) else (none)) else (none)) else (none)) else (lang_one.l0 k x3)
end
def lang_one.f (k : Nat) (l0 : List (List (S43))) : Option ((List (S43))) := lang_one.l0 k l0
set_option maxHeartbeats 8000000 in
set_option maxRecDepth 100000 in
theorem lang_one.calls (k : Nat) (P0_ : Nat → Prop) (A0 : Option Addr) (c0 : Nat) (l0 : List (List (S43))) (r : List (S43)) (w : World) (hs0 : Kd.V (Kd.slice 43 k43) 22 w w.heap.size (fun k_ => P0_ k_) (.slice A0 l0.length c0) l0) (h : lang_one.f k l0 = some r) :
  Calls Tryd.prog 42 #[.slice A0 l0.length c0] w fun e w' => ∃ v0_ : Value, e = .returned (v0_) ∧ Kd.V k43 43 w' w.heap.size (fun k_ => (P0_ k_ ∨ w.heap.size ≤ k_)) v0_ r ∧ Below w.heap.size w w' := by
 have hu43 := Tryd.underlying43
 have HO0 := Aside0.mk (show Kd.V (Kd.slice 43 k43) 22 w w.heap.size (fun k_ => (P0_ k_ ∨ w.heap.size ≤ k_)) (.slice A0 l0.length c0) l0 from Kd.V_mono hs0 (fun k_ hk => .inl hk))
 have HB := Aside0.mk (Below.refl w.heap.size w)
 have H := h
 unfold lang_one.f at H
 clear h
 have H' := Aside0.mk H
 clear H
 go_enter Tryd.func42, Tryd.ntmps42
 go_wp2
 go_loopg [0] k (fun kq v0 w' => ∃ (x0_1 : List (List (S43))), Aside0 (lang_one.l0 kq x0_1 = some r) ∧ Aside0 (kq ≤ k) ∧ Aside0 (Kd.V (Kd.slice 43 k43) 22 w' w.heap.size (fun k_ => (P0_ k_ ∨ w.heap.size ≤ k_)) v0 x0_1) ∧ Aside0 (Below w.heap.size w w'))
 case atStart => exact ⟨(l0), H', ⟨Nat.le_refl _⟩, HO0, ⟨HB.out⟩⟩
 case round =>
  clear H'
  obtain ⟨x0_1, HA, HK1, HO_0, HB⟩ := hrel
  cases gk with
  | zero => exact absurd HA.out (by simp [lang_one.l0])
  | succ k1 =>
   have H := HA.out
   clear HA
   simp only [lang_one.l0] at H
   by_cases c2 : (x0_1.length : Int) > 1
   rotate_left
   ·
    rw [if_neg c2] at H
    have c2b0 := decide_eq_false c2
    have c2b1 : decide (1 < x0_1.length) = false := decide_eq_false (by omega)
    clear c2
    obtain ⟨c20, H⟩ : (0 < (x0_1.length : Int)) ∧ _ := mIf H
    have c20b0 := decide_eq_true c20
    have c20b1 : decide (0 < x0_1.length) = true := decide_eq_true (by omega)
    clear c20
    obtain rfl := Option.some.inj H
    obtain ⟨Ao21, co21, eo21⟩ := Kd.V_slice HO_0.out
    subst eo21
    have p343 : 0 ≤ (0 : Int) := (by omega)
    have q343 : 0 < (x0_1.length : Int) := of_decide_eq_true (by assumption)
    obtain ⟨ad343, A343_0, c343_0, e343, hx343_0, hl343_0, hi343_0⟩ := at_L3 (Kd.V_reads' HO_0.out).2.2 0 p343 q343
    cases e343
    obtain ⟨ce343, hce343, hMe343, hcc343⟩ := Kd.V_get HO_0.out [] 0 p343 (by first | exact q343 | exact of_decide_eq_true (by assumption) | (have e_ := (Kd.V_reads' HO_0.out).1; omega))
    obtain ⟨ua343_0, uc343_0, rfl, ul343_0, ge343_0⟩ := Kd.FK_slice_open hMe343
    have hv343_0 := hcc343 0 _ rfl
    rw [Nat.add_zero, show ((Kd.slice 43 k43)).sz = 1 from rfl, Nat.mul_one] at hv343_0
    replace hv343_0 := Option.some.inj (hv343_0.symm.trans hx343_0)
    injection hv343_0 with hva_ hvn_ hvc_
    rw [hva_] at ge343_0
    rw [hvc_] at ul343_0
    have HL343_0 := Aside0.mk (show Kd.V k43 43 _ w.heap.size _ _ (rd_L3 x0_1 0) from Kd.V_mk ul343_0 ge343_0)
    clear hva_ hvn_ hvc_ ge343_0 ul343_0 hcc343 hce343
    have qi343 : (0 < x0_1.length) = True := eq_true (by omega)
    (try rw [show ((0 : Int)).toNat = 0 from rfl] at hx343_0)
    (try rw [Addr.add_zero'] at hx343_0)
    have HR343_0 := Aside0.mk hi343_0
    have HC343_0 := Aside0.mk hl343_0
    clear hi343_0 hl343_0
    replace p343 := eq_true p343
    replace q343 := eq_true q343
    go_wp2
    go_ret
    exact ⟨_, rfl, by (with_reducible repeat (first | apply Kd.V_alloc | apply Kd.V_drewN | apply Kd.V_drew)); exact HL343_0.out, hO HB⟩
   rw [if_pos c2] at H
   have c2b0 := decide_eq_true c2
   have c2b1 : decide (1 < x0_1.length) = true := decide_eq_true (by omega)
   clear c2
   have H' := Aside0.mk H
   clear H
   obtain ⟨Ao3, co3, eo3⟩ := Kd.V_slice HO_0.out
   subst eo3
   go_wp2
   go_loopg [3, 4] k1 (fun kq v3 v4 w' => ∃ (x3_2 : List (List (S43))) (x4_2 : Int), v4 = .int .i64 x4_2 ∧ Aside0 (lang_one.l1 kq x0_1 x3_2 x4_2 = some r) ∧ Aside0 (kq ≤ k1) ∧ Aside0 (Kd.V (Kd.slice 43 k43) 22 w' w.heap.size (fun k_ => (P0_ k_ ∨ w.heap.size ≤ k_) ∧ some k_ ≠ (v3 : Value).ownBlock) (.slice Ao3 x0_1.length co3) x0_1) ∧ Aside0 (Kd.N (Kd.slice 43 k43) 22 w' w.heap.size (fun k_ => (P0_ k_ ∨ w.heap.size ≤ k_)) v3 x3_2) ∧ Aside0 (Below w.heap.size w w'))
   case atStart => exact ⟨(([] : List (List (S43)))), (0), rfl, H', ⟨Nat.le_refl _⟩, ⟨Kd.V_mono HO_0.out (fun _ hk => ⟨hk, (by simp [Value.ownBlock])⟩)⟩, ⟨by first | exact Kd.S_nil _ _ _ _ _ | exact Kd.N_nil _ _ _ _ _ | exact Kd.V_nil _ _ _ _ _ | exact Kd.Q_nil _ _ _ _ _ | exact Kd.R_nil _ _ _ _ _⟩, HB⟩
   case round =>
    clear H' c2b0 c2b1
    obtain ⟨x3_2, x4_2, rfl, HA, HK2, HO_0, HO_3, HB⟩ := hrel
    cases gk with
    | zero => exact absurd HA.out (by simp [lang_one.l1])
    | succ k2 =>
     have H := HA.out
     clear HA
     simp only [lang_one.l1] at H
     by_cases c4 : x4_2 < (x0_1.length : Int)
     rotate_left
     ·
      rw [if_neg c4] at H
      have c4b0 := decide_eq_false c4
      clear c4
      have H' := Aside0.mk H
      clear H
      go_wp2
      go_roundg k2
      case measure => have := HK1.out; have := HK2.out; omega
      case rel => exact ⟨(x3_2), H', ⟨by have := HK1.out; have := HK2.out; omega⟩, ⟨Kd.N_V HO_3.out⟩, HB⟩
     rw [if_pos c4] at H
     have c4b0 := decide_eq_true c4
     clear c4
     obtain ⟨ji5, hji5⟩ : ∃ j_ : Int, (mn (wrap64 (x4_2 + 8)) (x0_1.length : Int)) = j_ := ⟨_, rfl⟩
     replace H : (if 0 ≤ x4_2 then (if x4_2 ≤ (ji5) then (if (ji5) ≤ (x0_1.length : Int) then ((some ((x0_1.take ((ji5) : Int).toNat).drop (x4_2 : Int).toNat : List (List (S43)))).bind fun y344 => (if (y344.length : Int) = 1 then (if 0 < (y344.length : Int) then (if x3_2.length < 5864062014805 then (lang_one.l1 k2 x0_1 (x3_2 ++ [rd_L3 y344 0]) (wrap64 (x4_2 + 8))) else (none)) else (none)) else ((lang_tree.f k2 2 (⟨#[]⟩ : ByteArray) 0 0 y344).bind fun t353 => (if x3_2.length < 5864062014805 then (lang_one.l1 k2 x0_1 (x3_2 ++ [t353]) (wrap64 (x4_2 + 8))) else (none))))) else (none)) else (none)) else (none)) = some r := by first | (rw [hji5] at H; exact H) | (simp only [hji5] at H ⊢; exact H)
     have hji5_ : (if (x0_1.length : Int) < (wrap64 (x4_2 + 8)) then (x0_1.length : Int) else (wrap64 (x4_2 + 8))) = ji5 := hji5
     obtain ⟨c6, H⟩ : (0 ≤ x4_2) ∧ _ := mIf H
     have c6b0 := eq_true c6
     have c6b1 := decide_eq_true c6
     clear c6
     obtain ⟨c7, H⟩ : (x4_2 ≤ (ji5)) ∧ _ := mIf H
     have c7b0 := eq_true c7
     have c7b1 := decide_eq_true c7
     clear c7
     obtain ⟨c8, H⟩ : ((ji5) ≤ (x0_1.length : Int)) ∧ _ := mIf H
     have c8b0 := eq_true c8
     have c8b1 := decide_eq_true c8
     clear c8
     obtain ⟨y344, hy344⟩ : ∃ y_ : List (List (S43)), y_ = ((x0_1.take ((ji5) : Int).toNat).drop (x4_2 : Int).toNat) := ⟨_, rfl⟩
     replace H : (if (y344.length : Int) = 1 then (if 0 < (y344.length : Int) then (if x3_2.length < 5864062014805 then (lang_one.l1 k2 x0_1 (x3_2 ++ [rd_L3 y344 0]) (wrap64 (x4_2 + 8))) else (none)) else (none)) else ((lang_tree.f k2 2 (⟨#[]⟩ : ByteArray) 0 0 y344).bind fun t353 => (if x3_2.length < 5864062014805 then (lang_one.l1 k2 x0_1 (x3_2 ++ [t353]) (wrap64 (x4_2 + 8))) else (none)))) = some r := by first | (rw [hy344]; with_reducible exact H) | (have H2_ := (Option.bind_some _ _).symm.trans H; rw [hy344]; with_reducible exact H2_) | (have H2_ := (Option.bind_some _ _).symm.trans H; with_reducible exact H2_) | with_reducible exact H | (rw [hy344]; exact H) | exact H
     have Ny344 := Aside0.mk hy344
     clear hy344
     by_cases c9 : (y344.length : Int) = 1
     rotate_left
     ·
      rw [if_neg c9] at H
      have c9b0 := beq_eq_false_iff_ne.mpr c9
      have c9b1 := bne_iff_ne.mpr c9
      replace H := Option.bind_eq_some_iff.mp H
      obtain ⟨t353, A140, H⟩ := H
      try dsimp only at H
      have A14 := Aside0.mk A140
      clear A140
      obtain ⟨c15, H⟩ : (x3_2.length < 5864062014805) ∧ _ := mIf H
      have LMc15 := Aside0.mk c15
      clear c15
      obtain ⟨y356, hy356⟩ : ∃ y_ : List (List (S43)), y_ = (x3_2 ++ [t353]) := ⟨_, rfl⟩
      rw [← hy356] at H
      have Ny356 := Aside0.mk hy356
      clear hy356
      have H' := Aside0.mk H
      clear H
      have q16 : ((ji5) : Int) ≤ ((x0_1.length : Int) : Int) := of_decide_eq_true (by assumption)
      obtain ⟨i016, hi016, _, hsz16, _⟩ := info_parts info22
      have hroom16 : x0_1.length ≤ co3 := (Kd.V_reads' HO_0.out).2.1
      have hC16 : Kd.F (Kd.slice 43 k43) _ _ Ao3 x0_1.length x0_1 := (Kd.V_at (base := w.heap.size) HO_0.out).2.2
      have ql16 : (x4_2 : Int) ≤ ((ji5) : Int) := of_decide_eq_true (by assumption)
      have q016 : (0 : Int) ≤ (x4_2 : Int) := of_decide_eq_true (by assumption)
      have hcut16 := cut_mid (P := Tryd.prog) 61 22 .i64 .i64 Tryd.underlying61 hi016 1 hsz16 Ao3 x0_1.length co3 x4_2 (ji5) q016 ql16 q16 hroom16
      have hr16 := Kd.F_mid (lo := (x4_2 : Int).toNat) (hi := ((ji5) : Int).toNat) (c := co3) hC16 (by omega) (by omega) hroom16
      obtain ⟨A16, hA16⟩ : ∃ A1, A1 = (if co3 = (x4_2 : Int).toNat then Ao3 else (Ao3 : Option Addr).map (·.add ((x4_2 : Int).toNat * 1))) := ⟨_, rfl⟩
      obtain ⟨c16, hc16⟩ : ∃ c1, c1 = co3 - (x4_2 : Int).toNat := ⟨_, rfl⟩
      have hy16 : y344.length = ((ji5) : Int).toNat - (x4_2 : Int).toNat := (by rw [Ny344.out, List.length_drop, List.length_take] <;> omega)
      rw [show ((x0_1).take ((ji5) : Int).toNat).drop (x4_2 : Int).toNat = y344 from Ny344.out.symm] at hr16
      replace hr16 : Kd.F (Kd.slice 43 k43) _ _ A16 y344.length y344 := (by rw [hA16]; exact hr16)
      rw [← hy16, ← hA16, ← hc16] at hcut16
      have HO348 := Aside0.mk (show Kd.V (Kd.slice 43 k43) 22 _ w.heap.size _ (.slice A16 y344.length c16) y344 from Kd.V_mk (by rw [hy16, hc16]; exact Nat.sub_le_sub_right (Nat.le_trans (by omega) hroom16) _) hr16)
      have HC348 := Aside0.mk (show y344.length ≤ c16 from by rw [hy16, hc16]; exact Nat.sub_le_sub_right (Nat.le_trans (by omega) hroom16) _)
      clear hr16 hC16 hroom16 hi016 hsz16 hc16
      have KY16 := Aside0.mk hy16
      have KA16 := Aside0.mk hA16
      clear hy16 hA16
      replace q16 := eq_true q16
      go_wp2_with (first | ((with_reducible refine gate_callee (f := 71) rfl ?_); refine goesL_ (some 35) rfl rfl Tryd.func71 (by kernel_rfl) rfl #[.agg #[.int .i64 2, .string (⟨#[]⟩ : ByteArray), .int .i64 0, .int .i64 0], .slice A16 y344.length c16] rfl (mA2 rfl rfl) ?_; (with_reducible refine (lang_tree.calls k2 2 (⟨#[]⟩ : ByteArray) 0 0 _ _ y344 t353 _ ((Kd.V_reads' HO348.out).2.2) ((Kd.V_reads' HO348.out).2.1) A14.out).mono ?_); rintro e w17 ⟨v354, rfl, ho0, hb⟩; refine ⟨_, rfl, ?_⟩; replace HO_0 := Aside0.mk (Kd.V_elder' HO_0.out (Kd.R_base ho0) hb); replace HO_3 := Aside0.mk (Kd.N_elder' HO_3.out (Kd.R_base ho0) hb); replace HO348 := Aside0.mk (Kd.V_elder' HO348.out (Kd.R_base ho0) hb); have HO355 := Aside0.mk (Kd.R_lower (Kd.R_newM (M := fun k_ => (w.heap.size ≤ k_)) ho0 (below_size (hO HB)) (fun k_ h_ => h_)) (below_size (hO HB))); replace HB := mSx HB hb; (try clear hb); (try clear ho0); obtain ⟨Ao19, co19, eo19⟩ := Kd.R_slice HO355.out; subst eo19) | ((with_reducible refine gate_builtin (b := .append) (xs := #[.tmp 32, .tmp 36]) rfl ?_); at_builtin; refine Kd.N_append (Kd.slice 43 k43) (w0 := w) w.heap.size rfl (.tmp 32) (.tmp 36) 61 22 (.slice none 0 0) 24 rfl Tryd.underlying61 info22 rfl (by decide) (by omega) u3 x3_2 t353 [.slice Ao19 t353.length co19] (fun k_ => (P0_ k_ ∨ w.heap.size ≤ k_)) (fun k_ => ((fun k_ => (P0_ k_ ∨ w.heap.size ≤ k_))) k_ ∧ some k_ ≠ (u3 : Value).ownBlock) rfl rfl ?aP (fun _ hk => hk) ?aF ?aO ?aB ?aS ?aL ?_; (case aP => exact (Kd.FK_slice_mk (Kd.R_reads' (Kd.R_mono (ok' := (fun k_ => ((fun k_ => (P0_ k_ ∨ w.heap.size ≤ k_))) k_ ∧ some k_ ≠ (u3 : Value).ownBlock)) (Kd.R_apart' (HO355.out) (Kd.N_typed HO_3.out) (by decide)) (fun k_ hk => ⟨(.inr (hk.1.1)), hk.2⟩))).2.1 (Kd.R_F (Kd.R_mono (ok' := (fun k_ => ((fun k_ => (P0_ k_ ∨ w.heap.size ≤ k_))) k_ ∧ some k_ ≠ (u3 : Value).ownBlock)) (Kd.R_apart' (HO355.out) (Kd.N_typed HO_3.out) (by decide)) (fun k_ hk => ⟨(.inr (hk.1.1)), hk.2⟩))))); (case aB => exact (hO HB)); (case aF => exact (fun k_ hk => (.inr (Nat.le_trans (below_size (hO HB)) hk)))); (case aO => exact (by (with_reducible repeat (first | apply Kd.N_alloc | apply Kd.N_drewN | apply Kd.N_drew)); exact Kd.N_mono HO_3.out (fun _ hk => hk.1))); (case aS => exact (below_size (hO HB))); (case aL => have := LMc15.out; omega); intro v357 w18 ho hb hg hat; rw [← Ny356.out] at ho; replace HO_0 := Aside0.mk (Kd.V_afterv (ok := (fun k_ => (P0_ k_ ∨ w.heap.size ≤ k_) ∧ some k_ ≠ (.slice Ao19 t353.length co19 : Value).ownBlock)) (by (with_reducible repeat (first | apply Kd.V_alloc | apply Kd.V_drewN | apply Kd.V_drew)); exact Kd.V_mono HO_0.out (fun _ hk => ⟨⟨hk.1.1, hk.2⟩, hk.1.2⟩)) hg hat); replace HO348 := Aside0.mk (Kd.V_afterv (ok := (fun k_ => (P0_ k_ ∨ w.heap.size ≤ k_) ∧ some k_ ≠ (.slice Ao19 t353.length co19 : Value).ownBlock)) (by (with_reducible repeat (first | apply Kd.V_alloc | apply Kd.V_drewN | apply Kd.V_drew)); exact Kd.V_mono HO348.out (fun _ hk => ⟨⟨hk.1.1, hk.2⟩, hk.1.2⟩)) hg hat); replace HB := Aside0.mk hb; have HO358 := Aside0.mk ho; clear HO_3 HO355; clear ho hb hg hat))
      go_roundg k2
      case measure => have := HK1.out; have := HK2.out; omega
      case rel => exact ⟨(y356), (wrap64 (x4_2 + 8)), rfl, H', ⟨by have := HK1.out; have := HK2.out; omega⟩, ⟨Kd.V_mono HO_0.out (fun _ hk => ⟨hk.1.1, hk.2⟩)⟩, HO358, ⟨HB.out⟩⟩
     rw [if_pos c9] at H
     have c9b0 := beq_iff_eq.mpr c9
     have c9b1 := bne_eq_false_iff_eq.mpr c9
     clear c9
     obtain ⟨c10, H⟩ : (0 < (y344.length : Int)) ∧ _ := mIf H
     have c10b0 := decide_eq_true c10
     have c10b1 : decide (0 < y344.length) = true := decide_eq_true (by omega)
     clear c10
     obtain ⟨c11, H⟩ : (x3_2.length < 5864062014805) ∧ _ := mIf H
     have LMc11 := Aside0.mk c11
     clear c11
     obtain ⟨y350, hy350⟩ : ∃ y_ : List (List (S43)), y_ = (x3_2 ++ [rd_L3 y344 0]) := ⟨_, rfl⟩
     rw [← hy350] at H
     have Ny350 := Aside0.mk hy350
     clear hy350
     have H' := Aside0.mk H
     clear H
     have q12 : ((ji5) : Int) ≤ ((x0_1.length : Int) : Int) := of_decide_eq_true (by assumption)
     obtain ⟨i012, hi012, _, hsz12, _⟩ := info_parts info22
     have hroom12 : x0_1.length ≤ co3 := (Kd.V_reads' HO_0.out).2.1
     have hC12 : Kd.F (Kd.slice 43 k43) _ _ Ao3 x0_1.length x0_1 := (Kd.V_at (base := w.heap.size) HO_0.out).2.2
     have ql12 : (x4_2 : Int) ≤ ((ji5) : Int) := of_decide_eq_true (by assumption)
     have q012 : (0 : Int) ≤ (x4_2 : Int) := of_decide_eq_true (by assumption)
     have hcut12 := cut_mid (P := Tryd.prog) 61 22 .i64 .i64 Tryd.underlying61 hi012 1 hsz12 Ao3 x0_1.length co3 x4_2 (ji5) q012 ql12 q12 hroom12
     have hr12 := Kd.F_mid (lo := (x4_2 : Int).toNat) (hi := ((ji5) : Int).toNat) (c := co3) hC12 (by omega) (by omega) hroom12
     obtain ⟨A12, hA12⟩ : ∃ A1, A1 = (if co3 = (x4_2 : Int).toNat then Ao3 else (Ao3 : Option Addr).map (·.add ((x4_2 : Int).toNat * 1))) := ⟨_, rfl⟩
     obtain ⟨c12, hc12⟩ : ∃ c1, c1 = co3 - (x4_2 : Int).toNat := ⟨_, rfl⟩
     have hy12 : y344.length = ((ji5) : Int).toNat - (x4_2 : Int).toNat := (by rw [Ny344.out, List.length_drop, List.length_take] <;> omega)
     rw [show ((x0_1).take ((ji5) : Int).toNat).drop (x4_2 : Int).toNat = y344 from Ny344.out.symm] at hr12
     replace hr12 : Kd.F (Kd.slice 43 k43) _ _ A12 y344.length y344 := (by rw [hA12]; exact hr12)
     rw [← hy12, ← hA12, ← hc12] at hcut12
     have HO348 := Aside0.mk (show Kd.V (Kd.slice 43 k43) 22 _ w.heap.size _ (.slice A12 y344.length c12) y344 from Kd.V_mk (by rw [hy12, hc12]; exact Nat.sub_le_sub_right (Nat.le_trans (by omega) hroom12) _) hr12)
     have HC348 := Aside0.mk (show y344.length ≤ c12 from by rw [hy12, hc12]; exact Nat.sub_le_sub_right (Nat.le_trans (by omega) hroom12) _)
     clear hr12 hC12 hroom12 hi012 hsz12 hc12
     have KY12 := Aside0.mk hy12
     have KA12 := Aside0.mk hA12
     clear hy12 hA12
     replace q12 := eq_true q12
     have p349 : 0 ≤ (0 : Int) := (by omega)
     have q349 : 0 < (y344.length : Int) := of_decide_eq_true (by assumption)
     obtain ⟨ad349, A349_0, c349_0, e349, hx349_0, hl349_0, hi349_0⟩ := at_L3 (Kd.V_reads' HO348.out).2.2 0 p349 q349
     cases e349
     obtain ⟨ce349, hce349, hMe349, hcc349⟩ := Kd.V_get HO348.out [] 0 p349 (by first | exact q349 | exact of_decide_eq_true (by assumption) | (have e_ := (Kd.V_reads' HO348.out).1; omega))
     obtain ⟨ua349_0, uc349_0, rfl, ul349_0, ge349_0⟩ := Kd.FK_slice_open hMe349
     have hv349_0 := hcc349 0 _ rfl
     rw [Nat.add_zero, show ((Kd.slice 43 k43)).sz = 1 from rfl, Nat.mul_one] at hv349_0
     replace hv349_0 := Option.some.inj (hv349_0.symm.trans hx349_0)
     injection hv349_0 with hva_ hvn_ hvc_
     rw [hva_] at ge349_0
     rw [hvc_] at ul349_0
     have HL349_0 := Aside0.mk (show Kd.V k43 43 _ w.heap.size _ _ (rd_L3 y344 0) from Kd.V_mk ul349_0 ge349_0)
     clear hva_ hvn_ hvc_ ge349_0 ul349_0 hcc349 hce349
     have qi349 : (0 < y344.length) = True := eq_true (by omega)
     (try rw [show ((0 : Int)).toNat = 0 from rfl] at hx349_0)
     (try rw [Addr.add_zero'] at hx349_0)
     have HR349_0 := Aside0.mk hi349_0
     have HC349_0 := Aside0.mk hl349_0
     clear hi349_0 hl349_0
     replace p349 := eq_true p349
     replace q349 := eq_true q349
     go_wp2_with (first | ((with_reducible refine gate_builtin (b := .append) (xs := #[.tmp 26, .tmp 30]) rfl ?_); at_builtin; refine Kd.N_append (Kd.slice 43 k43) (w0 := w) w.heap.size rfl (.tmp 26) (.tmp 30) 61 22 (.slice none 0 0) 24 rfl Tryd.underlying61 info22 rfl (by decide) (by omega) u3 x3_2 (rd_L3 y344 0) [.slice A349_0 (rd_L3 y344 0).length c349_0] (fun k_ => (P0_ k_ ∨ w.heap.size ≤ k_)) (fun k_ => ((fun k_ => (P0_ k_ ∨ w.heap.size ≤ k_))) k_ ∧ some k_ ≠ (u3 : Value).ownBlock) rfl rfl ?aP (fun _ hk => hk) ?aF ?aO ?aB ?aS ?aL ?_; (case aP => exact (Kd.FK_slice_mk (Kd.V_reads' (Kd.V_mono (ok' := (fun k_ => ((fun k_ => (P0_ k_ ∨ w.heap.size ≤ k_))) k_ ∧ some k_ ≠ (u3 : Value).ownBlock)) (HL349_0.out) (fun k_ hk => ⟨hk.1, hk.2⟩))).2.1 (Kd.V_F (Kd.V_mono (ok' := (fun k_ => ((fun k_ => (P0_ k_ ∨ w.heap.size ≤ k_))) k_ ∧ some k_ ≠ (u3 : Value).ownBlock)) (HL349_0.out) (fun k_ hk => ⟨hk.1, hk.2⟩))))); (case aB => exact HB.out); (case aF => exact (fun k_ hk => (.inr (Nat.le_trans (below_size HB.out) hk)))); (case aO => exact HO_3.out); (case aS => exact (below_size HB.out)); (case aL => have := LMc11.out; omega); intro v351 w13 ho hb hg hat; rw [← Ny350.out] at ho; replace HO_0 := Aside0.mk (Kd.V_afterv (ok := (fun k_ => (P0_ k_ ∨ w.heap.size ≤ k_))) HO_0.out hg hat); replace HO348 := Aside0.mk (Kd.V_afterv (ok := (fun k_ => (P0_ k_ ∨ w.heap.size ≤ k_))) HO348.out hg hat); replace HL349_0 := Aside0.mk (Kd.V_afterv (ok := (fun k_ => (P0_ k_ ∨ w.heap.size ≤ k_))) HL349_0.out hg hat); replace HB := Aside0.mk hb; have HO352 := Aside0.mk ho; clear HO_3; clear ho hb hg hat))
     go_roundg k2
     case measure => have := HK1.out; have := HK2.out; omega
     case rel => exact ⟨(y350), (wrap64 (x4_2 + 8)), rfl, H', ⟨by have := HK1.out; have := HK2.out; omega⟩, HO_0, HO352, ⟨HB.out⟩⟩
def lang_Norm.l0 : Nat → List (List (S43)) → List (S63) → Int → Int → Option ((List (S43)) × Int)
 | 0, _, _, _, _ => none
 | k + 1, x7, x25, x26, x27 => if x27 < x26 then (if 0 ≤ x27 then (if x27 < (x25.length : Int) then ((lang_leaf_written.f k ((rd_T63 x25 x27).f0) ((rd_T63 x25 x27).f1) ((rd_T63 x25 x27).f2) ((rd_T63 x25 x27).f3) ((rd_T63 x25 x27).f4)).bind fun bt366 => (if bt366.2 = true then (if x7.length < 5864062014805 then (lang_Norm.l0 k (x7 ++ [bt366.1]) x25 x26 (wrap64 (x27 + 1))) else (none)) else (some (([] : List (S43)), 3)))) else (none)) else (none)) else ((lang_one.f k x7).bind fun t373 => (if (t373.length : Int) > 64 then (some (([] : List (S43)), 3)) else (some (t373, 0))))
def lang_Norm.f (k : Nat) (l0 : List (S43)) : Option ((List (S43)) × Int) := (lang_Check.f k l0).bind fun t359 => (if t359 = 0 then ((lang_leaves.f k l0).bind fun bt360 => (if bt360.2 = true then (lang_Norm.l0 k ([] : List (List (S43))) bt360.1 (bt360.1.length : Int) 0) else (some (([] : List (S43)), 3)))) else (some (([] : List (S43)), t359)))
set_option maxHeartbeats 8000000 in
set_option maxRecDepth 100000 in
theorem lang_Norm.calls (k : Nat) (A0 : Option Addr) (c0 : Nat) (l0 : List (S43)) (r1 : List (S43)) (r2 : Int) (w : World) (hr0 : Kd.C k43 w A0 l0.length l0) (hc0 : l0.length ≤ c0) (hmx : Mx w) (h : lang_Norm.f k l0 = some (r1, r2)) :
  Calls Tryd.prog 22 #[.slice A0 l0.length c0] w fun e w' => ∃ v0_ : Value, e = .returned (.tuple #[v0_, .int .i64 r2]) ∧ Kd.V k43 43 w' w.heap.size (fun k_ => (w.heap.size ≤ k_)) v0_ r1 ∧ Below w.heap.size w w' := by
 have HMX_ := Aside0.mk hmx
 clear hmx
 have hu63 := Tryd.underlying63
 have HR0 := Aside0.mk hr0
 have HC0 := Aside0.mk hc0
 clear hr0 hc0
 have HB := Aside0.mk (Below.refl w.heap.size w)
 have H := h
 unfold lang_Norm.f at H
 clear h
 replace H := Option.bind_eq_some_iff.mp H
 obtain ⟨t359, A20, H⟩ := H
 try dsimp only at H
 have A2 := Aside0.mk A20
 clear A20
 by_cases c3 : t359 = 0
 rotate_left
 ·
  rw [if_neg c3] at H
  have c3b0 := beq_eq_false_iff_ne.mpr c3
  have c3b1 := bne_iff_ne.mpr c3
  simp only [Option.some.injEq, Prod.mk.injEq] at H
  obtain ⟨rfl, rfl⟩ := H
  go_enter Tryd.func22, Tryd.ntmps22
  go_wp2_with (first | ((with_reducible refine gate_callee (f := 16) rfl ?_); refine goesL_ (some 14) rfl rfl Tryd.func16 (by kernel_rfl) rfl #[.slice A0 l0.length c0] rfl (mA1 rfl) ?_; (with_reducible refine (lang_Check.calls k _ _ l0 t359 _ HR0.out HC0.out (Mx.below HMX_.out HB.out) A2.out).mono ?_); rintro e w33 ⟨rfl, hb⟩; refine ⟨_, rfl, ?_⟩; replace HB := mSt HB hb; (try clear hb)))
  go_ret2
  exact ⟨_, rfl, Kd.R_V (base := 0) (by first | exact Kd.R_nil _ _ _ _ _ | exact Kd.N_nil _ _ _ _ _ | exact Kd.V_nil _ _ _ _ _ | exact Kd.Q_nil _ _ _ _ _ | exact Kd.S_nil _ _ _ _ _), HB.out⟩
 rw [if_pos c3] at H
 have c3b0 := beq_iff_eq.mpr c3
 have c3b1 := bne_eq_false_iff_eq.mpr c3
 clear c3
 replace H := Option.bind_eq_some_iff.mp H
 obtain ⟨⟨t360, t361⟩, A40, H⟩ := H
 try dsimp only at H
 have A4 := Aside0.mk A40
 clear A40
 by_cases c5 : t361 = true
 rotate_left
 ·
  replace c5 := Bool.eq_false_iff.mpr c5
  subst c5
  rw [if_neg (show ¬ (false = true) by decide)] at H
  simp only [Option.some.injEq, Prod.mk.injEq] at H
  obtain ⟨rfl, rfl⟩ := H
  go_enter Tryd.func22, Tryd.ntmps22
  go_wp2_with (first | ((with_reducible refine gate_callee (f := 16) rfl ?_); refine goesL_ (some 14) rfl rfl Tryd.func16 (by kernel_rfl) rfl #[.slice A0 l0.length c0] rfl (mA1 rfl) ?_; (with_reducible refine (lang_Check.calls k _ _ l0 t359 _ HR0.out HC0.out (Mx.below HMX_.out HB.out) A2.out).mono ?_); rintro e w31 ⟨rfl, hb⟩; refine ⟨_, rfl, ?_⟩; replace HB := mSt HB hb; (try clear hb)) | ((with_reducible refine gate_callee (f := 40) rfl ?_); refine goesL_ (some 20) rfl rfl Tryd.func40 (by kernel_rfl) rfl #[.slice A0 l0.length c0] rfl (mA1 rfl) ?_; (with_reducible refine (lang_leaves.calls k _ _ l0 t360 false _ (Kd.C_below HR0.out HB.out) HC0.out A4.out).mono ?_); rintro e w32 ⟨v362, rfl, ho0, hb⟩; refine ⟨_, rfl, ?_⟩; have HO363 := Aside0.mk (Kd.R_lower (Kd.R_newM (M := fun k_ => (w.heap.size ≤ k_)) ho0 (below_size HB.out) (fun k_ h_ => h_)) (below_size HB.out)); replace HB := mSt HB hb; (try clear hb); (try clear ho0)))
  go_ret2
  exact ⟨_, rfl, Kd.R_V (base := 0) (by first | exact Kd.R_nil _ _ _ _ _ | exact Kd.N_nil _ _ _ _ _ | exact Kd.V_nil _ _ _ _ _ | exact Kd.Q_nil _ _ _ _ _ | exact Kd.S_nil _ _ _ _ _), HB.out⟩
 subst c5
 rw [if_pos rfl] at H
 have H' := Aside0.mk H
 clear H
 go_enter Tryd.func22, Tryd.ntmps22
 go_wp2_with (first | ((with_reducible refine gate_callee (f := 16) rfl ?_); refine goesL_ (some 14) rfl rfl Tryd.func16 (by kernel_rfl) rfl #[.slice A0 l0.length c0] rfl (mA1 rfl) ?_; (with_reducible refine (lang_Check.calls k _ _ l0 t359 _ HR0.out HC0.out (Mx.below HMX_.out HB.out) A2.out).mono ?_); rintro e w6 ⟨rfl, hb⟩; refine ⟨_, rfl, ?_⟩; replace HB := mSt HB hb; (try clear hb)) | ((with_reducible refine gate_callee (f := 40) rfl ?_); refine goesL_ (some 20) rfl rfl Tryd.func40 (by kernel_rfl) rfl #[.slice A0 l0.length c0] rfl (mA1 rfl) ?_; (with_reducible refine (lang_leaves.calls k _ _ l0 t360 true _ (Kd.C_below HR0.out HB.out) HC0.out A4.out).mono ?_); rintro e w7 ⟨v362, rfl, ho0, hb⟩; refine ⟨_, rfl, ?_⟩; have HO363 := Aside0.mk (Kd.R_lower (Kd.R_newM (M := fun k_ => (w.heap.size ≤ k_)) ho0 (below_size HB.out) (fun k_ h_ => h_)) (below_size HB.out)); replace HB := mSt HB hb; (try clear hb); (try clear ho0); obtain ⟨Ao8, co8, eo8⟩ := Kd.R_slice HO363.out; subst eo8))
 go_loopg [7, 27] k (fun kq v7 v27 w' => ∃ (x7_1 : List (List (S43))) (x27_1 : Int), v27 = .int .i64 x27_1 ∧ Aside0 (lang_Norm.l0 kq x7_1 t360 (t360.length : Int) x27_1 = some (r1, r2)) ∧ Aside0 (kq ≤ k) ∧ Aside0 (Kd.S (Kd.slice 43 k43) 22 w' w.heap.size (fun k_ => (w.heap.size ≤ k_)) v7 x7_1) ∧ Aside0 (Kd.R k63 63 w' w.heap.size (fun k_ => (w.heap.size ≤ k_)) (.slice Ao8 t360.length co8) t360) ∧ Aside0 (Below w.heap.size w w'))
 case atStart => exact ⟨(([] : List (List (S43)))), (0), rfl, H', ⟨Nat.le_refl _⟩, ⟨by first | exact Kd.S_nil _ _ _ _ _ | exact Kd.N_nil _ _ _ _ _ | exact Kd.V_nil _ _ _ _ _ | exact Kd.Q_nil _ _ _ _ _ | exact Kd.R_nil _ _ _ _ _⟩, ⟨Kd.R_mono HO363.out (fun _ hk => hk.1)⟩, ⟨HB.out⟩⟩
 case round =>
  clear H'
  try clear c1; try clear c2; try clear p2; try clear c3; try clear c3b0; try clear c3b1; try clear c4; try clear c5
  obtain ⟨x7_1, x27_1, rfl, HA, HK1, HO_7, HO_25, HB⟩ := hrel
  cases gk with
  | zero => exact absurd HA.out (by simp [lang_Norm.l0])
  | succ k1 =>
   have H := HA.out
   clear HA
   simp only [lang_Norm.l0] at H
   by_cases c9 : x27_1 < (t360.length : Int)
   rotate_left
   ·
    rw [if_neg c9] at H
    have c9b0 := decide_eq_false c9
    clear c9
    replace H := Option.bind_eq_some_iff.mp H
    obtain ⟨t373, A230, H⟩ := H
    try dsimp only at H
    have A23 := Aside0.mk A230
    clear A230
    by_cases c24 : (t373.length : Int) > 64
    rotate_left
    ·
     rw [if_neg c24] at H
     have c24b0 := decide_eq_false c24
     have c24b1 : decide (64 < t373.length) = false := decide_eq_false (by omega)
     clear c24
     simp only [Option.some.injEq, Prod.mk.injEq] at H
     obtain ⟨rfl, rfl⟩ := H
     obtain ⟨Ao28, co28, eo28⟩ := Kd.S_slice HO_7.out
     subst eo28
     go_wp2_with (first | ((with_reducible refine gate_callee (f := 42) rfl ?_); refine goesL_ (some 44) rfl rfl Tryd.func42 (by kernel_rfl) rfl #[.slice Ao28 x7_1.length co28] rfl (mA1 rfl) ?_; (with_reducible refine (lang_one.calls k1 (fun k_ => ((w.heap.size ≤ k_) ∧ some k_ ≠ (.slice Ao8 t360.length co8 : Value).ownBlock)) _ _ x7_1 t373 _ (Kd.S_V (Kd.S_apart' (HO_7.out) (Kd.R_typed HO_25.out) (by decide))) A23.out).mono ?_); rintro e w29 ⟨v374, rfl, ho0, hb⟩; refine ⟨_, rfl, ?_⟩; replace HO_7 := Aside0.mk (Kd.S_below HO_7.out hb); have HO375 := Aside0.mk (Kd.V_lower (Kd.V_mono (ok' := fun k_ => (w.heap.size ≤ k_) ∧ some k_ ≠ (.slice Ao8 t360.length co8 : Value).ownBlock) ho0 (fun k_ hk_ => ⟨Or.elim hk_ (fun hs_ => hs_.1) (fun hn_ => (Nat.le_trans (below_size HB.out) hn_)), Or.elim hk_ (fun hs_ => hs_.2) (fun hn_ => (Kd.fresh' (Kd.R_lt HO_25.out) k_ hn_))⟩)) (below_size HB.out)); replace HO_25 := Aside0.mk (Kd.R_below HO_25.out hb); replace HB := mSt HB hb; (try clear hb); (try clear ho0); obtain ⟨Ao30, co30, eo30⟩ := Kd.V_slice HO375.out; subst eo30))
     go_ret2
     exact ⟨_, rfl, by (with_reducible repeat (first | apply Kd.V_alloc | apply Kd.V_drewN | apply Kd.V_drew)); exact Kd.V_mono HO375.out (fun _ hk => hk.1), HB.out⟩
    rw [if_pos c24] at H
    have c24b0 := decide_eq_true c24
    have c24b1 : decide (64 < t373.length) = true := decide_eq_true (by omega)
    clear c24
    simp only [Option.some.injEq, Prod.mk.injEq] at H
    obtain ⟨rfl, rfl⟩ := H
    obtain ⟨Ao25, co25, eo25⟩ := Kd.S_slice HO_7.out
    subst eo25
    go_wp2_with (first | ((with_reducible refine gate_callee (f := 42) rfl ?_); refine goesL_ (some 44) rfl rfl Tryd.func42 (by kernel_rfl) rfl #[.slice Ao25 x7_1.length co25] rfl (mA1 rfl) ?_; (with_reducible refine (lang_one.calls k1 (fun k_ => ((w.heap.size ≤ k_) ∧ some k_ ≠ (.slice Ao8 t360.length co8 : Value).ownBlock)) _ _ x7_1 t373 _ (Kd.S_V (Kd.S_apart' (HO_7.out) (Kd.R_typed HO_25.out) (by decide))) A23.out).mono ?_); rintro e w26 ⟨v374, rfl, ho0, hb⟩; refine ⟨_, rfl, ?_⟩; replace HO_7 := Aside0.mk (Kd.S_below HO_7.out hb); have HO375 := Aside0.mk (Kd.V_lower (Kd.V_mono (ok' := fun k_ => (w.heap.size ≤ k_) ∧ some k_ ≠ (.slice Ao8 t360.length co8 : Value).ownBlock) ho0 (fun k_ hk_ => ⟨Or.elim hk_ (fun hs_ => hs_.1) (fun hn_ => (Nat.le_trans (below_size HB.out) hn_)), Or.elim hk_ (fun hs_ => hs_.2) (fun hn_ => (Kd.fresh' (Kd.R_lt HO_25.out) k_ hn_))⟩)) (below_size HB.out)); replace HO_25 := Aside0.mk (Kd.R_below HO_25.out hb); replace HB := mSt HB hb; (try clear hb); (try clear ho0); obtain ⟨Ao27, co27, eo27⟩ := Kd.V_slice HO375.out; subst eo27))
    go_ret2
    exact ⟨_, rfl, Kd.R_V (base := 0) (by first | exact Kd.R_nil _ _ _ _ _ | exact Kd.N_nil _ _ _ _ _ | exact Kd.V_nil _ _ _ _ _ | exact Kd.Q_nil _ _ _ _ _ | exact Kd.S_nil _ _ _ _ _), HB.out⟩
   rw [if_pos c9] at H
   have c9b0 := decide_eq_true c9
   clear c9
   obtain ⟨c10, H⟩ : (0 ≤ x27_1) ∧ _ := mIf H
   have c10b0 := decide_eq_true c10
   clear c10
   obtain ⟨c11, H⟩ : (x27_1 < (t360.length : Int)) ∧ _ := mIf H
   have c11b0 := decide_eq_true c11
   clear c11
   replace H := Option.bind_eq_some_iff.mp H
   obtain ⟨⟨t366, t369⟩, A120, H⟩ := H
   try dsimp only at H
   have A12 := Aside0.mk A120
   clear A120
   by_cases c13 : t369 = true
   rotate_left
   ·
    replace c13 := Bool.eq_false_iff.mpr c13
    subst c13
    rw [if_neg (show ¬ (false = true) by decide)] at H
    simp only [Option.some.injEq, Prod.mk.injEq] at H
    obtain ⟨rfl, rfl⟩ := H
    have p364 : 0 ≤ (x27_1 : Int) := of_decide_eq_true (by assumption)
    have q364 : x27_1 < (t360.length : Int) := of_decide_eq_true (by assumption)
    obtain ⟨ad364, e364, hx364_0, hx364_1, hx364_2, hx364_3, hx364_4⟩ := at_T63 (Kd.R_reads' HO_25.out).2.2 x27_1 p364 q364
    cases e364
    replace p364 := eq_true p364
    replace q364 := eq_true q364
    go_wp2_with (first | ((with_reducible refine gate_dst (N := 9) rfl ?_); refine box_event rfl (N := 9) rfl (cs := #[.string (⟨#[]⟩ : ByteArray), .int .i64 0, .bool false, .bool false, .int .i64 0]) (t := 63) (by first | (go_simp; done) | (go_simp; rfl)) ?_; intro gb1 hg w20 hbox hb; replace HO_7 := Aside0.mk (Kd.S_below HO_7.out hb); replace HO_25 := Aside0.mk (Kd.R_below (Kd.R_elderB (rO HO_25) gb1 (Nat.le_of_eq hg.symm)) hb); have BK1 := Aside0.mk hbox; have GW1 := Aside0.mk ((by rw [hg]; exact (below_size (hO HB)) : w.heap.size ≤ gb1)); have GE1 := GW1; replace HB := mSx HB hb; clear hb hbox hg; have hcz21 := blk_cell BK1.out; have hfz21 := blk_frozen BK1.out) | ((with_reducible refine gate_callee (f := 41) rfl ?_); refine goesL_ (some 33) rfl rfl Tryd.func41 (by kernel_rfl) rfl #[.agg #[.string ((rd_T63 t360 x27_1).f0), .int .i64 ((rd_T63 t360 x27_1).f1), .bool ((rd_T63 t360 x27_1).f2), .bool ((rd_T63 t360 x27_1).f3), .int .i64 ((rd_T63 t360 x27_1).f4)]] rfl (mA1 rfl) ?_; (with_reducible refine (lang_leaf_written.calls k1 ((rd_T63 t360 x27_1).f0) ((rd_T63 t360 x27_1).f1) ((rd_T63 t360 x27_1).f2) ((rd_T63 t360 x27_1).f3) ((rd_T63 t360 x27_1).f4) t366 false _ A12.out).mono ?_); rintro e w22 ⟨v367, rfl, ho0, hb⟩; refine ⟨_, rfl, ?_⟩; replace HO_7 := Aside0.mk (Kd.S_elder' (by (with_reducible repeat (first | apply Kd.S_alloc | apply Kd.S_drewN | apply Kd.S_drew)); exact (Kd.S_mono (Kd.S_far (p := ⟨gb1, 4, none⟩) (Kd.S_far (p := ⟨gb1, 3, none⟩) (Kd.S_far (p := ⟨gb1, 2, none⟩) (Kd.S_far (p := ⟨gb1, 1, none⟩) (Kd.S_far (p := ⟨gb1, 0, none⟩) (Kd.S_types HO_7.out BK1.out (by decide)) (fun _ hk => hk.2) (.string ((rd_T63 t360 x27_1).f0))) (fun _ hk => hk.2) (.int .i64 ((rd_T63 t360 x27_1).f1))) (fun _ hk => hk.2) (.bool ((rd_T63 t360 x27_1).f2))) (fun _ hk => hk.2) (.bool ((rd_T63 t360 x27_1).f3))) (fun _ hk => hk.2) (.int .i64 ((rd_T63 t360 x27_1).f4))) (fun _ h_ => h_.1))) (Kd.R_base ho0) hb); replace HO_25 := Aside0.mk (Kd.R_below (by exact (Kd.R_mono (Kd.R_far (p := ⟨gb1, 4, none⟩) (Kd.R_far (p := ⟨gb1, 3, none⟩) (Kd.R_far (p := ⟨gb1, 2, none⟩) (Kd.R_far (p := ⟨gb1, 1, none⟩) (Kd.R_far (p := ⟨gb1, 0, none⟩) (Kd.R_mono HO_25.out (fun k_ hk => (⟨hk, hk.2⟩ : _ ∧ k_ ≠ gb1))) (fun _ hk => hk.2) (.string ((rd_T63 t360 x27_1).f0))) (fun _ hk => hk.2) (.int .i64 ((rd_T63 t360 x27_1).f1))) (fun _ hk => hk.2) (.bool ((rd_T63 t360 x27_1).f2))) (fun _ hk => hk.2) (.bool ((rd_T63 t360 x27_1).f3))) (fun _ hk => hk.2) (.int .i64 ((rd_T63 t360 x27_1).f4))) (fun _ h_ => h_.1))) hb); have HO368 := Aside0.mk (Kd.R_lower (Kd.R_newM (M := fun k_ => (w.heap.size ≤ k_)) ho0 (below_size (hO HB)) (fun k_ h_ => h_)) (below_size (hO HB))); replace BK1 := Aside0.mk (blk_below (g := gb1) (o := .cells #[.string ((rd_T63 t360 x27_1).f0), .int .i64 ((rd_T63 t360 x27_1).f1), .bool ((rd_T63 t360 x27_1).f2), .bool ((rd_T63 t360 x27_1).f3), .int .i64 ((rd_T63 t360 x27_1).f4)] 63 (0, 0)) (by refine blk_put (cs := #[.string ((rd_T63 t360 x27_1).f0), .int .i64 ((rd_T63 t360 x27_1).f1), .bool ((rd_T63 t360 x27_1).f2), .bool ((rd_T63 t360 x27_1).f3), .int .i64 0]) ?_ 4 _ rfl; refine blk_put (cs := #[.string ((rd_T63 t360 x27_1).f0), .int .i64 ((rd_T63 t360 x27_1).f1), .bool ((rd_T63 t360 x27_1).f2), .bool false, .int .i64 0]) ?_ 3 _ rfl; refine blk_put (cs := #[.string ((rd_T63 t360 x27_1).f0), .int .i64 ((rd_T63 t360 x27_1).f1), .bool false, .bool false, .int .i64 0]) ?_ 2 _ rfl; refine blk_put (cs := #[.string ((rd_T63 t360 x27_1).f0), .int .i64 0, .bool false, .bool false, .int .i64 0]) ?_ 1 _ rfl; refine blk_put (cs := #[.string (⟨#[]⟩ : ByteArray), .int .i64 0, .bool false, .bool false, .int .i64 0]) ?_ 0 _ rfl; exact BK1.out) hb); replace HB := mSx HB hb; (try clear hb); (try clear ho0)))
    go_ret2
    exact ⟨_, rfl, Kd.R_V (base := 0) (by first | exact Kd.R_nil _ _ _ _ _ | exact Kd.N_nil _ _ _ _ _ | exact Kd.V_nil _ _ _ _ _ | exact Kd.Q_nil _ _ _ _ _ | exact Kd.S_nil _ _ _ _ _), HB.out⟩
   subst c13
   rw [if_pos rfl] at H
   obtain ⟨c14, H⟩ : (x7_1.length < 5864062014805) ∧ _ := mIf H
   have LMc14 := Aside0.mk c14
   clear c14
   obtain ⟨y370, hy370⟩ : ∃ y_ : List (List (S43)), y_ = (x7_1 ++ [t366]) := ⟨_, rfl⟩
   rw [← hy370] at H
   have Ny370 := Aside0.mk hy370
   clear hy370
   have H' := Aside0.mk H
   clear H
   have p364 : 0 ≤ (x27_1 : Int) := of_decide_eq_true (by assumption)
   have q364 : x27_1 < (t360.length : Int) := of_decide_eq_true (by assumption)
   obtain ⟨ad364, e364, hx364_0, hx364_1, hx364_2, hx364_3, hx364_4⟩ := at_T63 (Kd.R_reads' HO_25.out).2.2 x27_1 p364 q364
   cases e364
   replace p364 := eq_true p364
   replace q364 := eq_true q364
   go_wp2_with (first | ((with_reducible refine gate_dst (N := 9) rfl ?_); refine box_event rfl (N := 9) rfl (cs := #[.string (⟨#[]⟩ : ByteArray), .int .i64 0, .bool false, .bool false, .int .i64 0]) (t := 63) (by first | (go_simp; done) | (go_simp; rfl)) ?_; intro gb1 hg w15 hbox hb; replace HO_7 := Aside0.mk (Kd.S_below HO_7.out hb); replace HO_25 := Aside0.mk (Kd.R_below (Kd.R_elderB (rO HO_25) gb1 (Nat.le_of_eq hg.symm)) hb); have BK1 := Aside0.mk hbox; have GW1 := Aside0.mk ((by rw [hg]; exact (below_size (hO HB)) : w.heap.size ≤ gb1)); have GE1 := GW1; replace HB := mSx HB hb; clear hb hbox hg; have hcz16 := blk_cell BK1.out; have hfz16 := blk_frozen BK1.out) | ((with_reducible refine gate_callee (f := 41) rfl ?_); refine goesL_ (some 33) rfl rfl Tryd.func41 (by kernel_rfl) rfl #[.agg #[.string ((rd_T63 t360 x27_1).f0), .int .i64 ((rd_T63 t360 x27_1).f1), .bool ((rd_T63 t360 x27_1).f2), .bool ((rd_T63 t360 x27_1).f3), .int .i64 ((rd_T63 t360 x27_1).f4)]] rfl (mA1 rfl) ?_; (with_reducible refine (lang_leaf_written.calls k1 ((rd_T63 t360 x27_1).f0) ((rd_T63 t360 x27_1).f1) ((rd_T63 t360 x27_1).f2) ((rd_T63 t360 x27_1).f3) ((rd_T63 t360 x27_1).f4) t366 true _ A12.out).mono ?_); rintro e w17 ⟨v367, rfl, ho0, hb⟩; refine ⟨_, rfl, ?_⟩; replace HO_7 := Aside0.mk (Kd.S_elder' (by (with_reducible repeat (first | apply Kd.S_alloc | apply Kd.S_drewN | apply Kd.S_drew)); exact (Kd.S_mono (Kd.S_far (p := ⟨gb1, 4, none⟩) (Kd.S_far (p := ⟨gb1, 3, none⟩) (Kd.S_far (p := ⟨gb1, 2, none⟩) (Kd.S_far (p := ⟨gb1, 1, none⟩) (Kd.S_far (p := ⟨gb1, 0, none⟩) (Kd.S_types HO_7.out BK1.out (by decide)) (fun _ hk => hk.2) (.string ((rd_T63 t360 x27_1).f0))) (fun _ hk => hk.2) (.int .i64 ((rd_T63 t360 x27_1).f1))) (fun _ hk => hk.2) (.bool ((rd_T63 t360 x27_1).f2))) (fun _ hk => hk.2) (.bool ((rd_T63 t360 x27_1).f3))) (fun _ hk => hk.2) (.int .i64 ((rd_T63 t360 x27_1).f4))) (fun _ h_ => h_.1))) (Kd.R_base ho0) hb); replace HO_25 := Aside0.mk (Kd.R_below (by exact (Kd.R_mono (Kd.R_far (p := ⟨gb1, 4, none⟩) (Kd.R_far (p := ⟨gb1, 3, none⟩) (Kd.R_far (p := ⟨gb1, 2, none⟩) (Kd.R_far (p := ⟨gb1, 1, none⟩) (Kd.R_far (p := ⟨gb1, 0, none⟩) (Kd.R_mono HO_25.out (fun k_ hk => (⟨hk, hk.2⟩ : _ ∧ k_ ≠ gb1))) (fun _ hk => hk.2) (.string ((rd_T63 t360 x27_1).f0))) (fun _ hk => hk.2) (.int .i64 ((rd_T63 t360 x27_1).f1))) (fun _ hk => hk.2) (.bool ((rd_T63 t360 x27_1).f2))) (fun _ hk => hk.2) (.bool ((rd_T63 t360 x27_1).f3))) (fun _ hk => hk.2) (.int .i64 ((rd_T63 t360 x27_1).f4))) (fun _ h_ => h_.1))) hb); have HO368 := Aside0.mk (Kd.R_lower (Kd.R_newM (M := fun k_ => (w.heap.size ≤ k_)) ho0 (below_size (hO HB)) (fun k_ h_ => h_)) (below_size (hO HB))); replace BK1 := Aside0.mk (blk_below (g := gb1) (o := .cells #[.string ((rd_T63 t360 x27_1).f0), .int .i64 ((rd_T63 t360 x27_1).f1), .bool ((rd_T63 t360 x27_1).f2), .bool ((rd_T63 t360 x27_1).f3), .int .i64 ((rd_T63 t360 x27_1).f4)] 63 (0, 0)) (by refine blk_put (cs := #[.string ((rd_T63 t360 x27_1).f0), .int .i64 ((rd_T63 t360 x27_1).f1), .bool ((rd_T63 t360 x27_1).f2), .bool ((rd_T63 t360 x27_1).f3), .int .i64 0]) ?_ 4 _ rfl; refine blk_put (cs := #[.string ((rd_T63 t360 x27_1).f0), .int .i64 ((rd_T63 t360 x27_1).f1), .bool ((rd_T63 t360 x27_1).f2), .bool false, .int .i64 0]) ?_ 3 _ rfl; refine blk_put (cs := #[.string ((rd_T63 t360 x27_1).f0), .int .i64 ((rd_T63 t360 x27_1).f1), .bool false, .bool false, .int .i64 0]) ?_ 2 _ rfl; refine blk_put (cs := #[.string ((rd_T63 t360 x27_1).f0), .int .i64 0, .bool false, .bool false, .int .i64 0]) ?_ 1 _ rfl; refine blk_put (cs := #[.string (⟨#[]⟩ : ByteArray), .int .i64 0, .bool false, .bool false, .int .i64 0]) ?_ 0 _ rfl; exact BK1.out) hb); replace HB := mSx HB hb; (try clear hb); (try clear ho0); obtain ⟨Ao19, co19, eo19⟩ := Kd.R_slice HO368.out; subst eo19) | ((with_reducible refine gate_builtin (b := .append) (xs := #[.tmp 38, .tmp 40]) rfl ?_); at_builtin; refine Kd.S_append (Kd.slice 43 k43) (w0 := w) w.heap.size rfl (.tmp 38) (.tmp 40) 61 22 (.slice none 0 0) 24 rfl Tryd.underlying61 info22 rfl (by decide) (by omega) u7 x7_1 t366 [.slice Ao19 t366.length co19] (fun k_ => (w.heap.size ≤ k_)) (fun k_ => some k_ = (.slice Ao19 t366.length co19 : Value).ownBlock) rfl rfl ?aP (fun k_ hk_ => ((Kd.R_mono (ok' := fun k_ => ((fun k_ => (w.heap.size ≤ k_))) k_ ∧ some k_ ≠ (u7 : Value).ownBlock) (Kd.R_apart' (HO368.out) (Kd.S_typed HO_7.out) (by decide)) (fun k_ hk => ⟨hk.1.1, hk.2⟩))).1 k_ hk_.symm) ?aF ?aO ?aB ?aS ?aL ?_; (case aP => exact Kd.M_row (Kd.R_mono (Kd.R_tight rfl (Kd.R_mono (ok' := fun k_ => ((fun k_ => (w.heap.size ≤ k_))) k_ ∧ some k_ ≠ (u7 : Value).ownBlock) (Kd.R_apart' (HO368.out) (Kd.S_typed HO_7.out) (by decide)) (fun k_ hk => ⟨hk.1.1, hk.2⟩))) (fun _ h_ => h_))); (case aB => exact (hO HB)); (case aF => exact (fun k_ hk => (Nat.le_trans (below_size (hO HB)) hk))); (case aO => exact (by (with_reducible repeat (first | apply Kd.S_alloc | apply Kd.S_drewN | apply Kd.S_drew)); exact Kd.S_mono HO_7.out (fun k_ hk => ⟨hk.1, fun e_ => hk.2 e_⟩))); (case aS => exact (below_size (hO HB))); (case aL => have := LMc14.out; omega); intro v371 w18 ho hb hg hat; rw [← Ny370.out] at ho; replace HO_25 := Aside0.mk (Kd.R_over' (rO HO_25) (Kd.S_typed HO_7.out) (by decide) hg); replace BK1 := Aside0.mk (blk_grown (g := gb1) (o := .cells #[.string ((rd_T63 t360 x27_1).f0), .int .i64 ((rd_T63 t360 x27_1).f1), .bool ((rd_T63 t360 x27_1).f2), .bool ((rd_T63 t360 x27_1).f3), .int .i64 ((rd_T63 t360 x27_1).f4)] 63 (0, 0)) BK1.out hg (Kd.S_ne HO_7.out BK1.out (by decide))); replace HB := Aside0.mk hb; have HO372 := Aside0.mk ho; clear HO_7 HO368; clear ho hb hg hat))
   go_roundg k1
   case measure => have := HK1.out; omega
   case rel => exact ⟨(y370), (wrap64 (x27_1 + 1)), rfl, H', ⟨by have := HK1.out; omega⟩, HO372, ⟨Kd.R_mono HO_25.out (fun _ hk => hk.1)⟩, ⟨HB.out⟩⟩
def dancestudiolaw35_norm.f (k : Nat) (a0 : ByteArray) (a1 : ByteArray) : Option (Bool) := (lang_Parse.f k a0).bind fun bt376 => ((lang_Norm.f k bt376.1).bind fun bt380 => ((lang_Print.f k bt380.1).bind fun bt384 => (if bt376.2 = 0 then (if bt380.2 = 0 then (if bt384.2 = 0 then (some (bt384.1.toList == a1.toList)) else (some false)) else (some false)) else (some false))))
set_option maxHeartbeats 8000000 in
set_option maxRecDepth 100000 in
theorem dancestudiolaw35_norm.calls (k : Nat) (a0 : ByteArray) (a1 : ByteArray) (r : Bool) (w : World) (hmx : Mx w) (h : dancestudiolaw35_norm.f k a0 a1 = some r) :
  Calls Tryd.prog 29 #[.string a0, .string a1] w fun e w' => e = .returned (.bool r) ∧ Below w.heap.size w w' := by
 have HMX_ := Aside0.mk hmx
 clear hmx
 have HB := Aside0.mk (Below.refl w.heap.size w)
 have H := h
 unfold dancestudiolaw35_norm.f at H
 clear h
 replace H := Option.bind_eq_some_iff.mp H
 obtain ⟨⟨t376, t377⟩, A30, H⟩ := H
 try dsimp only at H
 have A3 := Aside0.mk A30
 clear A30
 replace H := Option.bind_eq_some_iff.mp H
 obtain ⟨⟨t380, t383⟩, A40, H⟩ := H
 try dsimp only at H
 have A4 := Aside0.mk A40
 clear A40
 replace H := Option.bind_eq_some_iff.mp H
 obtain ⟨⟨t384, t385⟩, A50, H⟩ := H
 try dsimp only at H
 have A5 := Aside0.mk A50
 clear A50
 by_cases c6 : t377 = 0
 rotate_left
 ·
  rw [if_neg c6] at H
  have c6b0 := beq_eq_false_iff_ne.mpr c6
  have c6b1 := bne_iff_ne.mpr c6
  obtain rfl := Option.some.inj H
  go_enter Tryd.func29, Tryd.ntmps29
  go_wp2_with (first | ((with_reducible refine gate_callee (f := 19) rfl ?_); refine goesL_ (some 13) rfl rfl Tryd.func19 (by kernel_rfl) rfl #[.string a0] rfl (mA1 rfl) ?_; (with_reducible refine (lang_Parse.calls k a0 t376 t377 _ (Mx.below HMX_.out HB.out) A3.out).mono ?_); rintro e w24 ⟨v378, rfl, ho0, hb⟩; refine ⟨_, rfl, ?_⟩; have HO379 := Aside0.mk (Kd.R_lower ho0 (below_size HB.out)); replace HB := mSt HB hb; (try clear hb); (try clear ho0); obtain ⟨Ao25, co25, eo25⟩ := Kd.R_slice HO379.out; subst eo25) | ((with_reducible refine gate_callee (f := 22) rfl ?_); refine goesL_ (some 18) rfl rfl Tryd.func22 (by kernel_rfl) rfl #[.slice Ao25 t376.length co25] rfl (mA1 rfl) ?_; (with_reducible refine (lang_Norm.calls k _ _ t376 t380 t383 _ ((Kd.R_reads' HO379.out).2.2) ((Kd.R_reads' HO379.out).2.1) (Mx.below HMX_.out HB.out) A4.out).mono ?_); rintro e w26 ⟨v381, rfl, ho0, hb⟩; refine ⟨_, rfl, ?_⟩; have HO382 := Aside0.mk (Kd.V_lower (Kd.V_mono (ok' := fun k_ => some k_ ≠ (.slice Ao25 t376.length co25 : Value).ownBlock) ho0 (fun k_ hk_ => (Kd.fresh' (Kd.R_lt HO379.out) k_ hk_))) (below_size HB.out)); replace HO379 := Aside0.mk (Kd.R_below HO379.out hb); replace HB := mSt HB hb; (try clear hb); (try clear ho0); obtain ⟨Ao27, co27, eo27⟩ := Kd.V_slice HO382.out; subst eo27) | ((with_reducible refine gate_callee (f := 12) rfl ?_); refine goesL_ (some 23) rfl rfl Tryd.func12 (by kernel_rfl) rfl #[.slice Ao27 t380.length co27] rfl (mA1 rfl) ?_; (with_reducible refine (lang_Print.calls k _ _ t380 t384 t385 _ ((Kd.V_reads' HO382.out).2.2) ((Kd.V_reads' HO382.out).2.1) (Mx.below HMX_.out HB.out) A5.out).mono ?_); rintro e w28 ⟨rfl, hb⟩; refine ⟨_, rfl, ?_⟩; replace HO379 := Aside0.mk (Kd.R_below HO379.out hb); replace HO382 := Aside0.mk (Kd.V_below HO382.out hb); replace HB := mSt HB hb; (try clear hb)))
  go_ret
  exact ⟨rfl, HB.out⟩
 rw [if_pos c6] at H
 have c6b0 := beq_iff_eq.mpr c6
 have c6b1 := bne_eq_false_iff_eq.mpr c6
 clear c6
 by_cases c7 : t383 = 0
 rotate_left
 ·
  rw [if_neg c7] at H
  have c7b0 := beq_eq_false_iff_ne.mpr c7
  have c7b1 := bne_iff_ne.mpr c7
  obtain rfl := Option.some.inj H
  go_enter Tryd.func29, Tryd.ntmps29
  go_wp2_with (first | ((with_reducible refine gate_callee (f := 19) rfl ?_); refine goesL_ (some 13) rfl rfl Tryd.func19 (by kernel_rfl) rfl #[.string a0] rfl (mA1 rfl) ?_; (with_reducible refine (lang_Parse.calls k a0 t376 t377 _ (Mx.below HMX_.out HB.out) A3.out).mono ?_); rintro e w19 ⟨v378, rfl, ho0, hb⟩; refine ⟨_, rfl, ?_⟩; have HO379 := Aside0.mk (Kd.R_lower ho0 (below_size HB.out)); replace HB := mSt HB hb; (try clear hb); (try clear ho0); obtain ⟨Ao20, co20, eo20⟩ := Kd.R_slice HO379.out; subst eo20) | ((with_reducible refine gate_callee (f := 22) rfl ?_); refine goesL_ (some 18) rfl rfl Tryd.func22 (by kernel_rfl) rfl #[.slice Ao20 t376.length co20] rfl (mA1 rfl) ?_; (with_reducible refine (lang_Norm.calls k _ _ t376 t380 t383 _ ((Kd.R_reads' HO379.out).2.2) ((Kd.R_reads' HO379.out).2.1) (Mx.below HMX_.out HB.out) A4.out).mono ?_); rintro e w21 ⟨v381, rfl, ho0, hb⟩; refine ⟨_, rfl, ?_⟩; have HO382 := Aside0.mk (Kd.V_lower (Kd.V_mono (ok' := fun k_ => some k_ ≠ (.slice Ao20 t376.length co20 : Value).ownBlock) ho0 (fun k_ hk_ => (Kd.fresh' (Kd.R_lt HO379.out) k_ hk_))) (below_size HB.out)); replace HO379 := Aside0.mk (Kd.R_below HO379.out hb); replace HB := mSt HB hb; (try clear hb); (try clear ho0); obtain ⟨Ao22, co22, eo22⟩ := Kd.V_slice HO382.out; subst eo22) | ((with_reducible refine gate_callee (f := 12) rfl ?_); refine goesL_ (some 23) rfl rfl Tryd.func12 (by kernel_rfl) rfl #[.slice Ao22 t380.length co22] rfl (mA1 rfl) ?_; (with_reducible refine (lang_Print.calls k _ _ t380 t384 t385 _ ((Kd.V_reads' HO382.out).2.2) ((Kd.V_reads' HO382.out).2.1) (Mx.below HMX_.out HB.out) A5.out).mono ?_); rintro e w23 ⟨rfl, hb⟩; refine ⟨_, rfl, ?_⟩; replace HO379 := Aside0.mk (Kd.R_below HO379.out hb); replace HO382 := Aside0.mk (Kd.V_below HO382.out hb); replace HB := mSt HB hb; (try clear hb)))
  go_ret
  exact ⟨rfl, HB.out⟩
 rw [if_pos c7] at H
 have c7b0 := beq_iff_eq.mpr c7
 have c7b1 := bne_eq_false_iff_eq.mpr c7
 clear c7
 by_cases c8 : t385 = 0
 rotate_left
 ·
  rw [if_neg c8] at H
  have c8b0 := beq_eq_false_iff_ne.mpr c8
  have c8b1 := bne_iff_ne.mpr c8
  obtain rfl := Option.some.inj H
  go_enter Tryd.func29, Tryd.ntmps29
  go_wp2_with (first | ((with_reducible refine gate_callee (f := 19) rfl ?_); refine goesL_ (some 13) rfl rfl Tryd.func19 (by kernel_rfl) rfl #[.string a0] rfl (mA1 rfl) ?_; (with_reducible refine (lang_Parse.calls k a0 t376 t377 _ (Mx.below HMX_.out HB.out) A3.out).mono ?_); rintro e w14 ⟨v378, rfl, ho0, hb⟩; refine ⟨_, rfl, ?_⟩; have HO379 := Aside0.mk (Kd.R_lower ho0 (below_size HB.out)); replace HB := mSt HB hb; (try clear hb); (try clear ho0); obtain ⟨Ao15, co15, eo15⟩ := Kd.R_slice HO379.out; subst eo15) | ((with_reducible refine gate_callee (f := 22) rfl ?_); refine goesL_ (some 18) rfl rfl Tryd.func22 (by kernel_rfl) rfl #[.slice Ao15 t376.length co15] rfl (mA1 rfl) ?_; (with_reducible refine (lang_Norm.calls k _ _ t376 t380 t383 _ ((Kd.R_reads' HO379.out).2.2) ((Kd.R_reads' HO379.out).2.1) (Mx.below HMX_.out HB.out) A4.out).mono ?_); rintro e w16 ⟨v381, rfl, ho0, hb⟩; refine ⟨_, rfl, ?_⟩; have HO382 := Aside0.mk (Kd.V_lower (Kd.V_mono (ok' := fun k_ => some k_ ≠ (.slice Ao15 t376.length co15 : Value).ownBlock) ho0 (fun k_ hk_ => (Kd.fresh' (Kd.R_lt HO379.out) k_ hk_))) (below_size HB.out)); replace HO379 := Aside0.mk (Kd.R_below HO379.out hb); replace HB := mSt HB hb; (try clear hb); (try clear ho0); obtain ⟨Ao17, co17, eo17⟩ := Kd.V_slice HO382.out; subst eo17) | ((with_reducible refine gate_callee (f := 12) rfl ?_); refine goesL_ (some 23) rfl rfl Tryd.func12 (by kernel_rfl) rfl #[.slice Ao17 t380.length co17] rfl (mA1 rfl) ?_; (with_reducible refine (lang_Print.calls k _ _ t380 t384 t385 _ ((Kd.V_reads' HO382.out).2.2) ((Kd.V_reads' HO382.out).2.1) (Mx.below HMX_.out HB.out) A5.out).mono ?_); rintro e w18 ⟨rfl, hb⟩; refine ⟨_, rfl, ?_⟩; replace HO379 := Aside0.mk (Kd.R_below HO379.out hb); replace HO382 := Aside0.mk (Kd.V_below HO382.out hb); replace HB := mSt HB hb; (try clear hb)))
  go_ret
  exact ⟨rfl, HB.out⟩
 rw [if_pos c8] at H
 have c8b0 := beq_iff_eq.mpr c8
 have c8b1 := bne_eq_false_iff_eq.mpr c8
 clear c8
 obtain rfl := Option.some.inj H
 go_enter Tryd.func29, Tryd.ntmps29
 go_wp2_with (first | ((with_reducible refine gate_callee (f := 19) rfl ?_); refine goesL_ (some 13) rfl rfl Tryd.func19 (by kernel_rfl) rfl #[.string a0] rfl (mA1 rfl) ?_; (with_reducible refine (lang_Parse.calls k a0 t376 t377 _ (Mx.below HMX_.out HB.out) A3.out).mono ?_); rintro e w9 ⟨v378, rfl, ho0, hb⟩; refine ⟨_, rfl, ?_⟩; have HO379 := Aside0.mk (Kd.R_lower ho0 (below_size HB.out)); replace HB := mSt HB hb; (try clear hb); (try clear ho0); obtain ⟨Ao10, co10, eo10⟩ := Kd.R_slice HO379.out; subst eo10) | ((with_reducible refine gate_callee (f := 22) rfl ?_); refine goesL_ (some 18) rfl rfl Tryd.func22 (by kernel_rfl) rfl #[.slice Ao10 t376.length co10] rfl (mA1 rfl) ?_; (with_reducible refine (lang_Norm.calls k _ _ t376 t380 t383 _ ((Kd.R_reads' HO379.out).2.2) ((Kd.R_reads' HO379.out).2.1) (Mx.below HMX_.out HB.out) A4.out).mono ?_); rintro e w11 ⟨v381, rfl, ho0, hb⟩; refine ⟨_, rfl, ?_⟩; have HO382 := Aside0.mk (Kd.V_lower (Kd.V_mono (ok' := fun k_ => some k_ ≠ (.slice Ao10 t376.length co10 : Value).ownBlock) ho0 (fun k_ hk_ => (Kd.fresh' (Kd.R_lt HO379.out) k_ hk_))) (below_size HB.out)); replace HO379 := Aside0.mk (Kd.R_below HO379.out hb); replace HB := mSt HB hb; (try clear hb); (try clear ho0); obtain ⟨Ao12, co12, eo12⟩ := Kd.V_slice HO382.out; subst eo12) | ((with_reducible refine gate_callee (f := 12) rfl ?_); refine goesL_ (some 23) rfl rfl Tryd.func12 (by kernel_rfl) rfl #[.slice Ao12 t380.length co12] rfl (mA1 rfl) ?_; (with_reducible refine (lang_Print.calls k _ _ t380 t384 t385 _ ((Kd.V_reads' HO382.out).2.2) ((Kd.V_reads' HO382.out).2.1) (Mx.below HMX_.out HB.out) A5.out).mono ?_); rintro e w13 ⟨rfl, hb⟩; refine ⟨_, rfl, ?_⟩; replace HO379 := Aside0.mk (Kd.R_below HO379.out hb); replace HO382 := Aside0.mk (Kd.V_below HO382.out hb); replace HB := mSt HB hb; (try clear hb)))
 go_ret
 exact ⟨rfl, HB.out⟩
mutual
def dancestudiolaw35_awake.j0 : Nat → Bool → Option (Bool)
 | 0, _ => none
 | k + 1, x45 => if x45 = true then (none) else ((dancestudiolaw35_norm.f k (⟨#[109, 105, 114, 114, 111, 114, 40, 115, 101, 113, 40, 97, 44, 32, 98, 41, 41]⟩ : ByteArray) (⟨#[115, 101, 113, 40, 109, 105, 114, 114, 111, 114, 40, 97, 41, 44, 32, 109, 105, 114, 114, 111, 114, 40, 98, 41, 41]⟩ : ByteArray)).bind fun t396 => (if t396 = true then ((dancestudiolaw35_norm.f k (⟨#[114, 101, 116, 114, 111, 40, 115, 101, 113, 40, 97, 44, 32, 98, 41, 41]⟩ : ByteArray) (⟨#[115, 101, 113, 40, 114, 101, 116, 114, 111, 40, 98, 41, 44, 32, 114, 101, 116, 114, 111, 40, 97, 41, 41]⟩ : ByteArray)).bind fun t397 => (if t397 = true then ((dancestudiolaw35_norm.f k (⟨#[114, 101, 112, 101, 97, 116, 40, 97, 44, 32, 51, 41]⟩ : ByteArray) (⟨#[115, 101, 113, 40, 97, 44, 32, 97, 44, 32, 97, 41]⟩ : ByteArray)).bind fun t398 => (if t398 = true then ((dancestudiolaw35_norm.f k (⟨#[109, 105, 114, 114, 111, 114, 40, 114, 111, 116, 97, 116, 101, 40, 97, 44, 32, 49, 41, 41]⟩ : ByteArray) (⟨#[114, 111, 116, 97, 116, 101, 40, 109, 105, 114, 114, 111, 114, 40, 97, 41, 44, 32, 51, 41]⟩ : ByteArray)).bind fun t399 => (dancestudiolaw35_awake.j1 k (!t399))) else (dancestudiolaw35_awake.j1 k true))) else (dancestudiolaw35_awake.j1 k true))) else (dancestudiolaw35_awake.j1 k true)))
def dancestudiolaw35_awake.j1 : Nat → Bool → Option (Bool)
 | 0, _ => none
 | k + 1, x59 => if x59 = true then (none) else ((dancestudiolaw35_norm.f k (⟨#[115, 116, 114, 101, 116, 99, 104, 40, 115, 116, 114, 101, 116, 99, 104, 40, 97, 44, 32, 52, 41, 44, 32, 54, 41]⟩ : ByteArray) (⟨#[115, 116, 114, 101, 116, 99, 104, 40, 115, 116, 114, 101, 116, 99, 104, 40, 97, 44, 32, 49, 50, 41, 44, 32, 50, 41]⟩ : ByteArray)).bind fun t400 => (if t400 = true then ((dancestudiolaw35_norm.f k (⟨#[114, 101, 112, 101, 97, 116, 40, 97, 44, 32, 57, 41]⟩ : ByteArray) (⟨#[115, 101, 113, 40, 115, 101, 113, 40, 97, 44, 32, 97, 44, 32, 97, 44, 32, 97, 44, 32, 97, 44, 32, 97, 44, 32, 97, 44, 32, 97, 41, 44, 32, 97, 41]⟩ : ByteArray)).bind fun t401 => (dancestudiolaw35_awake.j2 k (!t401))) else (dancestudiolaw35_awake.j2 k true)))
def dancestudiolaw35_awake.j2 : Nat → Bool → Option (Bool)
 | 0, _ => none
 | k + 1, x65 => if x65 = true then (none) else ((lang_Parse.f k (⟨#[115, 101, 113, 40, 97, 44, 32, 115, 116, 114, 101, 116, 99, 104, 40, 98, 44, 32, 50, 41, 41]⟩ : ByteArray)).bind fun bt402 => ((lang_Length.f k bt402.1 (([(⟨#[97]⟩ : ByteArray), (⟨#[98]⟩ : ByteArray)] : List ByteArray)) (([10, 7] : List Int))).bind fun bt412 => ((lang_Names.f k bt402.1).bind fun bt414 => ((lang_Parse.f k (⟨#[114, 111, 116, 97, 116, 101, 40, 97, 44, 32, 52, 41]⟩ : ByteArray)).bind fun bt418 => ((lang_Parse.f k (⟨#[115, 101, 113, 40, 41]⟩ : ByteArray)).bind fun bt422 => ((lang_Parse.f k (⟨#[97, 45]⟩ : ByteArray)).bind fun bt426 => (if bt402.2 = 0 then (if bt412.2 = 0 then (if bt414.2 = 0 then (if bt418.2 = 1 then (if bt422.2 = 2 then (if bt426.2 = 8 then (if bt412.1 = 24 then ((dancestudioref35_Words.f k bt414.1 (([(⟨#[97]⟩ : ByteArray), (⟨#[98]⟩ : ByteArray)] : List ByteArray))).bind fun t433 => (if t433 = true then ((lang_Check.f k ([] : List (S43))).bind fun t434 => (some (t434 == 4))) else (none))) else (none)) else (none)) else (none)) else (none)) else (none)) else (none)) else (none))))))))
end
def dancestudiolaw35_awake.f (k : Nat)  : Option (Bool) := (some (([(⟨2, (⟨#[]⟩ : ByteArray), 0, 2⟩ : S43), (⟨1, (⟨#[97]⟩ : ByteArray), 0, 0⟩ : S43), (⟨3, (⟨#[]⟩ : ByteArray), 0, 1⟩ : S43), (⟨1, (⟨#[98]⟩ : ByteArray), 0, 0⟩ : S43)] : List (S43)) : List (S43))).bind fun y386 => ((lang_Print.f k y386).bind fun bt389 => ((lang_Parse.f k (⟨#[115, 101, 113, 40, 32, 97, 44, 109, 105, 114, 114, 111, 114, 32, 40, 98, 41, 32, 41]⟩ : ByteArray)).bind fun bt391 => (if bt389.2 = 0 then (if bt391.2 = 0 then (if bt389.1.toList = ([115, 101, 113, 40, 97, 44, 32, 109, 105, 114, 114, 111, 114, 40, 98, 41, 41] : List UInt8) then ((dancestudioref35_Same.f k y386 bt391.1).bind fun t395 => (dancestudiolaw35_awake.j0 k (!t395))) else (dancestudiolaw35_awake.j0 k true)) else (dancestudiolaw35_awake.j0 k true)) else (dancestudiolaw35_awake.j0 k true))))
set_option maxHeartbeats 8000000 in
set_option maxRecDepth 100000 in
theorem dancestudiolaw35_awake.calls (k : Nat)  (r : Bool) (w : World) (hmx : Mx w) (h : dancestudiolaw35_awake.f k  = some r) :
  Calls Tryd.prog 11 #[] w fun e w' => e = .returned (.bool r) ∧ Below w.heap.size w w' := by
 have HMX_ := Aside0.mk hmx
 clear hmx
 have hu43 := Tryd.underlying43
 have HB := Aside0.mk (Below.refl w.heap.size w)
 have H := h
 unfold dancestudiolaw35_awake.f at H
 clear h
 obtain ⟨y386, hy386⟩ : ∃ y_ : List (S43), y_ = (([(⟨2, (⟨#[]⟩ : ByteArray), 0, 2⟩ : S43), (⟨1, (⟨#[97]⟩ : ByteArray), 0, 0⟩ : S43), (⟨3, (⟨#[]⟩ : ByteArray), 0, 1⟩ : S43), (⟨1, (⟨#[98]⟩ : ByteArray), 0, 0⟩ : S43)] : List (S43))) := ⟨_, rfl⟩
 replace H : ((lang_Print.f k y386).bind fun bt389 => ((lang_Parse.f k (⟨#[115, 101, 113, 40, 32, 97, 44, 109, 105, 114, 114, 111, 114, 32, 40, 98, 41, 32, 41]⟩ : ByteArray)).bind fun bt391 => (if bt389.2 = 0 then (if bt391.2 = 0 then (if bt389.1.toList = ([115, 101, 113, 40, 97, 44, 32, 109, 105, 114, 114, 111, 114, 40, 98, 41, 41] : List UInt8) then ((dancestudioref35_Same.f k y386 bt391.1).bind fun t395 => (dancestudiolaw35_awake.j0 k (!t395))) else (dancestudiolaw35_awake.j0 k true)) else (dancestudiolaw35_awake.j0 k true)) else (dancestudiolaw35_awake.j0 k true)))) = some r := by first | (rw [hy386]; with_reducible exact H) | (have H2_ := (Option.bind_some _ _).symm.trans H; rw [hy386]; with_reducible exact H2_) | (have H2_ := (Option.bind_some _ _).symm.trans H; with_reducible exact H2_) | with_reducible exact H | (rw [hy386]; exact H) | exact H
 have Ny386 := Aside0.mk hy386
 clear hy386
 replace H := Option.bind_eq_some_iff.mp H
 obtain ⟨⟨t389, t390⟩, A10, H⟩ := H
 replace H : ((lang_Parse.f k (⟨#[115, 101, 113, 40, 32, 97, 44, 109, 105, 114, 114, 111, 114, 32, 40, 98, 41, 32, 41]⟩ : ByteArray)).bind fun bt391 => (if t390 = 0 then (if bt391.2 = 0 then (if t389.toList = ([115, 101, 113, 40, 97, 44, 32, 109, 105, 114, 114, 111, 114, 40, 98, 41, 41] : List UInt8) then ((dancestudioref35_Same.f k y386 bt391.1).bind fun t395 => (dancestudiolaw35_awake.j0 k (!t395))) else (dancestudiolaw35_awake.j0 k true)) else (dancestudiolaw35_awake.j0 k true)) else (dancestudiolaw35_awake.j0 k true))) = some r := H
 have A1 := Aside0.mk A10
 clear A10
 replace H := Option.bind_eq_some_iff.mp H
 obtain ⟨⟨t391, t392⟩, A20, H⟩ := H
 replace H : (if t390 = 0 then (if t392 = 0 then (if t389.toList = ([115, 101, 113, 40, 97, 44, 32, 109, 105, 114, 114, 111, 114, 40, 98, 41, 41] : List UInt8) then ((dancestudioref35_Same.f k y386 t391).bind fun t395 => (dancestudiolaw35_awake.j0 k (!t395))) else (dancestudiolaw35_awake.j0 k true)) else (dancestudiolaw35_awake.j0 k true)) else (dancestudiolaw35_awake.j0 k true)) = some r := H
 have A2 := Aside0.mk A20
 clear A20
 have HC3 := Aside0.mk H
 clear H
 go_enter Tryd.func11, Tryd.ntmps11
 go_upto_region 4 with (first | ((with_reducible refine gate_dst (N := 20) rfl ?_); (try (refine gate_guard (by rfl) ?_; dsimp only)); refine Kd.R_lit k43 _ 43 ?hg (N := 20) ?hd (xs := ([(⟨2, (⟨#[]⟩ : ByteArray), 0, 2⟩ : S43), (⟨1, (⟨#[97]⟩ : ByteArray), 0, 0⟩ : S43), (⟨3, (⟨#[]⟩ : ByteArray), 0, 1⟩ : S43), (⟨1, (⟨#[98]⟩ : ByteArray), 0, 0⟩ : S43)] : List (S43))) (inner := [.int .i64 2, .string (⟨#[]⟩ : ByteArray), .int .i64 0, .int .i64 2, .int .i64 1, .string (⟨#[97]⟩ : ByteArray), .int .i64 0, .int .i64 0, .int .i64 3, .string (⟨#[]⟩ : ByteArray), .int .i64 0, .int .i64 1, .int .i64 1, .string (⟨#[98]⟩ : ByteArray), .int .i64 0, .int .i64 0]) (ok := fun _ => True) (okp := fun _ => True) ?hr ?hp (fun _ hk => hk) trivial (Below.refl _ _) (Nat.le_refl _) (by simp) ?_; (case hd => rfl); (case hg => rfl); (case hr => first | (go_simp; done) | (go_simp; rfl)); (case hp => exact (Reps.c4 (show Kd.M k43 _ _ _ (⟨2, (⟨#[]⟩ : ByteArray), 0, 2⟩ : S43) [.int .i64 2, .string (⟨#[]⟩ : ByteArray), .int .i64 0, .int .i64 2] from (k43_mkM _ _ _ (⟨2, (⟨#[]⟩ : ByteArray), 0, 2⟩ : S43) )) (Reps.c4 (show Kd.M k43 _ _ _ (⟨1, (⟨#[97]⟩ : ByteArray), 0, 0⟩ : S43) [.int .i64 1, .string (⟨#[97]⟩ : ByteArray), .int .i64 0, .int .i64 0] from (k43_mkM _ _ _ (⟨1, (⟨#[97]⟩ : ByteArray), 0, 0⟩ : S43) )) (Reps.c4 (show Kd.M k43 _ _ _ (⟨3, (⟨#[]⟩ : ByteArray), 0, 1⟩ : S43) [.int .i64 3, .string (⟨#[]⟩ : ByteArray), .int .i64 0, .int .i64 1] from (k43_mkM _ _ _ (⟨3, (⟨#[]⟩ : ByteArray), 0, 1⟩ : S43) )) (Reps.c4 (show Kd.M k43 _ _ _ (⟨1, (⟨#[98]⟩ : ByteArray), 0, 0⟩ : S43) [.int .i64 1, .string (⟨#[98]⟩ : ByteArray), .int .i64 0, .int .i64 0] from (k43_mkM _ _ _ (⟨1, (⟨#[98]⟩ : ByteArray), 0, 0⟩ : S43) )) (Reps.none _ _)))))); intro v387 w4 ho5 hb hg_ hnew_; clear hg_ hnew_; (first | rw [← Ny386.out] at ho5 | (simp only [Int.reduceToNat] at ho5; rw [← Ny386.out] at ho5)); have n0_ := Aside0.mk (Kd.R_lower ho5 (below_size (hO HB))); have n1_ := mSx HB hb; clear HB; have HO388 := n0_; have HB := n1_; clear n0_ n1_; clear hb ho5; obtain ⟨Ao6, co6, eo6⟩ := Kd.R_slice HO388.out; subst eo6) | ((with_reducible refine gate_callee (f := 12) rfl ?_); refine goesL_ (some 23) rfl rfl Tryd.func12 (by kernel_rfl) rfl #[.slice Ao6 y386.length co6] rfl (mA1 rfl) ?_; (with_reducible refine (lang_Print.calls k _ _ y386 t389 t390 _ ((Kd.R_reads' HO388.out).2.2) ((Kd.R_reads' HO388.out).2.1) (Mx.below HMX_.out HB.out) A1.out).mono ?_); rintro e w7 ⟨rfl, hb⟩; refine ⟨_, rfl, ?_⟩; have n0_ := Aside0.mk (Kd.R_below (rO HO388) hb); have n1_ := mSx HB hb; clear HO388 HB; have HO388 := n0_; have HB := n1_; clear n0_ n1_; (try clear hb); (try clear hb2); (try clear hk); (try clear hi)) | ((with_reducible refine gate_callee (f := 19) rfl ?_); refine goesL_ (some 27) rfl rfl Tryd.func19 (by kernel_rfl) rfl #[.string (⟨#[115, 101, 113, 40, 32, 97, 44, 109, 105, 114, 114, 111, 114, 32, 40, 98, 41, 32, 41]⟩ : ByteArray)] rfl (mA1 rfl) ?_; (with_reducible refine (lang_Parse.calls k (⟨#[115, 101, 113, 40, 32, 97, 44, 109, 105, 114, 114, 111, 114, 32, 40, 98, 41, 32, 41]⟩ : ByteArray) t391 t392 _ (Mx.below HMX_.out HB.out) A2.out).mono ?_); rintro e w8 ⟨v393, rfl, ho0, hb⟩; refine ⟨_, rfl, ?_⟩; have n0_ := Aside0.mk (Kd.R_elder' (rO HO388) (Kd.R_base ho0) hb); have n1_ := Aside0.mk (Kd.R_lower (Kd.R_new' ho0 (Kd.R_lt (rO HO388))) (below_size (hO HB))); have n2_ := mSx HB hb; clear HO388 HB; have HO388 := n0_; have HO394 := n1_; have HB := n2_; clear n0_ n1_ n2_; (try clear hb); (try clear hb2); (try clear hk); (try clear hi); (try clear ho0)))
 (try simp only [Act.put, List.setIfInBounds_toArray, List.set_cons_zero, List.set_cons_succ])
 go_cut [45] (fun v45 wc => ∃ (kq : Nat) (x45_2 : Bool), v45 = .bool x45_2 ∧ Aside0 (dancestudiolaw35_awake.j0 kq x45_2 = some r) ∧ Aside0 (kq ≤ k) ∧ Aside0 (Below w.heap.size w wc))
 case first =>
  have H := HC3.out
  clear HC3
  by_cases c9 : t390 = 0
  rotate_left
  ·
   rw [if_neg c9] at H
   have c9b0 := beq_eq_false_iff_ne.mpr c9
   have c9b1 := bne_iff_ne.mpr c9
   (first | rw [c9b0] | (simp only [i64_w, i32_w]; rw [c9b0]) | skip)
   have H' := Aside0.mk H
   clear H
   go_wp2
   go_meet
   case rel => exact ⟨_, (true), rfl, H', ⟨by first | omega | exact Nat.le_refl _⟩, ⟨HB.out⟩⟩
  rw [if_pos c9] at H
  have c9b0 := beq_iff_eq.mpr c9
  have c9b1 := bne_eq_false_iff_eq.mpr c9
  clear c9
  (first | rw [c9b0] | (simp only [i64_w, i32_w]; rw [c9b0]) | skip)
  by_cases c10 : t392 = 0
  rotate_left
  ·
   rw [if_neg c10] at H
   have c10b0 := beq_eq_false_iff_ne.mpr c10
   have c10b1 := bne_iff_ne.mpr c10
   have H' := Aside0.mk H
   clear H
   go_wp2
   go_meet
   case rel => exact ⟨_, (true), rfl, H', ⟨by first | omega | exact Nat.le_refl _⟩, ⟨HB.out⟩⟩
  rw [if_pos c10] at H
  have c10b0 := beq_iff_eq.mpr c10
  have c10b1 := bne_eq_false_iff_eq.mpr c10
  clear c10
  by_cases c11 : t389.toList = ([115, 101, 113, 40, 97, 44, 32, 109, 105, 114, 114, 111, 114, 40, 98, 41, 41] : List UInt8)
  rotate_left
  ·
   rw [if_neg c11] at H
   have c11b0 := beq_eq_false_iff_ne.mpr c11
   have c11b1 := bne_iff_ne.mpr c11
   have H' := Aside0.mk H
   clear H
   go_wp2
   go_meet
   case rel => exact ⟨_, (true), rfl, H', ⟨by first | omega | exact Nat.le_refl _⟩, ⟨HB.out⟩⟩
  rw [if_pos c11] at H
  have c11b0 := beq_iff_eq.mpr c11
  have c11b1 := bne_eq_false_iff_eq.mpr c11
  clear c11
  replace H := Option.bind_eq_some_iff.mp H
  obtain ⟨t395, A120, H⟩ := H
  try dsimp only at H
  have A12 := Aside0.mk A120
  clear A120
  have H' := Aside0.mk H
  clear H
  obtain ⟨Ao13, co13, eo13⟩ := Kd.R_slice HO394.out
  subst eo13
  go_wp2_with (first | (go_at_call 21; (with_reducible refine (dancestudioref35_Same.calls k _ _ y386 _ _ t391 t395 _ ((Kd.R_reads' HO388.out).2.2) ((Kd.R_reads' HO388.out).2.1) ((Kd.R_reads' HO394.out).2.2) ((Kd.R_reads' HO394.out).2.1) A12.out).mono ?_); rintro e w' ⟨rfl, ⟨nd, rfl⟩⟩))
  go_meet
  case rel => exact ⟨_, (!t395), rfl, H', ⟨by first | omega | exact Nat.le_refl _⟩, ⟨hO HB⟩⟩
 case rest =>
  clear HC3; try clear c1; try clear p2; try clear c4; try clear c9; try clear c9b0; try clear c9b1; try clear c10; try clear c10b0; try clear c10b1; try clear c11; try clear c11b0; try clear c11b1; try clear c12
  obtain ⟨kq, x45_2, rfl, HA, HJ2, HB⟩ := hcut
  cases kq with
  | zero => exact absurd HA.out (by simp [dancestudiolaw35_awake.j0])
  | succ kj2 =>
   have H := HA.out
   clear HA
   simp only [dancestudiolaw35_awake.j0] at H
   by_cases c14 : x45_2 = true
   ·
    subst c14
    rw [if_pos rfl] at H
    exact absurd H (by simp)
   replace c14 := Bool.eq_false_iff.mpr c14
   subst c14
   rw [if_neg (show ¬ (false = true) by decide)] at H
   have HC15 := Aside0.mk H
   clear H
   go_upto_region 6 with (fail)
   go_cut [59] (fun v59 wc => ∃ (kq : Nat) (x59_14 : Bool), v59 = .bool x59_14 ∧ Aside0 (dancestudiolaw35_awake.j1 kq x59_14 = some r) ∧ Aside0 (kq ≤ kj2) ∧ Aside0 (Below w.heap.size w wc))
   case first =>
    have H := HC15.out
    clear HC15
    replace H := Option.bind_eq_some_iff.mp H
    obtain ⟨t396, A160, H⟩ := H
    try dsimp only at H
    have A16 := Aside0.mk A160
    clear A160
    by_cases c17 : t396 = true
    rotate_left
    ·
     replace c17 := Bool.eq_false_iff.mpr c17
     subst c17
     rw [if_neg (show ¬ (false = true) by decide)] at H
     have H' := Aside0.mk H
     clear H
     go_wp2_with (first | ((with_reducible refine gate_callee (f := 29) rfl ?_); refine goesL_ (some 46) rfl rfl Tryd.func29 (by kernel_rfl) rfl #[.string (⟨#[109, 105, 114, 114, 111, 114, 40, 115, 101, 113, 40, 97, 44, 32, 98, 41, 41]⟩ : ByteArray), .string (⟨#[115, 101, 113, 40, 109, 105, 114, 114, 111, 114, 40, 97, 41, 44, 32, 109, 105, 114, 114, 111, 114, 40, 98, 41, 41]⟩ : ByteArray)] rfl (mA2 rfl rfl) ?_; (with_reducible refine (dancestudiolaw35_norm.calls kj2 (⟨#[109, 105, 114, 114, 111, 114, 40, 115, 101, 113, 40, 97, 44, 32, 98, 41, 41]⟩ : ByteArray) (⟨#[115, 101, 113, 40, 109, 105, 114, 114, 111, 114, 40, 97, 41, 44, 32, 109, 105, 114, 114, 111, 114, 40, 98, 41, 41]⟩ : ByteArray) false _ (Mx.below HMX_.out HB.out) A16.out).mono ?_); rintro e w32 ⟨rfl, hb⟩; refine ⟨_, rfl, ?_⟩; replace HB := mSt HB hb; (try clear hb)))
     go_meet
     case rel => exact ⟨_, (true), rfl, H', ⟨by have := HJ2.out; first | omega | exact Nat.le_refl _⟩, ⟨HB.out⟩⟩
    subst c17
    rw [if_pos rfl] at H
    replace H := Option.bind_eq_some_iff.mp H
    obtain ⟨t397, A180, H⟩ := H
    try dsimp only at H
    have A18 := Aside0.mk A180
    clear A180
    by_cases c19 : t397 = true
    rotate_left
    ·
     replace c19 := Bool.eq_false_iff.mpr c19
     subst c19
     rw [if_neg (show ¬ (false = true) by decide)] at H
     have H' := Aside0.mk H
     clear H
     go_wp2_with (first | ((with_reducible refine gate_callee (f := 29) rfl ?_); refine goesL_ (some 46) rfl rfl Tryd.func29 (by kernel_rfl) rfl #[.string (⟨#[109, 105, 114, 114, 111, 114, 40, 115, 101, 113, 40, 97, 44, 32, 98, 41, 41]⟩ : ByteArray), .string (⟨#[115, 101, 113, 40, 109, 105, 114, 114, 111, 114, 40, 97, 41, 44, 32, 109, 105, 114, 114, 111, 114, 40, 98, 41, 41]⟩ : ByteArray)] rfl (mA2 rfl rfl) ?_; (with_reducible refine (dancestudiolaw35_norm.calls kj2 (⟨#[109, 105, 114, 114, 111, 114, 40, 115, 101, 113, 40, 97, 44, 32, 98, 41, 41]⟩ : ByteArray) (⟨#[115, 101, 113, 40, 109, 105, 114, 114, 111, 114, 40, 97, 41, 44, 32, 109, 105, 114, 114, 111, 114, 40, 98, 41, 41]⟩ : ByteArray) true _ (Mx.below HMX_.out HB.out) A16.out).mono ?_); rintro e w30 ⟨rfl, hb⟩; refine ⟨_, rfl, ?_⟩; replace HB := mSt HB hb; (try clear hb)) | (go_at_call 29; (with_reducible refine (dancestudiolaw35_norm.calls kj2 (⟨#[114, 101, 116, 114, 111, 40, 115, 101, 113, 40, 97, 44, 32, 98, 41, 41]⟩ : ByteArray) (⟨#[115, 101, 113, 40, 114, 101, 116, 114, 111, 40, 98, 41, 44, 32, 114, 101, 116, 114, 111, 40, 97, 41, 41]⟩ : ByteArray) false _ (Mx.below HMX_.out HB.out) A18.out).mono ?_); rintro e w31 ⟨rfl, hb⟩; replace HB := mSt HB hb; (try clear hb)))
     go_meet
     case rel => exact ⟨_, (true), rfl, H', ⟨by have := HJ2.out; first | omega | exact Nat.le_refl _⟩, ⟨HB.out⟩⟩
    subst c19
    rw [if_pos rfl] at H
    replace H := Option.bind_eq_some_iff.mp H
    obtain ⟨t398, A200, H⟩ := H
    try dsimp only at H
    have A20 := Aside0.mk A200
    clear A200
    by_cases c21 : t398 = true
    rotate_left
    ·
     replace c21 := Bool.eq_false_iff.mpr c21
     subst c21
     rw [if_neg (show ¬ (false = true) by decide)] at H
     have H' := Aside0.mk H
     clear H
     go_wp2_with (first | ((with_reducible refine gate_callee (f := 29) rfl ?_); refine goesL_ (some 46) rfl rfl Tryd.func29 (by kernel_rfl) rfl #[.string (⟨#[109, 105, 114, 114, 111, 114, 40, 115, 101, 113, 40, 97, 44, 32, 98, 41, 41]⟩ : ByteArray), .string (⟨#[115, 101, 113, 40, 109, 105, 114, 114, 111, 114, 40, 97, 41, 44, 32, 109, 105, 114, 114, 111, 114, 40, 98, 41, 41]⟩ : ByteArray)] rfl (mA2 rfl rfl) ?_; (with_reducible refine (dancestudiolaw35_norm.calls kj2 (⟨#[109, 105, 114, 114, 111, 114, 40, 115, 101, 113, 40, 97, 44, 32, 98, 41, 41]⟩ : ByteArray) (⟨#[115, 101, 113, 40, 109, 105, 114, 114, 111, 114, 40, 97, 41, 44, 32, 109, 105, 114, 114, 111, 114, 40, 98, 41, 41]⟩ : ByteArray) true _ (Mx.below HMX_.out HB.out) A16.out).mono ?_); rintro e w27 ⟨rfl, hb⟩; refine ⟨_, rfl, ?_⟩; replace HB := mSt HB hb; (try clear hb)) | (go_at_call 29; (with_reducible refine (dancestudiolaw35_norm.calls kj2 (⟨#[114, 101, 116, 114, 111, 40, 115, 101, 113, 40, 97, 44, 32, 98, 41, 41]⟩ : ByteArray) (⟨#[115, 101, 113, 40, 114, 101, 116, 114, 111, 40, 98, 41, 44, 32, 114, 101, 116, 114, 111, 40, 97, 41, 41]⟩ : ByteArray) true _ (Mx.below HMX_.out HB.out) A18.out).mono ?_); rintro e w28 ⟨rfl, hb⟩; replace HB := mSt HB hb; (try clear hb)) | (go_at_call 29; (with_reducible refine (dancestudiolaw35_norm.calls kj2 (⟨#[114, 101, 112, 101, 97, 116, 40, 97, 44, 32, 51, 41]⟩ : ByteArray) (⟨#[115, 101, 113, 40, 97, 44, 32, 97, 44, 32, 97, 41]⟩ : ByteArray) false _ (Mx.below HMX_.out HB.out) A20.out).mono ?_); rintro e w29 ⟨rfl, hb⟩; replace HB := mSt HB hb; (try clear hb)))
     go_meet
     case rel => exact ⟨_, (true), rfl, H', ⟨by have := HJ2.out; first | omega | exact Nat.le_refl _⟩, ⟨HB.out⟩⟩
    subst c21
    rw [if_pos rfl] at H
    replace H := Option.bind_eq_some_iff.mp H
    obtain ⟨t399, A220, H⟩ := H
    try dsimp only at H
    have A22 := Aside0.mk A220
    clear A220
    have H' := Aside0.mk H
    clear H
    go_wp2_with (first | ((with_reducible refine gate_callee (f := 29) rfl ?_); refine goesL_ (some 46) rfl rfl Tryd.func29 (by kernel_rfl) rfl #[.string (⟨#[109, 105, 114, 114, 111, 114, 40, 115, 101, 113, 40, 97, 44, 32, 98, 41, 41]⟩ : ByteArray), .string (⟨#[115, 101, 113, 40, 109, 105, 114, 114, 111, 114, 40, 97, 41, 44, 32, 109, 105, 114, 114, 111, 114, 40, 98, 41, 41]⟩ : ByteArray)] rfl (mA2 rfl rfl) ?_; (with_reducible refine (dancestudiolaw35_norm.calls kj2 (⟨#[109, 105, 114, 114, 111, 114, 40, 115, 101, 113, 40, 97, 44, 32, 98, 41, 41]⟩ : ByteArray) (⟨#[115, 101, 113, 40, 109, 105, 114, 114, 111, 114, 40, 97, 41, 44, 32, 109, 105, 114, 114, 111, 114, 40, 98, 41, 41]⟩ : ByteArray) true _ (Mx.below HMX_.out HB.out) A16.out).mono ?_); rintro e w23 ⟨rfl, hb⟩; refine ⟨_, rfl, ?_⟩; replace HB := mSt HB hb; (try clear hb)) | (go_at_call 29; (with_reducible refine (dancestudiolaw35_norm.calls kj2 (⟨#[114, 101, 116, 114, 111, 40, 115, 101, 113, 40, 97, 44, 32, 98, 41, 41]⟩ : ByteArray) (⟨#[115, 101, 113, 40, 114, 101, 116, 114, 111, 40, 98, 41, 44, 32, 114, 101, 116, 114, 111, 40, 97, 41, 41]⟩ : ByteArray) true _ (Mx.below HMX_.out HB.out) A18.out).mono ?_); rintro e w24 ⟨rfl, hb⟩; replace HB := mSt HB hb; (try clear hb)) | (go_at_call 29; (with_reducible refine (dancestudiolaw35_norm.calls kj2 (⟨#[114, 101, 112, 101, 97, 116, 40, 97, 44, 32, 51, 41]⟩ : ByteArray) (⟨#[115, 101, 113, 40, 97, 44, 32, 97, 44, 32, 97, 41]⟩ : ByteArray) true _ (Mx.below HMX_.out HB.out) A20.out).mono ?_); rintro e w25 ⟨rfl, hb⟩; replace HB := mSt HB hb; (try clear hb)) | (go_at_call 29; (with_reducible refine (dancestudiolaw35_norm.calls kj2 (⟨#[109, 105, 114, 114, 111, 114, 40, 114, 111, 116, 97, 116, 101, 40, 97, 44, 32, 49, 41, 41]⟩ : ByteArray) (⟨#[114, 111, 116, 97, 116, 101, 40, 109, 105, 114, 114, 111, 114, 40, 97, 41, 44, 32, 51, 41]⟩ : ByteArray) t399 _ (Mx.below HMX_.out HB.out) A22.out).mono ?_); rintro e w26 ⟨rfl, hb⟩; replace HB := mSt HB hb; (try clear hb)))
    go_meet
    case rel => exact ⟨_, (!t399), rfl, H', ⟨by have := HJ2.out; first | omega | exact Nat.le_refl _⟩, ⟨HB.out⟩⟩
   case rest =>
    clear HC15; try clear c1; try clear c2; try clear p2; try clear c4; try clear c9; try clear c9b0; try clear c9b1; try clear c10; try clear c10b0; try clear c10b1; try clear c11; try clear c11b0; try clear c11b1; try clear c12; try clear c14; try clear c17; try clear c19; try clear c21; try clear c29
    obtain ⟨kq, x59_14, rfl, HA, HJ14, HB⟩ := hcut
    cases kq with
    | zero => exact absurd HA.out (by simp [dancestudiolaw35_awake.j1])
    | succ kj14 =>
     have H := HA.out
     clear HA
     simp only [dancestudiolaw35_awake.j1] at H
     by_cases c33 : x59_14 = true
     ·
      subst c33
      rw [if_pos rfl] at H
      exact absurd H (by simp)
     replace c33 := Bool.eq_false_iff.mpr c33
     subst c33
     rw [if_neg (show ¬ (false = true) by decide)] at H
     have HC34 := Aside0.mk H
     clear H
     go_upto_region 8 with (fail)
     go_cut [65] (fun v65 wc => ∃ (kq : Nat) (x65_33 : Bool), v65 = .bool x65_33 ∧ Aside0 (dancestudiolaw35_awake.j2 kq x65_33 = some r) ∧ Aside0 (kq ≤ kj14) ∧ Aside0 (Below w.heap.size w wc))
     case first =>
      have H := HC34.out
      clear HC34
      replace H := Option.bind_eq_some_iff.mp H
      obtain ⟨t400, A350, H⟩ := H
      try dsimp only at H
      have A35 := Aside0.mk A350
      clear A350
      by_cases c36 : t400 = true
      rotate_left
      ·
       replace c36 := Bool.eq_false_iff.mpr c36
       subst c36
       rw [if_neg (show ¬ (false = true) by decide)] at H
       have H' := Aside0.mk H
       clear H
       go_wp2_with (first | ((with_reducible refine gate_callee (f := 29) rfl ?_); refine goesL_ (some 60) rfl rfl Tryd.func29 (by kernel_rfl) rfl #[.string (⟨#[115, 116, 114, 101, 116, 99, 104, 40, 115, 116, 114, 101, 116, 99, 104, 40, 97, 44, 32, 52, 41, 44, 32, 54, 41]⟩ : ByteArray), .string (⟨#[115, 116, 114, 101, 116, 99, 104, 40, 115, 116, 114, 101, 116, 99, 104, 40, 97, 44, 32, 49, 50, 41, 44, 32, 50, 41]⟩ : ByteArray)] rfl (mA2 rfl rfl) ?_; (with_reducible refine (dancestudiolaw35_norm.calls kj14 (⟨#[115, 116, 114, 101, 116, 99, 104, 40, 115, 116, 114, 101, 116, 99, 104, 40, 97, 44, 32, 52, 41, 44, 32, 54, 41]⟩ : ByteArray) (⟨#[115, 116, 114, 101, 116, 99, 104, 40, 115, 116, 114, 101, 116, 99, 104, 40, 97, 44, 32, 49, 50, 41, 44, 32, 50, 41]⟩ : ByteArray) false _ (Mx.below HMX_.out HB.out) A35.out).mono ?_); rintro e w40 ⟨rfl, hb⟩; refine ⟨_, rfl, ?_⟩; replace HB := mSt HB hb; (try clear hb)))
       go_meet
       case rel => exact ⟨_, (true), rfl, H', ⟨by have := HJ2.out; have := HJ14.out; first | omega | exact Nat.le_refl _⟩, ⟨HB.out⟩⟩
      subst c36
      rw [if_pos rfl] at H
      replace H := Option.bind_eq_some_iff.mp H
      obtain ⟨t401, A370, H⟩ := H
      try dsimp only at H
      have A37 := Aside0.mk A370
      clear A370
      have H' := Aside0.mk H
      clear H
      go_wp2_with (first | ((with_reducible refine gate_callee (f := 29) rfl ?_); refine goesL_ (some 60) rfl rfl Tryd.func29 (by kernel_rfl) rfl #[.string (⟨#[115, 116, 114, 101, 116, 99, 104, 40, 115, 116, 114, 101, 116, 99, 104, 40, 97, 44, 32, 52, 41, 44, 32, 54, 41]⟩ : ByteArray), .string (⟨#[115, 116, 114, 101, 116, 99, 104, 40, 115, 116, 114, 101, 116, 99, 104, 40, 97, 44, 32, 49, 50, 41, 44, 32, 50, 41]⟩ : ByteArray)] rfl (mA2 rfl rfl) ?_; (with_reducible refine (dancestudiolaw35_norm.calls kj14 (⟨#[115, 116, 114, 101, 116, 99, 104, 40, 115, 116, 114, 101, 116, 99, 104, 40, 97, 44, 32, 52, 41, 44, 32, 54, 41]⟩ : ByteArray) (⟨#[115, 116, 114, 101, 116, 99, 104, 40, 115, 116, 114, 101, 116, 99, 104, 40, 97, 44, 32, 49, 50, 41, 44, 32, 50, 41]⟩ : ByteArray) true _ (Mx.below HMX_.out HB.out) A35.out).mono ?_); rintro e w38 ⟨rfl, hb⟩; refine ⟨_, rfl, ?_⟩; replace HB := mSt HB hb; (try clear hb)) | (go_at_call 29; (with_reducible refine (dancestudiolaw35_norm.calls kj14 (⟨#[114, 101, 112, 101, 97, 116, 40, 97, 44, 32, 57, 41]⟩ : ByteArray) (⟨#[115, 101, 113, 40, 115, 101, 113, 40, 97, 44, 32, 97, 44, 32, 97, 44, 32, 97, 44, 32, 97, 44, 32, 97, 44, 32, 97, 44, 32, 97, 41, 44, 32, 97, 41]⟩ : ByteArray) t401 _ (Mx.below HMX_.out HB.out) A37.out).mono ?_); rintro e w39 ⟨rfl, hb⟩; replace HB := mSt HB hb; (try clear hb)))
      go_meet
      case rel => exact ⟨_, (!t401), rfl, H', ⟨by have := HJ2.out; have := HJ14.out; first | omega | exact Nat.le_refl _⟩, ⟨HB.out⟩⟩
     case rest =>
      clear HC34; try clear c1; try clear c2; try clear p2; try clear c3; try clear c4; try clear c9; try clear c9b0; try clear c9b1; try clear c10; try clear c10b0; try clear c10b1; try clear c11; try clear c11b0; try clear c11b1; try clear c12; try clear c14; try clear c17; try clear c19; try clear c21; try clear c29; try clear c33; try clear c36
      obtain ⟨kq, x65_33, rfl, HA, HJ33, HB⟩ := hcut
      cases kq with
      | zero => exact absurd HA.out (by simp [dancestudiolaw35_awake.j2])
      | succ kj33 =>
       have H := HA.out
       clear HA
       simp only [dancestudiolaw35_awake.j2] at H
       by_cases c41 : x65_33 = true
       ·
        subst c41
        have H1 : (none) = some r := (by rw [if_pos rfl] at H; exact H); clear H; have H := H1; clear H1
        exact absurd H (by simp)
       replace c41 := Bool.eq_false_iff.mpr c41
       subst c41
       have H1 : ((lang_Parse.f kj33 (⟨#[115, 101, 113, 40, 97, 44, 32, 115, 116, 114, 101, 116, 99, 104, 40, 98, 44, 32, 50, 41, 41]⟩ : ByteArray)).bind fun bt402 => ((lang_Length.f kj33 bt402.1 (([(⟨#[97]⟩ : ByteArray), (⟨#[98]⟩ : ByteArray)] : List ByteArray)) (([10, 7] : List Int))).bind fun bt412 => ((lang_Names.f kj33 bt402.1).bind fun bt414 => ((lang_Parse.f kj33 (⟨#[114, 111, 116, 97, 116, 101, 40, 97, 44, 32, 52, 41]⟩ : ByteArray)).bind fun bt418 => ((lang_Parse.f kj33 (⟨#[115, 101, 113, 40, 41]⟩ : ByteArray)).bind fun bt422 => ((lang_Parse.f kj33 (⟨#[97, 45]⟩ : ByteArray)).bind fun bt426 => (if bt402.2 = 0 then (if bt412.2 = 0 then (if bt414.2 = 0 then (if bt418.2 = 1 then (if bt422.2 = 2 then (if bt426.2 = 8 then (if bt412.1 = 24 then ((dancestudioref35_Words.f kj33 bt414.1 (([(⟨#[97]⟩ : ByteArray), (⟨#[98]⟩ : ByteArray)] : List ByteArray))).bind fun t433 => (if t433 = true then ((lang_Check.f kj33 ([] : List (S43))).bind fun t434 => (some (t434 == 4))) else (none))) else (none)) else (none)) else (none)) else (none)) else (none)) else (none)) else (none)))))))) = some r := (by rw [if_neg (show ¬ (false = true) by decide)] at H; exact H); clear H; have H := H1; clear H1
       replace H := Option.bind_eq_some_iff.mp H
       obtain ⟨⟨t402, t403⟩, A420, H⟩ := H
       replace H : ((lang_Length.f kj33 t402 (([(⟨#[97]⟩ : ByteArray), (⟨#[98]⟩ : ByteArray)] : List ByteArray)) (([10, 7] : List Int))).bind fun bt412 => ((lang_Names.f kj33 t402).bind fun bt414 => ((lang_Parse.f kj33 (⟨#[114, 111, 116, 97, 116, 101, 40, 97, 44, 32, 52, 41]⟩ : ByteArray)).bind fun bt418 => ((lang_Parse.f kj33 (⟨#[115, 101, 113, 40, 41]⟩ : ByteArray)).bind fun bt422 => ((lang_Parse.f kj33 (⟨#[97, 45]⟩ : ByteArray)).bind fun bt426 => (if t403 = 0 then (if bt412.2 = 0 then (if bt414.2 = 0 then (if bt418.2 = 1 then (if bt422.2 = 2 then (if bt426.2 = 8 then (if bt412.1 = 24 then ((dancestudioref35_Words.f kj33 bt414.1 (([(⟨#[97]⟩ : ByteArray), (⟨#[98]⟩ : ByteArray)] : List ByteArray))).bind fun t433 => (if t433 = true then ((lang_Check.f kj33 ([] : List (S43))).bind fun t434 => (some (t434 == 4))) else (none))) else (none)) else (none)) else (none)) else (none)) else (none)) else (none)) else (none))))))) = some r := H
       have A42 := Aside0.mk A420
       clear A420
       obtain ⟨y406, hy406⟩ : ∃ y_ : List ByteArray, y_ = (([(⟨#[97]⟩ : ByteArray), (⟨#[98]⟩ : ByteArray)] : List ByteArray)) := ⟨_, rfl⟩
       replace H : ((lang_Length.f kj33 t402 y406 (([10, 7] : List Int))).bind fun bt412 => ((lang_Names.f kj33 t402).bind fun bt414 => ((lang_Parse.f kj33 (⟨#[114, 111, 116, 97, 116, 101, 40, 97, 44, 32, 52, 41]⟩ : ByteArray)).bind fun bt418 => ((lang_Parse.f kj33 (⟨#[115, 101, 113, 40, 41]⟩ : ByteArray)).bind fun bt422 => ((lang_Parse.f kj33 (⟨#[97, 45]⟩ : ByteArray)).bind fun bt426 => (if t403 = 0 then (if bt412.2 = 0 then (if bt414.2 = 0 then (if bt418.2 = 1 then (if bt422.2 = 2 then (if bt426.2 = 8 then (if bt412.1 = 24 then ((dancestudioref35_Words.f kj33 bt414.1 (([(⟨#[97]⟩ : ByteArray), (⟨#[98]⟩ : ByteArray)] : List ByteArray))).bind fun t433 => (if t433 = true then ((lang_Check.f kj33 ([] : List (S43))).bind fun t434 => (some (t434 == 4))) else (none))) else (none)) else (none)) else (none)) else (none)) else (none)) else (none)) else (none))))))) = some r := by first | (rw [hy406]; with_reducible exact H) | (have H2_ := (Option.bind_some _ _).symm.trans H; rw [hy406]; with_reducible exact H2_) | (have H2_ := (Option.bind_some _ _).symm.trans H; with_reducible exact H2_) | with_reducible exact H | (rw [hy406]; exact H) | exact H
       have Ny406 := Aside0.mk hy406
       clear hy406
       obtain ⟨y409, hy409⟩ : ∃ y_ : List Int, y_ = (([10, 7] : List Int)) := ⟨_, rfl⟩
       replace H : ((lang_Length.f kj33 t402 y406 y409).bind fun bt412 => ((lang_Names.f kj33 t402).bind fun bt414 => ((lang_Parse.f kj33 (⟨#[114, 111, 116, 97, 116, 101, 40, 97, 44, 32, 52, 41]⟩ : ByteArray)).bind fun bt418 => ((lang_Parse.f kj33 (⟨#[115, 101, 113, 40, 41]⟩ : ByteArray)).bind fun bt422 => ((lang_Parse.f kj33 (⟨#[97, 45]⟩ : ByteArray)).bind fun bt426 => (if t403 = 0 then (if bt412.2 = 0 then (if bt414.2 = 0 then (if bt418.2 = 1 then (if bt422.2 = 2 then (if bt426.2 = 8 then (if bt412.1 = 24 then ((dancestudioref35_Words.f kj33 bt414.1 (([(⟨#[97]⟩ : ByteArray), (⟨#[98]⟩ : ByteArray)] : List ByteArray))).bind fun t433 => (if t433 = true then ((lang_Check.f kj33 ([] : List (S43))).bind fun t434 => (some (t434 == 4))) else (none))) else (none)) else (none)) else (none)) else (none)) else (none)) else (none)) else (none))))))) = some r := by first | (rw [hy409]; with_reducible exact H) | (have H2_ := (Option.bind_some _ _).symm.trans H; rw [hy409]; with_reducible exact H2_) | (have H2_ := (Option.bind_some _ _).symm.trans H; with_reducible exact H2_) | with_reducible exact H | (rw [hy409]; exact H) | exact H
       have Ny409 := Aside0.mk hy409
       clear hy409
       replace H := Option.bind_eq_some_iff.mp H
       obtain ⟨⟨t412, t413⟩, A430, H⟩ := H
       replace H : ((lang_Names.f kj33 t402).bind fun bt414 => ((lang_Parse.f kj33 (⟨#[114, 111, 116, 97, 116, 101, 40, 97, 44, 32, 52, 41]⟩ : ByteArray)).bind fun bt418 => ((lang_Parse.f kj33 (⟨#[115, 101, 113, 40, 41]⟩ : ByteArray)).bind fun bt422 => ((lang_Parse.f kj33 (⟨#[97, 45]⟩ : ByteArray)).bind fun bt426 => (if t403 = 0 then (if t413 = 0 then (if bt414.2 = 0 then (if bt418.2 = 1 then (if bt422.2 = 2 then (if bt426.2 = 8 then (if t412 = 24 then ((dancestudioref35_Words.f kj33 bt414.1 (([(⟨#[97]⟩ : ByteArray), (⟨#[98]⟩ : ByteArray)] : List ByteArray))).bind fun t433 => (if t433 = true then ((lang_Check.f kj33 ([] : List (S43))).bind fun t434 => (some (t434 == 4))) else (none))) else (none)) else (none)) else (none)) else (none)) else (none)) else (none)) else (none)))))) = some r := H
       have A43 := Aside0.mk A430
       clear A430
       replace H := Option.bind_eq_some_iff.mp H
       obtain ⟨⟨t414, t415⟩, A440, H⟩ := H
       replace H : ((lang_Parse.f kj33 (⟨#[114, 111, 116, 97, 116, 101, 40, 97, 44, 32, 52, 41]⟩ : ByteArray)).bind fun bt418 => ((lang_Parse.f kj33 (⟨#[115, 101, 113, 40, 41]⟩ : ByteArray)).bind fun bt422 => ((lang_Parse.f kj33 (⟨#[97, 45]⟩ : ByteArray)).bind fun bt426 => (if t403 = 0 then (if t413 = 0 then (if t415 = 0 then (if bt418.2 = 1 then (if bt422.2 = 2 then (if bt426.2 = 8 then (if t412 = 24 then ((dancestudioref35_Words.f kj33 t414 (([(⟨#[97]⟩ : ByteArray), (⟨#[98]⟩ : ByteArray)] : List ByteArray))).bind fun t433 => (if t433 = true then ((lang_Check.f kj33 ([] : List (S43))).bind fun t434 => (some (t434 == 4))) else (none))) else (none)) else (none)) else (none)) else (none)) else (none)) else (none)) else (none))))) = some r := H
       have A44 := Aside0.mk A440
       clear A440
       replace H := Option.bind_eq_some_iff.mp H
       obtain ⟨⟨t418, t419⟩, A450, H⟩ := H
       replace H : ((lang_Parse.f kj33 (⟨#[115, 101, 113, 40, 41]⟩ : ByteArray)).bind fun bt422 => ((lang_Parse.f kj33 (⟨#[97, 45]⟩ : ByteArray)).bind fun bt426 => (if t403 = 0 then (if t413 = 0 then (if t415 = 0 then (if t419 = 1 then (if bt422.2 = 2 then (if bt426.2 = 8 then (if t412 = 24 then ((dancestudioref35_Words.f kj33 t414 (([(⟨#[97]⟩ : ByteArray), (⟨#[98]⟩ : ByteArray)] : List ByteArray))).bind fun t433 => (if t433 = true then ((lang_Check.f kj33 ([] : List (S43))).bind fun t434 => (some (t434 == 4))) else (none))) else (none)) else (none)) else (none)) else (none)) else (none)) else (none)) else (none)))) = some r := H
       have A45 := Aside0.mk A450
       clear A450
       replace H := Option.bind_eq_some_iff.mp H
       obtain ⟨⟨t422, t423⟩, A460, H⟩ := H
       replace H : ((lang_Parse.f kj33 (⟨#[97, 45]⟩ : ByteArray)).bind fun bt426 => (if t403 = 0 then (if t413 = 0 then (if t415 = 0 then (if t419 = 1 then (if t423 = 2 then (if bt426.2 = 8 then (if t412 = 24 then ((dancestudioref35_Words.f kj33 t414 (([(⟨#[97]⟩ : ByteArray), (⟨#[98]⟩ : ByteArray)] : List ByteArray))).bind fun t433 => (if t433 = true then ((lang_Check.f kj33 ([] : List (S43))).bind fun t434 => (some (t434 == 4))) else (none))) else (none)) else (none)) else (none)) else (none)) else (none)) else (none)) else (none))) = some r := H
       have A46 := Aside0.mk A460
       clear A460
       replace H := Option.bind_eq_some_iff.mp H
       obtain ⟨⟨t426, t427⟩, A470, H⟩ := H
       replace H : (if t403 = 0 then (if t413 = 0 then (if t415 = 0 then (if t419 = 1 then (if t423 = 2 then (if t427 = 8 then (if t412 = 24 then ((dancestudioref35_Words.f kj33 t414 (([(⟨#[97]⟩ : ByteArray), (⟨#[98]⟩ : ByteArray)] : List ByteArray))).bind fun t433 => (if t433 = true then ((lang_Check.f kj33 ([] : List (S43))).bind fun t434 => (some (t434 == 4))) else (none))) else (none)) else (none)) else (none)) else (none)) else (none)) else (none)) else (none)) = some r := H
       have A47 := Aside0.mk A470
       clear A470
       obtain ⟨c48, H⟩ : (t403 = 0) ∧ _ := mIf H
       have c48b0 := beq_iff_eq.mpr c48
       have c48b1 := bne_eq_false_iff_eq.mpr c48
       clear c48
       obtain ⟨c49, H⟩ : (t413 = 0) ∧ _ := mIf H
       have c49b0 := beq_iff_eq.mpr c49
       have c49b1 := bne_eq_false_iff_eq.mpr c49
       clear c49
       obtain ⟨c50, H⟩ : (t415 = 0) ∧ _ := mIf H
       have c50b0 := beq_iff_eq.mpr c50
       have c50b1 := bne_eq_false_iff_eq.mpr c50
       clear c50
       obtain ⟨c51, H⟩ : (t419 = 1) ∧ _ := mIf H
       have c51b0 := beq_iff_eq.mpr c51
       have c51b1 := bne_eq_false_iff_eq.mpr c51
       clear c51
       obtain ⟨c52, H⟩ : (t423 = 2) ∧ _ := mIf H
       have c52b0 := beq_iff_eq.mpr c52
       have c52b1 := bne_eq_false_iff_eq.mpr c52
       clear c52
       obtain ⟨c53, H⟩ : (t427 = 8) ∧ _ := mIf H
       have c53b0 := beq_iff_eq.mpr c53
       have c53b1 := bne_eq_false_iff_eq.mpr c53
       clear c53
       obtain ⟨c54, H⟩ : (t412 = 24) ∧ _ := mIf H
       have c54b0 := beq_iff_eq.mpr c54
       have c54b1 := bne_eq_false_iff_eq.mpr c54
       clear c54
       obtain ⟨y430, hy430⟩ : ∃ y_ : List ByteArray, y_ = (([(⟨#[97]⟩ : ByteArray), (⟨#[98]⟩ : ByteArray)] : List ByteArray)) := ⟨_, rfl⟩
       replace H : ((dancestudioref35_Words.f kj33 t414 y430).bind fun t433 => (if t433 = true then ((lang_Check.f kj33 ([] : List (S43))).bind fun t434 => (some (t434 == 4))) else (none))) = some r := by first | (rw [hy430]; with_reducible exact H) | (have H2_ := (Option.bind_some _ _).symm.trans H; rw [hy430]; with_reducible exact H2_) | (have H2_ := (Option.bind_some _ _).symm.trans H; with_reducible exact H2_) | with_reducible exact H | (rw [hy430]; exact H) | exact H
       have Ny430 := Aside0.mk hy430
       clear hy430
       replace H := Option.bind_eq_some_iff.mp H
       obtain ⟨t433, A550, H⟩ := H
       try dsimp only at H
       have A55 := Aside0.mk A550
       clear A550
       by_cases c56 : t433 = true
       rotate_left
       ·
        replace c56 := Bool.eq_false_iff.mpr c56
        subst c56
        rw [if_neg (show ¬ (false = true) by decide)] at H
        exact absurd H (by simp)
       subst c56
       rw [if_pos rfl] at H
       replace H := Option.bind_eq_some_iff.mp H
       obtain ⟨t434, A570, H⟩ := H
       try dsimp only at H
       have A57 := Aside0.mk A570
       clear A570
       obtain rfl := Option.some.inj H
       go_wp2_with (first | ((with_reducible refine gate_callee (f := 19) rfl ?_); refine goesL_ (some 67) rfl rfl Tryd.func19 (by kernel_rfl) rfl #[.string (⟨#[115, 101, 113, 40, 97, 44, 32, 115, 116, 114, 101, 116, 99, 104, 40, 98, 44, 32, 50, 41, 41]⟩ : ByteArray)] rfl (mA1 rfl) ?_; (with_reducible refine (lang_Parse.calls kj33 (⟨#[115, 101, 113, 40, 97, 44, 32, 115, 116, 114, 101, 116, 99, 104, 40, 98, 44, 32, 50, 41, 41]⟩ : ByteArray) t402 t403 _ ?sidem_ A42.out).mono ?_); (case sidem_ => first | ((repeat (first | exact HMX_.out | apply Mx.drewN | apply Mx.drew)); done) | (refine Mx.below HMX_.out ?_; (repeat (first | (with_reducible first | exact HB.out | apply below_alloc | apply pw_below_drewN | apply below_drew1 | refine below_set ?_ (Aside0.out (by assumption))) | exact HB.out)); done)); rintro e w58 ⟨v404, rfl, ho0, hb⟩; refine ⟨_, rfl, ?_⟩; have HO405 := Aside0.mk (Kd.R_lower ho0 (below_size (hO HB))); replace HB := mSx HB hb; (try clear hb); (try clear ho0)) | ((with_reducible refine gate_dst (N := 72) rfl ?_); (try (refine gate_guard (by rfl) ?_; dsimp only)); refine Kd.R_lit Kd.string _ 9 ?hg (N := 72) ?hd (xs := ([(⟨#[97]⟩ : ByteArray), (⟨#[98]⟩ : ByteArray)] : List ByteArray)) (inner := [.string (⟨#[97]⟩ : ByteArray), .string (⟨#[98]⟩ : ByteArray)]) (ok := fun _ => True) (okp := fun _ => True) ?hr ?hp (fun _ hk => hk) trivial (Below.refl _ _) (Nat.le_refl _) (by simp) ?_; (case hd => rfl); (case hg => rfl); (case hr => first | (go_simp; done) | (go_simp; rfl)); (case hp => exact (Reps.one (show Kd.M Kd.string _ _ _ (⟨#[97]⟩ : ByteArray) [.string (⟨#[97]⟩ : ByteArray)] from rfl) (Reps.one (show Kd.M Kd.string _ _ _ (⟨#[98]⟩ : ByteArray) [.string (⟨#[98]⟩ : ByteArray)] from rfl) (Reps.none _ _)))); intro v407 w59 ho60 hb hg_ hnew_; clear hg_ hnew_; (first | rw [← Ny406.out] at ho60 | (simp only [Int.reduceToNat] at ho60; rw [← Ny406.out] at ho60)); replace HO405 := Aside0.mk (Kd.R_below (rO HO405) hb); have HO408 := Aside0.mk (Kd.R_lower ho60 (below_size (hO HB))); replace HB := mSx HB hb; clear hb ho60) | ((with_reducible refine gate_dst (N := 73) rfl ?_); (try (refine gate_guard (by rfl) ?_; dsimp only)); refine Kd.R_lit (Kd.int .i64) _ 3 ?hg (N := 73) ?hd (xs := ([10, 7] : List Int)) (inner := [.int .i64 10, .int .i64 7]) (ok := fun _ => True) (okp := fun _ => True) ?hr ?hp (fun _ hk => hk) trivial (Below.refl _ _) (Nat.le_refl _) (by simp) ?_; (case hd => rfl); (case hg => rfl); (case hr => first | (go_simp; done) | (go_simp; rfl)); (case hp => exact (Reps.one (show Kd.M (Kd.int .i64) _ _ _ 10 [.int .i64 10] from rfl) (Reps.one (show Kd.M (Kd.int .i64) _ _ _ 7 [.int .i64 7] from rfl) (Reps.none _ _)))); intro v410 w61 ho62 hb hg_ hnew_; clear hg_ hnew_; (first | rw [← Ny409.out] at ho62 | (simp only [Int.reduceToNat] at ho62; rw [← Ny409.out] at ho62)); replace HO405 := Aside0.mk (Kd.R_below (rO HO405) hb); replace HO408 := Aside0.mk (Kd.R_below (rO HO408) hb); have HO411 := Aside0.mk (Kd.R_lower ho62 (below_size (hO HB))); replace HB := mSx HB hb; clear hb ho62; obtain ⟨Ao63, co63, eo63⟩ := Kd.R_slice HO405.out; subst eo63; obtain ⟨Ao64, co64, eo64⟩ := Kd.R_slice HO408.out; subst eo64; obtain ⟨Ao65, co65, eo65⟩ := Kd.R_slice HO411.out; subst eo65) | ((with_reducible refine gate_callee (f := 24) rfl ?_); refine goesL_ (some 74) rfl rfl Tryd.func24 (by kernel_rfl) rfl #[.slice Ao63 t402.length co63, .slice Ao64 y406.length co64, .slice Ao65 y409.length co65] rfl (mA3 rfl rfl rfl) ?_; (with_reducible refine (lang_Length.calls kj33 _ _ t402 _ _ y406 _ _ y409 t412 t413 _ ?side1 ?side2 ?side3 ?side4 ?side5 ?side6 ?sidem_ A43.out).mono ?_); (case sidem_ => first | ((repeat (first | exact HMX_.out | apply Mx.drewN | apply Mx.drew)); done) | (refine Mx.below HMX_.out ?_; (repeat (first | (with_reducible first | exact HB.out | apply below_alloc | apply pw_below_drewN | apply below_drew1 | refine below_set ?_ (Aside0.out (by assumption))) | exact HB.out)); done)); (case side1 => exact cO (Kd.R_reads' HO405.out).2.2); (case side2 => exact (Kd.R_reads' HO405.out).2.1); (case side3 => exact cO (Kd.R_reads' HO408.out).2.2); (case side4 => exact (Kd.R_reads' HO408.out).2.1); (case side5 => exact cO (Kd.R_reads' HO411.out).2.2); (case side6 => exact (Kd.R_reads' HO411.out).2.1); rintro e w66 ⟨rfl, hb⟩; refine ⟨_, rfl, ?_⟩; replace HO405 := Aside0.mk (Kd.R_below (rO HO405) hb); replace HO408 := Aside0.mk (Kd.R_below (rO HO408) hb); replace HO411 := Aside0.mk (Kd.R_below (rO HO411) hb); replace HB := mSx HB hb; (try clear hb)) | ((with_reducible refine gate_callee (f := 14) rfl ?_); refine goesL_ (some 79) rfl rfl Tryd.func14 (by kernel_rfl) rfl #[.slice Ao63 t402.length co63] rfl (mA1 rfl) ?_; (with_reducible refine (lang_Names.calls kj33 _ _ t402 t414 t415 _ ?side1 ?side2 ?sidem_ A44.out).mono ?_); (case sidem_ => first | ((repeat (first | exact HMX_.out | apply Mx.drewN | apply Mx.drew)); done) | (refine Mx.below HMX_.out ?_; (repeat (first | (with_reducible first | exact HB.out | apply below_alloc | apply pw_below_drewN | apply below_drew1 | refine below_set ?_ (Aside0.out (by assumption))) | exact HB.out)); done)); (case side1 => exact cO (Kd.R_reads' HO405.out).2.2); (case side2 => exact (Kd.R_reads' HO405.out).2.1); rintro e w67 ⟨v416, rfl, ho0, hb⟩; refine ⟨_, rfl, ?_⟩; replace HO405 := Aside0.mk (Kd.R_below (rO HO405) hb); replace HO411 := Aside0.mk (Kd.R_below (rO HO411) hb); have HO417 := Aside0.mk (Kd.R_lower (Kd.R_new' ho0 (Kd.R_lt (rO HO408))) (below_size (hO HB))); replace HO408 := Aside0.mk (Kd.R_elder' (rO HO408) (Kd.R_base ho0) hb); replace HB := mSx HB hb; (try clear hb); (try clear ho0)) | ((with_reducible refine gate_callee (f := 19) rfl ?_); refine goesL_ (some 83) rfl rfl Tryd.func19 (by kernel_rfl) rfl #[.string (⟨#[114, 111, 116, 97, 116, 101, 40, 97, 44, 32, 52, 41]⟩ : ByteArray)] rfl (mA1 rfl) ?_; (with_reducible refine (lang_Parse.calls kj33 (⟨#[114, 111, 116, 97, 116, 101, 40, 97, 44, 32, 52, 41]⟩ : ByteArray) t418 t419 _ ?sidem_ A45.out).mono ?_); (case sidem_ => first | ((repeat (first | exact HMX_.out | apply Mx.drewN | apply Mx.drew)); done) | (refine Mx.below HMX_.out ?_; (repeat (first | (with_reducible first | exact HB.out | apply below_alloc | apply pw_below_drewN | apply below_drew1 | refine below_set ?_ (Aside0.out (by assumption))) | exact HB.out)); done)); rintro e w68 ⟨v420, rfl, ho0, hb⟩; refine ⟨_, rfl, ?_⟩; replace HO408 := Aside0.mk (Kd.R_below (rO HO408) hb); replace HO411 := Aside0.mk (Kd.R_below (rO HO411) hb); replace HO417 := Aside0.mk (Kd.R_below (rO HO417) hb); have HO421 := Aside0.mk (Kd.R_lower (Kd.R_new' ho0 (Kd.R_lt (rO HO405))) (below_size (hO HB))); replace HO405 := Aside0.mk (Kd.R_elder' (rO HO405) (Kd.R_base ho0) hb); replace HB := mSx HB hb; (try clear hb); (try clear ho0)) | ((with_reducible refine gate_callee (f := 19) rfl ?_); refine goesL_ (some 87) rfl rfl Tryd.func19 (by kernel_rfl) rfl #[.string (⟨#[115, 101, 113, 40, 41]⟩ : ByteArray)] rfl (mA1 rfl) ?_; (with_reducible refine (lang_Parse.calls kj33 (⟨#[115, 101, 113, 40, 41]⟩ : ByteArray) t422 t423 _ ?sidem_ A46.out).mono ?_); (case sidem_ => first | ((repeat (first | exact HMX_.out | apply Mx.drewN | apply Mx.drew)); done) | (refine Mx.below HMX_.out ?_; (repeat (first | (with_reducible first | exact HB.out | apply below_alloc | apply pw_below_drewN | apply below_drew1 | refine below_set ?_ (Aside0.out (by assumption))) | exact HB.out)); done)); rintro e w69 ⟨v424, rfl, ho0, hb⟩; refine ⟨_, rfl, ?_⟩; replace HO408 := Aside0.mk (Kd.R_below (rO HO408) hb); replace HO411 := Aside0.mk (Kd.R_below (rO HO411) hb); replace HO417 := Aside0.mk (Kd.R_below (rO HO417) hb); have HO425 := Aside0.mk (Kd.R_lower (Kd.R_new' (Kd.R_new' ho0 (Kd.R_lt (rO HO405))) (Kd.R_lt (rO HO421))) (below_size (hO HB))); replace HO405 := Aside0.mk (Kd.R_elder' (rO HO405) (Kd.R_base ho0) hb); replace HO421 := Aside0.mk (Kd.R_elder' (rO HO421) (Kd.R_base ho0) hb); replace HB := mSx HB hb; (try clear hb); (try clear ho0)) | ((with_reducible refine gate_callee (f := 19) rfl ?_); refine goesL_ (some 91) rfl rfl Tryd.func19 (by kernel_rfl) rfl #[.string (⟨#[97, 45]⟩ : ByteArray)] rfl (mA1 rfl) ?_; (with_reducible refine (lang_Parse.calls kj33 (⟨#[97, 45]⟩ : ByteArray) t426 t427 _ ?sidem_ A47.out).mono ?_); (case sidem_ => first | ((repeat (first | exact HMX_.out | apply Mx.drewN | apply Mx.drew)); done) | (refine Mx.below HMX_.out ?_; (repeat (first | (with_reducible first | exact HB.out | apply below_alloc | apply pw_below_drewN | apply below_drew1 | refine below_set ?_ (Aside0.out (by assumption))) | exact HB.out)); done)); rintro e w70 ⟨v428, rfl, ho0, hb⟩; refine ⟨_, rfl, ?_⟩; replace HO408 := Aside0.mk (Kd.R_below (rO HO408) hb); replace HO411 := Aside0.mk (Kd.R_below (rO HO411) hb); replace HO417 := Aside0.mk (Kd.R_below (rO HO417) hb); have HO429 := Aside0.mk (Kd.R_lower (Kd.R_new' (Kd.R_new' (Kd.R_new' ho0 (Kd.R_lt (rO HO405))) (Kd.R_lt (rO HO421))) (Kd.R_lt (rO HO425))) (below_size (hO HB))); replace HO405 := Aside0.mk (Kd.R_elder' (rO HO405) (Kd.R_base ho0) hb); replace HO421 := Aside0.mk (Kd.R_elder' (rO HO421) (Kd.R_base ho0) hb); replace HO425 := Aside0.mk (Kd.R_elder' (rO HO425) (Kd.R_base ho0) hb); replace HB := mSx HB hb; (try clear hb); (try clear ho0)) | ((with_reducible refine gate_dst (N := 122) rfl ?_); (try (refine gate_guard (by rfl) ?_; dsimp only)); refine Kd.R_lit Kd.string _ 9 ?hg (N := 122) ?hd (xs := ([(⟨#[97]⟩ : ByteArray), (⟨#[98]⟩ : ByteArray)] : List ByteArray)) (inner := [.string (⟨#[97]⟩ : ByteArray), .string (⟨#[98]⟩ : ByteArray)]) (ok := fun _ => True) (okp := fun _ => True) ?hr ?hp (fun _ hk => hk) trivial (Below.refl _ _) (Nat.le_refl _) (by simp) ?_; (case hd => rfl); (case hg => rfl); (case hr => first | (go_simp; done) | (go_simp; rfl)); (case hp => exact (Reps.one (show Kd.M Kd.string _ _ _ (⟨#[97]⟩ : ByteArray) [.string (⟨#[97]⟩ : ByteArray)] from rfl) (Reps.one (show Kd.M Kd.string _ _ _ (⟨#[98]⟩ : ByteArray) [.string (⟨#[98]⟩ : ByteArray)] from rfl) (Reps.none _ _)))); intro v431 w71 ho72 hb hg_ hnew_; clear hg_ hnew_; (first | rw [← Ny430.out] at ho72 | (simp only [Int.reduceToNat] at ho72; rw [← Ny430.out] at ho72)); replace HO405 := Aside0.mk (Kd.R_below (rO HO405) hb); replace HO411 := Aside0.mk (Kd.R_below (rO HO411) hb); replace HO421 := Aside0.mk (Kd.R_below (rO HO421) hb); replace HO425 := Aside0.mk (Kd.R_below (rO HO425) hb); replace HO429 := Aside0.mk (Kd.R_below (rO HO429) hb); have HO432 := Aside0.mk (Kd.R_lower (Kd.R_new' (Kd.R_new' ho72 (Kd.R_lt (rO HO408))) (Kd.R_lt (rO HO417))) (below_size (hO HB))); replace HO408 := Aside0.mk (Kd.R_elder' (rO HO408) (Kd.R_base ho72) hb); replace HO417 := Aside0.mk (Kd.R_elder' (rO HO417) (Kd.R_base ho72) hb); replace HB := mSx HB hb; clear hb ho72; obtain ⟨Ao73, co73, eo73⟩ := Kd.R_slice HO417.out; subst eo73; obtain ⟨Ao74, co74, eo74⟩ := Kd.R_slice HO432.out; subst eo74) | (go_at_call 18; (with_reducible refine (dancestudioref35_Words.calls kj33 _ _ t414 _ _ y430 true _ (cO (Kd.R_reads' HO417.out).2.2) ((Kd.R_reads' HO417.out).2.1) (cO (Kd.R_reads' HO432.out).2.2) ((Kd.R_reads' HO432.out).2.1) A55.out).mono ?_); rintro e w' ⟨rfl, ⟨nd, rfl⟩⟩) | (go_at_call 16; (refine (lang_Check.calls kj33 _ _ ([] : List (S43)) t434 _ ?side1 ?side2 ?sidem_ A57.out).mono ?_); (case sidem_ => first | ((repeat (first | exact HMX_.out | apply Mx.drewN | apply Mx.drew)); done) | (refine Mx.below HMX_.out ?_; (repeat (first | (with_reducible first | exact HB.out | apply below_alloc | apply pw_below_drewN | apply below_drew1 | refine below_set ?_ (Aside0.out (by assumption))) | exact HB.out)); done)); (case side1 => exact Kd.C_nil _ _); (case side2 => exact Nat.le_refl _); rintro e w75 ⟨rfl, hb⟩; replace HO405 := Aside0.mk (Kd.R_below (rO HO405) hb); replace HO408 := Aside0.mk (Kd.R_below (rO HO408) hb); replace HO411 := Aside0.mk (Kd.R_below (rO HO411) hb); replace HO417 := Aside0.mk (Kd.R_below (rO HO417) hb); replace HO421 := Aside0.mk (Kd.R_below (rO HO421) hb); replace HO425 := Aside0.mk (Kd.R_below (rO HO425) hb); replace HO429 := Aside0.mk (Kd.R_below (rO HO429) hb); replace HO432 := Aside0.mk (Kd.R_below (rO HO432) hb); replace HB := mSx HB hb; (try clear hb)))
       go_ret
       exact ⟨rfl, HB.out⟩
end Go.Proofs.YtimikhbnihedkaaDoor.PAll
/- The chapter's examples. -/
namespace Go.Proofs.YtimikhbnihedkaaDoor.PAll
open Go Go.RowKit Go.Proofs.YtimikhbnihedkaaDoorW.PrintWords Go.Proofs.YtimikhbnihedkaaDoorW.PrintLast Go.Proofs.YtimikhbnihedkaaDoorW.PrintMore Go.Proofs.YtimikhbnihedkaaDoor.MathNum Go.Proofs.YtimikhbnihedkaaDoor.EvWords
set_option maxRecDepth 100000 in
theorem awake_all (k : Nat) : dancestudiolaw35_awake.f (k + 200) = some true := by kernel_rfl
theorem awake_ev : Ev (fun k => dancestudiolaw35_awake.f k) true := ⟨200, fun k hk => by obtain ⟨m, rfl⟩ : ∃ m, k = m + 200 := ⟨k - 200, by omega⟩; exact awake_all m⟩
theorem awake_out : Ev (fun k => (dancestudiolaw35_awake.f k).bind fun t => some t) true := Ev.bind awake_ev (ev_now _)
end Go.Proofs.YtimikhbnihedkaaDoor.PAll
namespace Go.Proofs.YtimikhbnihedkaaDoor.PAll
open Go.RowKit Go.Proofs.YtimikhbnihedkaaDoorW.PrintWords Go.Proofs.YtimikhbnihedkaaDoorW.PrintLast Go.Proofs.YtimikhbnihedkaaDoorW.PrintMore
attribute [local go_sem] max2_int min2_int max_two min_two max_three min_three max_four min_four
set_option linter.unusedVariables false
set_option linter.unusedSimpArgs false
mutual
def dancestudiolaw35_short.l0 : Nat → List (S43) → Int → Option (Bool)
 | 0, _, _ => none
 | k + 1, x0, x3 => if x3 < (x0.length : Int) then (dancestudiolaw35_short.j1 k x0 x3 (decide (x3 < 80))) else (dancestudiolaw35_short.j1 k x0 x3 false)
def dancestudiolaw35_short.j1 : Nat → List (S43) → Int → Bool → Option (Bool)
 | 0, _, _, _ => none
 | k + 1, x0, x3, x11 => if x11 = true then (if 0 ≤ x3 then (if x3 < (x0.length : Int) then (if (((rd_T43 x0 x3).f1).size : Int) > 40 then (some false) else (dancestudiolaw35_short.l0 k x0 (wrap64 (x3 + 1)))) else (none)) else (none)) else (some (decide ((x0.length : Int) ≤ 80)))
end
def dancestudiolaw35_short.f (k : Nat) (l0 : List (S43)) : Option (Bool) := dancestudiolaw35_short.l0 k l0 0
set_option maxHeartbeats 8000000 in
set_option maxRecDepth 100000 in
theorem dancestudiolaw35_short.calls (k : Nat) (A0 : Option Addr) (c0 : Nat) (l0 : List (S43)) (r : Bool) (w : World) (hr0 : Kd.C k43 w A0 l0.length l0) (hc0 : l0.length ≤ c0) (h : dancestudiolaw35_short.f k l0 = some r) :
  Calls Tryd.prog 10 #[.slice A0 l0.length c0] w fun e w' => e = .returned (.bool r) ∧ Drawn0 w w' := by
 have HR0 := Aside0.mk hr0
 have HC0 := Aside0.mk hc0
 clear hr0 hc0
 have H := h
 unfold dancestudiolaw35_short.f at H
 clear h
 have H' := Aside0.mk H
 clear H
 go_enter Tryd.func10, Tryd.ntmps10
 go_wp2
 go_loopg [3] k (fun kq v3 w' => ∃ (x3_1 : Int), v3 = .int .i64 x3_1 ∧ Aside0 (dancestudiolaw35_short.l0 kq l0 x3_1 = some r) ∧ Aside0 (kq ≤ k) ∧ Drawn0 w w')
 case atStart => exact ⟨(0), rfl, H', ⟨Nat.le_refl _⟩, by repeat (first | exact Drawn0.refl _ | apply Drawn0.step)⟩
 case round =>
  clear H'
  obtain ⟨x3_1, rfl, HA, HK1, ⟨m1, rfl⟩⟩ := hrel
  cases gk with
  | zero => exact absurd HA.out (by simp [dancestudiolaw35_short.l0])
  | succ k1 =>
   have H := HA.out
   clear HA
   simp only [dancestudiolaw35_short.l0] at H
   have HC2 := Aside0.mk H
   clear H
   go_upto_region 2 with (fail)
   go_cut [11] (fun v11 wc => ∃ (kq : Nat) (x11_1 : Bool), v11 = .bool x11_1 ∧ Aside0 (dancestudiolaw35_short.j1 kq l0 x3_1 x11_1 = some r) ∧ Aside0 (kq ≤ k1) ∧ Drawn0 w wc)
   case first =>
    have H := HC2.out
    clear HC2
    by_cases c3 : x3_1 < (l0.length : Int)
    rotate_left
    ·
     rw [if_neg c3] at H
     have c3b0 := decide_eq_false c3
     clear c3
     (first | rw [c3b0] | (simp only [i64_w, i32_w]; rw [c3b0]) | skip)
     have H' := Aside0.mk H
     clear H
     go_wp2
     go_meet
     case rel => exact ⟨_, (false), rfl, H', ⟨by have := HK1.out; first | omega | exact Nat.le_refl _⟩, by repeat (first | exact Drawn0.refl _ | apply Drawn0.step)⟩
    rw [if_pos c3] at H
    have c3b0 := decide_eq_true c3
    clear c3
    (first | rw [c3b0] | (simp only [i64_w, i32_w]; rw [c3b0]) | skip)
    have H' := Aside0.mk H
    clear H
    go_wp2
    go_meet
    case rel => exact ⟨_, (decide (x3_1 < 80)), rfl, H', ⟨by have := HK1.out; first | omega | exact Nat.le_refl _⟩, by repeat (first | exact Drawn0.refl _ | apply Drawn0.step)⟩
   case rest =>
    clear HC2; try clear c1; try clear p2; try clear c3; try clear c3b0
    obtain ⟨kq, x11_1, rfl, HA, HJ1, ⟨mc1, rfl⟩⟩ := hcut
    cases kq with
    | zero => exact absurd HA.out (by simp [dancestudiolaw35_short.j1])
    | succ kj1 =>
     have H := HA.out
     clear HA
     simp only [dancestudiolaw35_short.j1] at H
     by_cases c4 : x11_1 = true
     rotate_left
     ·
      replace c4 := Bool.eq_false_iff.mpr c4
      subst c4
      rw [if_neg (show ¬ (false = true) by decide)] at H
      obtain rfl := Option.some.inj H
      go_wp2
      go_ret
      exact ⟨by first | rfl | (simp; done) | (simp [*]; done), by repeat (first | exact Drawn0.refl _ | apply Drawn0.step)⟩
     subst c4
     rw [if_pos rfl] at H
     obtain ⟨c5, H⟩ : (0 ≤ x3_1) ∧ _ := mIf H
     have c5b0 := decide_eq_true c5
     clear c5
     obtain ⟨c6, H⟩ : (x3_1 < (l0.length : Int)) ∧ _ := mIf H
     have c6b0 := decide_eq_true c6
     clear c6
     by_cases c7 : (((rd_T43 l0 x3_1).f1).size : Int) > 40
     ·
      rw [if_pos c7] at H
      have c7b0 := decide_eq_true c7
      have c7b1 : decide (40 < ((rd_T43 l0 x3_1).f1).size) = true := decide_eq_true (by omega)
      clear c7
      obtain rfl := Option.some.inj H
      have p101 : 0 ≤ (x3_1 : Int) := of_decide_eq_true (by assumption)
      have q101 : x3_1 < (l0.length : Int) := of_decide_eq_true (by assumption)
      obtain ⟨ad101, e101, hx101_0, hx101_1, hx101_2, hx101_3⟩ := at_T43 HR0.out x3_1 p101 q101
      cases e101
      replace p101 := eq_true p101
      replace q101 := eq_true q101
      go_wp2
      go_ret
      exact ⟨by first | rfl | (simp; done) | (simp [*]; done), by repeat (first | exact Drawn0.refl _ | apply Drawn0.step)⟩
     rw [if_neg c7] at H
     have c7b0 := decide_eq_false c7
     have c7b1 : decide (40 < ((rd_T43 l0 x3_1).f1).size) = false := decide_eq_false (by omega)
     clear c7
     have H' := Aside0.mk H
     clear H
     have p101 : 0 ≤ (x3_1 : Int) := of_decide_eq_true (by assumption)
     have q101 : x3_1 < (l0.length : Int) := of_decide_eq_true (by assumption)
     obtain ⟨ad101, e101, hx101_0, hx101_1, hx101_2, hx101_3⟩ := at_T43 HR0.out x3_1 p101 q101
     cases e101
     replace p101 := eq_true p101
     replace q101 := eq_true q101
     go_wp2
     go_roundg kj1
     case measure => have := HK1.out; have := HJ1.out; omega
     case rel => exact ⟨(wrap64 (x3_1 + 1)), rfl, H', ⟨by have := HK1.out; have := HJ1.out; omega⟩, by repeat (first | exact Drawn0.refl _ | apply Drawn0.step)⟩
end Go.Proofs.YtimikhbnihedkaaDoor.PAll
/- What the laws of expressions share (plain). -/
namespace Go.Proofs.YtimikhbnihedkaaDoor.PAll
set_option linter.unusedVariables false
set_option linter.unusedSectionVars false
set_option linter.unusedSimpArgs false
open Go Go.RowKit Go.Proofs.YtimikhbnihedkaaDoorW.PrintWords Go.Proofs.YtimikhbnihedkaaDoorW.PrintLast Go.Proofs.YtimikhbnihedkaaDoorW.PrintMore Go.Proofs.YtimikhbnihedkaaDoor.MathNum Go.Proofs.YtimikhbnihedkaaDoor.EvWords

theorem short_l0 (l : List S43) (d : Nat) : ∀ i : Nat, i + d = 80 → ∃ b : Bool, (b = true → (l.length : Int) ≤ 80) ∧ Ev (fun k => dancestudiolaw35_short.l0 k l (i : Int)) b := by
  have done : ∀ x3 : Int, ∃ b : Bool, (b = true → (l.length : Int) ≤ 80) ∧ Ev (fun k => dancestudiolaw35_short.j1 k l x3 false) b := fun x3 =>
    ⟨decide ((l.length : Int) ≤ 80), fun h => of_decide_eq_true h, ev_step (fun k => by simp only [dancestudiolaw35_short.j1] <;> exact rfl) (ev_neg (by decide) (ev_now _))⟩
  induction d with
  | zero =>
    intro i hi
    obtain ⟨b, hb, e⟩ := done (i : Int)
    refine ⟨b, hb, ev_step (fun k => by simp only [dancestudiolaw35_short.l0] <;> exact rfl) (ev_ite (fun h => ?_) (fun h => e))⟩
    rw [show decide ((i : Int) < 80) = false from by rw [decide_eq_false_iff_not]; omega]; exact e
  | succ d ih =>
    intro i hi
    by_cases h : (i : Int) < (l.length : Int)
    · by_cases h4 : (((rd_T43 l i).f1).size : Int) > 40
      · refine ⟨false, fun q => by (cases q), ev_step (fun k => by simp only [dancestudiolaw35_short.l0] <;> exact rfl) (ev_pos h ?_)⟩
        rw [show decide ((i : Int) < 80) = true from by rw [decide_eq_true_iff]; omega]
        exact ev_step (fun k => by simp only [dancestudiolaw35_short.j1] <;> exact rfl) (ev_pos (by first | trivial | rfl) (ev_pos (by omega) (ev_pos h (ev_pos h4 (ev_now _)))))
      · obtain ⟨b, hb, e⟩ := ih (i + 1) (by omega)
        refine ⟨b, hb, ev_step (fun k => by simp only [dancestudiolaw35_short.l0] <;> exact rfl) (ev_pos h ?_)⟩
        rw [show decide ((i : Int) < 80) = true from by rw [decide_eq_true_iff]; omega]
        refine ev_step (fun k => by simp only [dancestudiolaw35_short.j1] <;> exact rfl) (ev_pos (by first | trivial | rfl) (ev_pos (by omega) (ev_pos h (ev_neg h4 ?_))))
        rw [w64 (by omega) (by omega)]; exact e
    · obtain ⟨b, hb, e⟩ := done (i : Int)
      exact ⟨b, hb, ev_step (fun k => by simp only [dancestudiolaw35_short.l0] <;> exact rfl) (ev_neg h e)⟩
theorem short_ev (l : List S43) : ∃ b : Bool, (b = true → l.length ≤ 80) ∧ Ev (fun k => dancestudiolaw35_short.f k l) b := by
  obtain ⟨b, hb, e⟩ := short_l0 l 80 0 rfl
  exact ⟨b, fun h => by have := hb h; omega, e⟩
theorem words_l0 (l : List ByteArray) (hn : l.length ≤ 1000) (d : Nat) : ∀ i : Nat, i + d = l.length → Ev (fun k => dancestudioref35_Words.l0 k l l (i : Int)) true := by
  induction d with
  | zero => intro i hi; exact ev_step (fun k => by simp only [dancestudioref35_Words.l0] <;> exact rfl) (ev_neg (by omega) (ev_now _))
  | succ d ih =>
    intro i hi
    refine ev_step (fun k => by simp only [dancestudioref35_Words.l0] <;> exact rfl) (ev_pos (by omega) (ev_pos (by omega) (ev_pos (by omega) (ev_pos (by first | trivial | rfl) ?_))))
    rw [w64 (by omega) (by omega)]; exact ih (i + 1) (by omega)
theorem words_ev (l : List ByteArray) (hn : l.length ≤ 1000) : Ev (fun k => dancestudioref35_Words.f k l l) true := ev_pos (by first | trivial | rfl) (words_l0 l hn l.length 0 (by omega))
end Go.Proofs.YtimikhbnihedkaaDoor.PAll
namespace Go.Proofs.YtimikhbnihedkaaDoor.PAll
set_option linter.unusedVariables false
set_option linter.unusedSectionVars false
set_option linter.unusedSimpArgs false
open Go Go.RowKit Go.Proofs.YtimikhbnihedkaaDoorW.PrintWords Go.Proofs.YtimikhbnihedkaaDoorW.PrintLast Go.Proofs.YtimikhbnihedkaaDoorW.PrintMore Go.Proofs.YtimikhbnihedkaaDoor.MathNum Go.Proofs.YtimikhbnihedkaaDoor.EvWords

/-- Forests: a node, what lies below it, and what follows it. -/
inductive Fo where
  | nil : Fo
  | cons (s : S43) (k r : Fo) : Fo
def Fo.flat : Fo → List S43
 | .nil => []
 | .cons s k r => s :: (k.flat ++ r.flat)
def Fo.count : Fo → Nat
 | .nil => 0
 | .cons _ _ r => r.count + 1
def Fo.ok : Fo → Prop
 | .nil => True
 | .cons s k r => s.f3 = (k.count : Int) ∧ k.ok ∧ r.ok
def Fo.trees : Fo → List (List S43)
 | .nil => []
 | .cons s k r => (s :: k.flat) :: r.trees
theorem Fo.trees_length : ∀ f : Fo, f.trees.length = f.count
 | .nil => rfl
 | .cons s k r => by simp only [Fo.trees, Fo.count, List.length_cons, Fo.trees_length r]
theorem Fo.split : ∀ (f : Fo) (a b : Nat), f.count = a + b → f.ok → ∃ g h : Fo, g.count = a ∧ h.count = b ∧ g.ok ∧ h.ok ∧ f.flat = g.flat ++ h.flat
 | f, 0, b, h, ho => ⟨.nil, f, rfl, by omega, trivial, ho, rfl⟩
 | .nil, a + 1, b, h, ho => by simp only [Fo.count] at h; omega
 | .cons s k r, a + 1, b, h, ho => by
  obtain ⟨g, h', e1, e2, o1, o2, e⟩ := Fo.split r a b (by simp only [Fo.count] at h; omega) ho.2.2
  exact ⟨.cons s k g, h', by simp only [Fo.count, e1], e2, ⟨ho.1, ho.2.1, o1⟩, o2, by simp only [Fo.flat, e, List.cons_append, List.append_assoc]⟩
theorem forest_of : ∀ (l : List S43) (x : Nat), (∀ s, s ∈ l → 0 ≤ s.f3) → okT (x : Int) l = true → ∃ f : Fo, f.flat = l ∧ f.count = x ∧ f.ok
 | [], x, _, h => ⟨.nil, rfl, by simp only [okT, decide_eq_true_eq] at h; simp only [Fo.count]; omega, trivial⟩
 | s :: l, x, ha, h => by
  simp only [okT] at h
  by_cases hx : (x : Int) = 0
  · rw [if_pos hx] at h; cases h
  rw [if_neg hx] at h
  have h0 := ha s (by simp)
  obtain ⟨n, hn⟩ := Int.eq_ofNat_of_zero_le h0
  obtain ⟨f, e, c, o⟩ := forest_of l ((x - 1) + n) (fun t ht => ha t (by simp [ht])) (by rw [show (((x - 1) + n : Nat) : Int) = (x : Int) + (s.f3 - 1) by omega]; exact h)
  obtain ⟨g, h', e1, e2, o1, o2, e3⟩ := Fo.split f n (x - 1) (by omega) o
  exact ⟨.cons s g h', by rw [← e, e3]; rfl, by simp only [Fo.count]; omega, by omega, o1, o2⟩
theorem Fo.count_le : ∀ f : Fo, f.count ≤ f.flat.length
 | .nil => Nat.le_refl _
 | .cons s k r => by have := Fo.count_le r; simp only [Fo.count, Fo.flat, List.length_cons, List.length_append]; omega
theorem Fo.ok_f3 : ∀ (f : Fo), f.ok → ∀ s, s ∈ f.flat → 0 ≤ s.f3 ∧ s.f3 ≤ (f.flat.length : Int)
 | .nil, _, s, h => by simp only [Fo.flat] at h; cases h
 | .cons s k r, ho, t, h => by
  simp only [Fo.flat, List.mem_cons, List.mem_append] at h
  have hl : (Fo.cons s k r).flat.length = 1 + k.flat.length + r.flat.length := by simp only [Fo.flat, List.length_cons, List.length_append]; omega
  have hc := Fo.count_le k
  rcases h with rfl | h | h
  · have := ho.1; omega
  · have := Fo.ok_f3 k ho.2.1 t h; omega
  · have := Fo.ok_f3 r ho.2.2 t h; omega
theorem rd43_drop {l : List S43} {p : Nat} {s : S43} {m : List S43} (h : l.drop p = s :: m) : p < l.length ∧ rd_T43 l (p : Int) = s ∧ l.drop (p + 1) = m := by
  have hp : p < l.length := by
    by_cases hp : p < l.length
    · exact hp
    · rw [List.drop_eq_nil_of_le (by omega)] at h; cases h
  rw [List.drop_eq_getElem_cons hp] at h
  injection h with h1 h2
  exact ⟨hp, by rw [rd43 l hp, h1], h2⟩
theorem drop_app {α : Type} {l a b : List α} {p : Nat} (h : l.drop p = a ++ b) : l.drop (p + a.length) = b := by
  rw [← List.drop_drop, h, List.drop_left]
section
variable (l : List S43) (hn : l.length ≤ 1000)
include hn
theorem parg_l1 (acc : List (List S43)) (fr n i : Int) (v : List (List S43)) : ∀ (f : Fo), f.ok → ∀ (p x : Nat) (rest : List S43), l.drop p = f.flat ++ rest → x + f.flat.length ≤ 2000 →
    Ev (fun k => lang_arguments.l1 k l acc ((p + f.flat.length : Nat) : Int) fr (x : Int) n i) v → Ev (fun k => lang_arguments.l1 k l acc (p : Int) fr ((x + f.count : Nat) : Int) n i) v
 | .nil, _, p, x, rest, _, _, e => e
 | .cons s k r, ho, p, x, rest, hd, hx, e => by
  obtain ⟨h3, hk, hr⟩ := ho
  have hd' : l.drop p = s :: (k.flat ++ (r.flat ++ rest)) := by rw [hd]; simp only [Fo.flat, List.cons_append, List.append_assoc]
  obtain ⟨hp, hs, hd1⟩ := rd43_drop hd'
  have hck := Fo.count_le k
  have hcr := Fo.count_le r
  simp only [Fo.flat, List.length_cons, List.length_append] at hx e
  simp only [Fo.count]
  refine ev_step (fun k => by simp only [lang_arguments.l1] <;> exact rfl) (ev_pos (by omega) (ev_pos (by omega) (ev_pos (by omega) ?_)))
  rw [hs, w64 (n := s.f3 - 1) (by omega) (by omega), w64 (n := (p : Int) + 1) (by omega) (by omega), w64 (n := ((x + (r.count + 1) : Nat) : Int) + (s.f3 - 1)) (by omega) (by omega),
    show (p : Int) + 1 = ((p + 1 : Nat) : Int) by omega, show ((x + (r.count + 1) : Nat) : Int) + (s.f3 - 1) = ((x + r.count + k.count : Nat) : Int) by omega]
  refine parg_l1 acc fr n i v k hk (p + 1) (x + r.count) (r.flat ++ rest) hd1 (by omega) ?_
  have hd2 := drop_app hd1
  refine parg_l1 acc fr n i v r hr (p + 1 + k.flat.length) x rest hd2 (by omega) ?_
  rw [show p + 1 + k.flat.length + r.flat.length = p + (k.flat.length + r.flat.length + 1) by omega]
  exact e
theorem parg_l0 : ∀ (f : Fo), f.ok → ∀ (p i n : Nat) (acc : List (List S43)), l.drop p = f.flat → i + f.count = n → acc.length ≤ p → n ≤ 1000 →
    Ev (fun k => lang_arguments.l0 k l acc (p : Int) (n : Int) (i : Int)) (acc ++ f.trees)
 | .nil, _, p, i, n, acc, hd, hi, ha, hnn => by
  simp only [Fo.count] at hi
  simp only [Fo.trees, List.append_nil]
  exact ev_step (fun k => by simp only [lang_arguments.l0] <;> exact rfl) (ev_neg (by omega) (ev_now _))
 | .cons s k r, ho, p, i, n, acc, hd, hi, ha, hnn => by
  obtain ⟨h3, hk, hr⟩ := ho
  simp only [Fo.count] at hi
  have hd' : l.drop p = (Fo.cons s k .nil).flat ++ r.flat := by rw [hd]; simp only [Fo.flat, List.append_nil, List.cons_append]
  have hl : p + (Fo.cons s k .nil).flat.length + r.flat.length = l.length := by
    have := congrArg List.length hd'
    have hp : p ≤ l.length := by
      by_cases hp : p ≤ l.length
      · exact hp
      · rw [List.drop_eq_nil_of_le (by omega)] at hd; cases hd
    rw [List.length_drop, List.length_append] at this; omega
  have hl1 : 1 ≤ (Fo.cons s k .nil).flat.length := by simp only [Fo.flat, List.length_cons]; omega
  refine ev_step (fun k => by simp only [lang_arguments.l0] <;> exact rfl) (ev_pos (by omega) ?_)
  have := parg_l1 l hn acc (p : Int) n i (acc ++ (Fo.cons s k r).trees) (.cons s k .nil) ⟨h3, hk, trivial⟩ p 0 r.flat hd' (by omega) ?_
  · exact this
  refine ev_step (fun k => by simp only [lang_arguments.l1] <;> exact rfl) (ev_neg (by omega) (ev_pos (by omega) (ev_pos (by omega) (ev_pos (by omega) (ev_pos (by omega) ?_)))))
  rw [w64 (by omega) (by omega), show (i : Int) + 1 = ((i + 1 : Nat) : Int) by omega, Int.toNat_natCast, Int.toNat_natCast, List.drop_take, hd', show p + (Fo.cons s k .nil).flat.length - p = (Fo.cons s k .nil).flat.length by omega, List.take_left]
  have e := parg_l0 r hr (p + (Fo.cons s k .nil).flat.length) (i + 1) n (acc ++ [(Fo.cons s k .nil).flat]) (drop_app hd') (by omega) (by rw [List.length_append, List.length_singleton]; omega) hnn
  simp only [Fo.trees]
  rw [List.append_assoc] at e
  simp only [Fo.flat, List.append_nil, List.singleton_append] at e ⊢
  exact e
end
/-- The program's arguments of a tree. -/
theorem parg_ev (s : S43) (k : Fo) (hk : k.ok) (h3 : s.f3 = (k.count : Int)) (hn : k.flat.length < 1000) : Ev (fun n => lang_arguments.f n (s :: k.flat)) k.trees := by
  unfold lang_arguments.f
  have hc := Fo.count_le k
  refine ev_pos (by simp only [List.length_cons]; omega) ?_
  have hs : rd_T43 (s :: k.flat) 0 = s := rfl
  rw [hs, h3]
  exact ev_eq (parg_l0 (s :: k.flat) (by simp only [List.length_cons]; omega) k hk 1 0 k.count [] rfl (by omega) (by simp) (by omega)) (List.nil_append _)
noncomputable def ndE (s : S43) : Int := nodeE s.f0 s.f1 s.f2 s.f3
/-- All nodes are right. -/
def Fo.nds (f : Fo) : Prop := ∀ s, s ∈ f.flat → ndE s = 0
theorem Fo.nds_cons {s : S43} {k r : Fo} (h : (Fo.cons s k r).nds) : ndE s = 0 ∧ k.nds ∧ r.nds :=
  ⟨h s (by simp only [Fo.flat, List.mem_cons, true_or]), fun t ht => h t (by simp only [Fo.flat, List.mem_cons, List.mem_append, ht, or_true, true_or]), fun t ht => h t (by simp only [Fo.flat, List.mem_cons, List.mem_append, ht, or_true])⟩
theorem chkE_split {l : List S43} : chkE l = 0 ↔ 1 ≤ l.length ∧ l.length ≤ 64 ∧ (∀ s, s ∈ l → ndE s = 0) ∧ okT 1 l = true := by
  have hnd : ∀ i, (h : i < l.length) → nodeI l i = ndE l[i] := fun i h => by unfold nodeI ndE; rw [rd43 l h]
  unfold chkE
  constructor
  · intro h
    by_cases h0 : (l.length : Int) = 0
    · rw [if_pos h0] at h; exact absurd h (by decide)
    rw [if_neg h0] at h
    by_cases h1 : (l.length : Int) > 64
    · rw [if_pos h1] at h; exact absurd h (by decide)
    rw [if_neg h1] at h
    obtain ⟨hz, hr⟩ := fe_zero h
    refine ⟨by omega, by omega, fun s hs => ?_, ?_⟩
    · obtain ⟨i, hi, rfl⟩ := List.getElem_of_mem hs
      rw [← hnd i hi]; exact hz i (by omega) (by omega)
    · by_cases ho : okT 1 l = true
      · exact ho
      · rw [if_neg ho] at hr; exact absurd hr (by decide)
  · rintro ⟨h1, h2, h3, h4⟩
    rw [if_neg (by omega), if_neg (by omega), if_pos h4]
    exact fe_of (fun j _ hj => by rw [hnd j (by omega)]; exact h3 _ (List.getElem_mem _))
theorem okT_forest : ∀ (f : Fo), f.ok → ∀ (x : Nat) (rest : List S43), okT ((x + f.count : Nat) : Int) (f.flat ++ rest) = okT (x : Int) rest
 | .nil, _, x, rest => rfl
 | .cons s k r, ho, x, rest => by
  obtain ⟨h3, hk, hr⟩ := ho
  have h1 := okT_forest k hk (x + r.count) (r.flat ++ rest)
  have h2 := okT_forest r hr x rest
  simp only [Fo.flat, Fo.count, List.cons_append, List.append_assoc, okT]
  rw [if_neg (by omega), show ((x + (r.count + 1) : Nat) : Int) + (s.f3 - 1) = ((x + r.count + k.count : Nat) : Int) by omega, h1, h2]
/-- A valid expression is a tree. -/
theorem tree_of {l : List S43} (h : chkE l = 0) : ∃ (s : S43) (k : Fo), l = s :: k.flat ∧ k.ok ∧ s.f3 = (k.count : Int) ∧ ndE s = 0 ∧ k.nds ∧ k.flat.length < 64 := by
  obtain ⟨h1, h2, h3, h4⟩ := chkE_split.1 h
  obtain ⟨f, e, c, o⟩ := forest_of l 1 (fun s hs => (nodeE_args (h3 s hs)).1) h4
  cases f with
  | nil => simp only [Fo.count] at c; omega
  | cons s k r =>
    have hr : r = .nil := by cases r with | nil => rfl | cons _ _ _ => simp only [Fo.count] at c; omega
    subst hr
    have e' : l = s :: k.flat := by rw [← e]; simp only [Fo.flat, List.append_nil]
    refine ⟨s, k, e', o.2.1, o.1, h3 s (by rw [e']; simp), fun t ht => h3 t (by rw [e']; simp [ht]), ?_⟩
    rw [e', List.length_cons] at h2; omega
theorem chk_tree (s : S43) (k : Fo) (ho : k.ok) (h3 : s.f3 = (k.count : Int)) (hs : ndE s = 0) (hk : k.nds) (hl : k.flat.length < 64) : chkE (s :: k.flat) = 0 := by
  refine chkE_split.2 ⟨by simp only [List.length_cons]; omega, by simp only [List.length_cons]; omega, fun t ht => ?_, ?_⟩
  · rcases List.mem_cons.1 ht with rfl | h
    · exact hs
    · exact hk t h
  · have := okT_forest (.cons s k .nil) ⟨h3, ho, trivial⟩ 0 []
    simp only [Fo.flat, List.append_nil, Fo.count] at this
    exact this
theorem Fo.nds8 {f : Fo} (h : f.nds) : ∀ s, s ∈ f.flat → 0 ≤ s.f3 ∧ s.f3 ≤ 8 := fun s hs => nodeE_args (h s hs)
end Go.Proofs.YtimikhbnihedkaaDoor.PAll
namespace Go.Proofs.YtimikhbnihedkaaDoor.PAll
set_option linter.unusedVariables false
set_option linter.unusedSectionVars false
set_option linter.unusedSimpArgs false
open Go Go.RowKit Go.Proofs.YtimikhbnihedkaaDoorW.PrintWords Go.Proofs.YtimikhbnihedkaaDoorW.PrintLast Go.Proofs.YtimikhbnihedkaaDoorW.PrintMore Go.Proofs.YtimikhbnihedkaaDoor.MathNum Go.Proofs.YtimikhbnihedkaaDoor.EvWords

def rOk (op n : Int) : Prop := (op = 5 → 0 ≤ n ∧ n ≤ 3) ∧ (op = 6 ∨ op = 7 → 1 ≤ n ∧ n ≤ 16) ∧ (op < 5 → n = 0)
def isName (s : S43) : Prop := s.f0 = 1 ∧ nameB s.f1 = true ∧ s.f2 = 0 ∧ s.f3 = 0
def isOp (s : S43) : Prop := 2 ≤ s.f0 ∧ s.f0 ≤ 7 ∧ s.f1.toList = [] ∧ rOk s.f0 s.f2 ∧ 1 ≤ s.f3 ∧ s.f3 ≤ 8 ∧ (s.f0 ≠ 2 → s.f3 = 1)
theorem argE_zero {op a : Int} : argE op a = 0 ↔ (op = 1 ∧ a = 0) ∨ (op = 2 ∧ 1 ≤ a ∧ a ≤ 8) ∨ (op ≠ 1 ∧ op ≠ 2 ∧ a = 1) := by
  unfold argE
  (repeat' split) <;> omega
theorem rngE_zero {op n a : Int} : rngE op n a = 0 ↔ ((op = 5 ∧ 0 ≤ n ∧ n ≤ 3) ∨ ((op = 6 ∨ op = 7) ∧ 1 ≤ n ∧ n ≤ 16) ∨ (op ≠ 5 ∧ op ≠ 6 ∧ op ≠ 7 ∧ n = 0)) ∧ argE op a = 0 := by
  unfold rngE
  (repeat' split) <;> omega
theorem ndE_iff {s : S43} : ndE s = 0 ↔ isName s ∨ isOp s := by
  unfold ndE nodeE isName isOp rOk
  by_cases h1 : s.f0 < 1
  · rw [if_pos h1]; constructor
    · intro h; exact absurd h (by decide)
    · rintro (h | h) <;> omega
  rw [if_neg h1]
  by_cases h2 : s.f0 > 7
  · rw [if_pos h2]; constructor
    · intro h; exact absurd h (by decide)
    · rintro (h | h) <;> omega
  rw [if_neg h2]
  by_cases h3 : s.f0 = 1
  · rw [if_pos h3]
    by_cases h4 : nameB s.f1 = true
    · rw [if_pos h4, rngE_zero, argE_zero]; constructor
      · intro h; exact .inl ⟨h3, h4, by omega, by omega⟩
      · rintro (h | h)
        · have := h.2.2.1; have := h.2.2.2; omega
        · omega
    · rw [if_neg h4]; constructor
      · intro h; exact absurd h (by decide)
      · rintro (h | h)
        · exact absurd h.2.1 h4
        · omega
  · rw [if_neg h3]
    by_cases h4 : s.f1.toList = []
    · rw [if_pos h4, rngE_zero, argE_zero]; constructor
      · intro h; exact .inr ⟨by omega, by omega, h4, ⟨by omega, by omega, by omega⟩, by omega, by omega, by omega⟩
      · rintro (h | h)
        · exact absurd h.1 h3
        · obtain ⟨a1, a2, a3, ⟨b1, b2, b3⟩, a4, a5, a6⟩ := h
          omega
    · rw [if_neg h4]; constructor
      · intro h; exact absurd h (by decide)
      · rintro (h | h)
        · exact absurd h.1 h3
        · exact absurd h.2.2.1 h4
def wd (op : Int) : Bs := if op = 2 then [115, 101, 113] else if op = 3 then [109, 105, 114, 114, 111, 114] else if op = 4 then [114, 101, 116, 114, 111] else if op = 5 then [114, 111, 116, 97, 116, 101] else if op = 6 then [115, 116, 114, 101, 116, 99, 104] else if op = 7 then [114, 101, 112, 101, 97, 116] else []
theorem pword_ev (op : Int) : lang_word.f op = some (mkB (wd op)) := by
  unfold lang_word.f wd
  (repeat' split) <;> rfl
theorem rword_ev (op : Int) : dancestudioref35_word.f op = some (mkB (wd op)) := by
  unfold dancestudioref35_word.f wd
  (repeat' split) <;> rfl
theorem wd_len (op : Int) : (wd op).length ≤ 7 := by
  unfold wd
  (repeat' split) <;> decide
theorem mkB_app (a b : Bs) : mkB a ++ mkB b = mkB (a ++ b) := by
  rw [ex_data (mkB a ++ mkB b)]
  congr 1
def dg (n : Int) : Bs := if n < 10 then [UInt8.ofNat (48 + n.toNat)] else [49, UInt8.ofNat (48 + (n.toNat - 10))]
theorem dg_len (n : Int) : (dg n).length ≤ 2 := by unfold dg; split <;> simp
def sepB : Bs := [44, 32]
def jn : List Bs → Bs
 | [] => []
 | [x] => x
 | x :: y :: l => x ++ sepB ++ jn (y :: l)
theorem jn_cons {x : Bs} {l : List Bs} (h : l ≠ []) : jn (x :: l) = x ++ sepB ++ jn l := by
  cases l with
  | nil => exact absurd rfl h
  | cons y l => rfl
theorem jn_snoc : ∀ (l : List Bs) (x : Bs), l ≠ [] → jn (l ++ [x]) = jn l ++ sepB ++ x
 | [], x, h => absurd rfl h
 | [y], x, h => rfl
 | y :: z :: l, x, h => by
  have := jn_snoc (z :: l) x (by simp)
  rw [List.cons_append, jn_cons (x := y) (l := z :: l ++ [x]) (by simp), this, jn_cons (x := y) (l := z :: l) (by simp)]
  simp only [List.append_assoc]
theorem join_jn : ∀ l : List Bs, Lib.join l sepB = jn l
 | [] => rfl
 | [x] => by simp [Lib.join, jn, List.intercalate]
 | x :: y :: l => by
  have h := join_jn (y :: l)
  unfold Lib.join List.intercalate at h ⊢
  rw [List.intersperse_cons_cons, List.flatten_cons, List.flatten_cons, h]
  simp [jn]
def jl : List Bs → Nat
 | [] => 0
 | x :: l => x.length + 2 + jl l
theorem jn_len : ∀ l : List Bs, (jn l).length ≤ jl l
 | [] => Nat.le_refl _
 | [x] => by simp [jn, jl]
 | x :: y :: l => by
  have := jn_len (y :: l)
  rw [jn_cons (by simp), jl]
  simp only [List.length_append, sepB, List.length_cons, List.length_nil]; omega
theorem jl_app : ∀ (a b : List Bs), jl (a ++ b) = jl a + jl b
 | [], b => by simp [jl]
 | x :: a, b => by rw [List.cons_append, jl, jl, jl_app a b]; omega
/-- What stands in the brackets. -/
def inner (s : S43) (l : List Bs) : List Bs := if s.f0 ≥ 5 then l ++ [dg s.f2] else l
def nodeT (s : S43) (l : List Bs) : Bs := if s.f0 = 1 then s.f1.data.toList else wd s.f0 ++ [40] ++ jn (inner s l) ++ [41]
def Fo.texts : Fo → List Bs
 | .nil => []
 | .cons s k r => nodeT s k.texts :: r.texts
theorem Fo.texts_length : ∀ f : Fo, f.texts.length = f.count
 | .nil => rfl
 | .cons s k r => by simp only [Fo.texts, Fo.count, List.length_cons, Fo.texts_length r]
theorem inner_len (s : S43) (l : List Bs) : jl (inner s l) ≤ jl l + 4 := by
  unfold inner
  split
  · rw [jl_app, jl, jl]; have := dg_len s.f2; omega
  · omega
theorem name_len {b : ByteArray} (h : nameB b = true) : b.data.toList.length ≤ 24 := ((nameB_iff b).1 h).2.1
theorem nodeT_len {s : S43} (hs : ndE s = 0) (l : List Bs) : (nodeT s l).length ≤ 24 + jl l := by
  unfold nodeT
  by_cases h : s.f0 = 1
  · rw [if_pos h]
    rcases ndE_iff.1 hs with h2 | h2
    · have := name_len h2.2.1; omega
    · have := h2.1; omega
  · rw [if_neg h]
    have h1 := wd_len s.f0
    have h2 := jn_len (inner s l)
    have h3 := inner_len s l
    simp only [List.length_append, List.length_cons, List.length_nil]; omega
theorem Fo.jl_texts : ∀ f : Fo, f.nds → jl f.texts ≤ 26 * f.flat.length
 | .nil, _ => Nat.le_refl _
 | .cons s k r, h => by
  obtain ⟨hs, hk, hr⟩ := Fo.nds_cons h
  have h1 := Fo.jl_texts k hk
  have h2 := Fo.jl_texts r hr
  have h3 := nodeT_len hs k.texts
  simp only [Fo.texts, jl, Fo.flat, List.length_cons, List.length_append]; omega
/-- Two lists, item by item. -/
def All2 {α β : Type} (P : α → β → Prop) : List α → List β → Prop
 | [], [] => True
 | a :: l, b :: m => P a b ∧ All2 P l m
 | _, _ => False
theorem All2.length {α β : Type} {P : α → β → Prop} : ∀ {l : List α} {m : List β}, All2 P l m → l.length = m.length
 | [], [], _ => rfl
 | _ :: _, _ :: _, h => by simp only [List.length_cons, All2.length h.2]
 | [], _ :: _, h => h.elim
 | _ :: _, [], h => h.elim
theorem rdL3_drop {l : List (List S43)} {p : Nat} {s : List S43} {m : List (List S43)} (h : l.drop p = s :: m) : p < l.length ∧ rd_L3 l (p : Int) = s ∧ l.drop (p + 1) = m := by
  have hp : p < l.length := by
    by_cases hp : p < l.length
    · exact hp
    · rw [List.drop_eq_nil_of_le (by omega)] at h; cases h
  rw [List.drop_eq_getElem_cons hp] at h
  injection h with h1 h2
  exact ⟨hp, by unfold rd_L3; rw [Int.toNat_natCast, List.getD_eq_getElem?_getD, List.getElem?_eq_getElem hp]; exact h1, h2⟩
end Go.Proofs.YtimikhbnihedkaaDoor.PAll
