-- Written by wip/tools/handprint.py: walks of the functions that the law reaches; Lean checks them.
import Derived.Test.YtaacihkhckpecaaPAllx0
namespace Go.Proofs.Ytaacihkhckpecaa.PAll
open Go.RowKit Go.Proofs.YtaacihkhckpecaaW.PrintWords Go.Proofs.YtaacihkhckpecaaW.PrintLast Go.Proofs.YtaacihkhckpecaaW.PrintMore
attribute [local go_sem] max2_int min2_int max_two min_two max_three min_three max_four min_four   -- for this text's walks alone
set_option linter.unusedVariables false
set_option linter.unusedSimpArgs false

/-! ### match_Cover_fn1: function 30 -/
mutual
def match_Cover_fn1.l0 : Nat → List Bool → List (List Bool) → List Bool → List Int → List Bool → Int → Int → Option (List Bool × List Bool)
 | 0, _, _, _, _, _, _, _ => none
 | k + 1, x1, x2, x3, x4, x19, x20, x21 => if x21 < x20 then (if 0 ≤ x21 then (if x21 < (x19.length : Int) then (if rdOf false x19 x21 = true then (if x21 < (x3.length : Int) then (match_Cover_fn1.j1 k x1 x2 x3 x4 x21 x19 x20 x21 (!(rdOf false x3 x21))) else (none)) else (match_Cover_fn1.j1 k x1 x2 x3 x4 x21 x19 x20 x21 false)) else (none)) else (none)) else (some (x1, x3))
def match_Cover_fn1.j1 : Nat → List Bool → List (List Bool) → List Bool → List Int → Int → List Bool → Int → Int → Bool → Option (List Bool × List Bool)
 | 0, _, _, _, _, _, _, _, _, _ => none
 | k + 1, x1, x2, x3, x4, x7, x19, x20, x21, x33 => if x33 = true then (if 0 ≤ x7 then (if x7 < (x3.length : Int) then ((some (x3.set (x7 : Int).toNat true : List Bool)).bind fun y199 => (if x7 < (x4.length : Int) then (if (rd x4 x7) ≥ 0 then ((match_Cover_fn1.f k (rd x4 x7) x1 x2 y199 x4).bind fun bt202 => (match_Cover_fn1.l0 k bt202.1 x2 bt202.2 x4 x19 x20 (wrap64 (x21 + 1)))) else (match_Cover_fn1.l0 k x1 x2 y199 x4 x19 x20 (wrap64 (x21 + 1)))) else (none))) else (none)) else (none)) else (match_Cover_fn1.l0 k x1 x2 x3 x4 x19 x20 (wrap64 (x21 + 1)))
def match_Cover_fn1.f : Nat → Int → List Bool → List (List Bool) → List Bool → List Int → Option (List Bool × List Bool)
 | 0, _, _, _, _, _ => none
 | k + 1, a0, l1, l2, l3, l4 => if 0 ≤ a0 then (if a0 < (l1.length : Int) then (if rdOf false l1 a0 = true then (some (l1, l3)) else (if a0 < (l2.length : Int) then (match_Cover_fn1.l0 k (l1.set (a0 : Int).toNat true) l2 l3 l4 (rd_L1 l2 a0) ((rd_L1 l2 a0).length : Int) 0) else (none))) else (none)) else (none)
end
theorem match_Cover_fn1.mono_l : ∀ k, (∀ y0 y1 y2 y3 y4, LeO (match_Cover_fn1.f k y0 y1 y2 y3 y4) (match_Cover_fn1.f (k + 1) y0 y1 y2 y3 y4)) ∧ (∀ y0 y1 y2 y3 y4 y5 y6, LeO (match_Cover_fn1.l0 k y0 y1 y2 y3 y4 y5 y6) (match_Cover_fn1.l0 (k + 1) y0 y1 y2 y3 y4 y5 y6)) ∧ (∀ y0 y1 y2 y3 y4 y5 y6 y7 y8, LeO (match_Cover_fn1.j1 k y0 y1 y2 y3 y4 y5 y6 y7 y8) (match_Cover_fn1.j1 (k + 1) y0 y1 y2 y3 y4 y5 y6 y7 y8))
 | 0 => ⟨fun _ _ _ _ _ r h => by simp [match_Cover_fn1.f] at h, fun _ _ _ _ _ _ _ r h => by simp [match_Cover_fn1.l0] at h, fun _ _ _ _ _ _ _ _ _ r h => by simp [match_Cover_fn1.j1] at h⟩
 | k + 1 => by
  obtain ⟨ih0, ih1, ih2⟩ := match_Cover_fn1.mono_l k
  refine ⟨?_, ?_, ?_⟩
  ·
   intro y0 y1 y2 y3 y4
   unfold match_Cover_fn1.f
   repeat' first
   | (with_reducible exact ih0 _ _ _ _ _)
   | (with_reducible exact ih1 _ _ _ _ _ _ _)
   | (with_reducible exact ih2 _ _ _ _ _ _ _ _ _)
   | (with_reducible exact LeO.refl _)
   | (with_reducible exact LeO.none _)
   | (with_reducible refine LeO.ite ?_ ?_)
   | (with_reducible refine LeO.bind ?_ (fun _ => ?_))
   | exact ih0 _ _ _ _ _
   | exact ih1 _ _ _ _ _ _ _
   | exact ih2 _ _ _ _ _ _ _ _ _
   | exact LeO.none _
   | refine LeO.ite ?_ ?_
   | refine LeO.bind ?_ (fun _ => ?_)
  ·
   intro y0 y1 y2 y3 y4 y5 y6
   unfold match_Cover_fn1.l0
   repeat' first
   | (with_reducible exact ih0 _ _ _ _ _)
   | (with_reducible exact ih1 _ _ _ _ _ _ _)
   | (with_reducible exact ih2 _ _ _ _ _ _ _ _ _)
   | (with_reducible exact LeO.refl _)
   | (with_reducible exact LeO.none _)
   | (with_reducible refine LeO.ite ?_ ?_)
   | (with_reducible refine LeO.bind ?_ (fun _ => ?_))
   | exact ih0 _ _ _ _ _
   | exact ih1 _ _ _ _ _ _ _
   | exact ih2 _ _ _ _ _ _ _ _ _
   | exact LeO.none _
   | refine LeO.ite ?_ ?_
   | refine LeO.bind ?_ (fun _ => ?_)
  ·
   intro y0 y1 y2 y3 y4 y5 y6 y7 y8
   unfold match_Cover_fn1.j1
   repeat' first
   | (with_reducible exact ih0 _ _ _ _ _)
   | (with_reducible exact ih1 _ _ _ _ _ _ _)
   | (with_reducible exact ih2 _ _ _ _ _ _ _ _ _)
   | (with_reducible exact LeO.refl _)
   | (with_reducible exact LeO.none _)
   | (with_reducible refine LeO.ite ?_ ?_)
   | (with_reducible refine LeO.bind ?_ (fun _ => ?_))
   | exact ih0 _ _ _ _ _
   | exact ih1 _ _ _ _ _ _ _
   | exact ih2 _ _ _ _ _ _ _ _ _
   | exact LeO.none _
   | refine LeO.ite ?_ ?_
   | refine LeO.bind ?_ (fun _ => ?_)
theorem match_Cover_fn1.mono : ∀ a0 a1 a2 a3 a4 k, LeO (match_Cover_fn1.f k a0 a1 a2 a3 a4) (match_Cover_fn1.f (k + 1) a0 a1 a2 a3 a4) := by
 intro a0 a1 a2 a3 a4 k
 obtain ⟨ih0, ih1, ih2⟩ := match_Cover_fn1.mono_l k
 exact ih0 a0 a1 a2 a3 a4
/-- A call of a function value, in a region that draws its order. -/
theorem match_Cover_fn1.goesV {P : Program} {ops : Array Oper} {Q : Exit → Act → World → Prop} {oi : Oper} {N : Option Tmp} {a : Act} {w : World} {K : Act → World → Prop} {f : FuncId} {fn : Func} {ar : Array Operand} {s : Operand} {ts : Array TypeId} (hf : P.funcs[f]? = some fn) (hname : (fn.name == "runtime.NumGoroutine") = false) (hb : fn.body.isSome = true) (args cap : Array Value)
  (hw : Region.wanted oi (yielded ops a.tmps) = true) (hN : oi.dst = N) (hop : oi.op = .call { callee := .value s, args := ar, argTypes := ts }) (hs : a.eval s = .func (.func f) #[] cap) (hargs : ar.map a.eval ++ cap = args)
  (h : Calls P f args w fun e w' => ∃ v, e = .returned v ∧ K (a.put N v) w') : if Region.wanted oi (yielded ops a.tmps) = true then Oper.wp P oi a w K Q else K (a.put N undef) w := by
 refine call_ f args hw hN ?_ h
 have he := enters_ hf hname hb args w
 unfold execOp
 simp [hop, resolve, Deferred.ofValue, invoke, hs, hargs, he]
set_option maxHeartbeats 8000000 in
set_option maxRecDepth 100000 in
theorem match_Cover_fn1.calls (k : Nat) : ∀ (a0 : Int) (P1_ : Nat → Prop) (u9000_ : Value) (l1 : List Bool) (A2 : Option Addr) (c2 : Nat) (l2 : List (List Bool)) (P3_ : Nat → Prop) (u9001_ : Value) (l3 : List Bool) (A4 : Option Addr) (c4 : Nat) (l4 : List Int) (r1 : List Bool) (r2 : List Bool) (w0 w : World) (hB : Below w0.heap.size w0 w) (ho1 : Kd.R Kd.bool 4 w w0.heap.size P1_ u9000_ l1) (hp1_3 : ∀ k_, P1_ k_ → ¬ P3_ k_) (hr2 : Kd.C (Kd.slice 4 Kd.bool) w0 A2 l2.length l2) (hc2 : l2.length ≤ c2) (ho3 : Kd.R Kd.bool 4 w w0.heap.size P3_ u9001_ l3) (hp3_1 : ∀ k_, P3_ k_ → ¬ P1_ k_) (hr4 : ∀ W_, Kept w W_ (fun k_ => P1_ k_ ∨ P3_ k_) → Kd.C (Kd.int .i64) W_ A4 l4.length l4) (hc4 : l4.length ≤ c4) (g1_ g2_ g3_ g4_ g5_ : Nat) (hcap1 : w.cell? ⟨g1_, 0, none⟩ = some (u9000_)) (hcap2 : w.cell? ⟨g2_, 0, none⟩ = some (.slice A2 l2.length c2)) (hcap3 : w.cell? ⟨g3_, 0, none⟩ = some (u9001_)) (hcap4 : w.cell? ⟨g4_, 0, none⟩ = some (.slice A4 l4.length c4)) (hcap5 : w.cell? ⟨g5_, 0, none⟩ = some (.func (.func 30) #[] #[.pointer (some ⟨g1_, 0, none⟩), .pointer (some ⟨g2_, 0, none⟩), .pointer (some ⟨g3_, 0, none⟩), .pointer (some ⟨g4_, 0, none⟩), .pointer (some ⟨g5_, 0, none⟩)])) (hcan1 : ¬ (P1_ g1_ ∨ P3_ g1_)) (hcan2 : ¬ (P1_ g2_ ∨ P3_ g2_)) (hcan3 : ¬ (P1_ g3_ ∨ P3_ g3_)) (hcan4 : ¬ (P1_ g4_ ∨ P3_ g4_)) (hcan5 : ¬ (P1_ g5_ ∨ P3_ g5_)) (h : match_Cover_fn1.f k a0 l1 l2 l3 l4 = some (r1, r2)),
  Calls Try.prog 30 #[.int .i64 a0, .pointer (some ⟨g1_, 0, none⟩), .pointer (some ⟨g2_, 0, none⟩), .pointer (some ⟨g3_, 0, none⟩), .pointer (some ⟨g4_, 0, none⟩), .pointer (some ⟨g5_, 0, none⟩)] w fun e w' => e = .returned (.tuple #[]) ∧ Kd.R Kd.bool 4 w' w0.heap.size (fun k_ => ((P1_ k_ ∨ P3_ k_) ∨ w.heap.size ≤ k_)) u9000_ r1 ∧ Kd.R Kd.bool 4 w' w0.heap.size (fun k_ => ((P1_ k_ ∨ P3_ k_) ∨ w.heap.size ≤ k_)) u9001_ r2 ∧ Below w0.heap.size w0 w' ∧ Kept w w' (fun k_ => P1_ k_ ∨ P3_ k_) := by
 induction k using Nat.strongRecOn with
 | _ k ih =>
 intro a0 P1_ u9000_ l1 A2 c2 l2 P3_ u9001_ l3 A4 c4 l4 r1 r2 w0 w hB ho1 hp1_3 hr2 hc2 ho3 hp3_1 hr4 hc4 g1_ g2_ g3_ g4_ g5_ hcap1 hcap2 hcap3 hcap4 hcap5 hcan1 hcan2 hcan3 hcan4 hcan5 h
 cases k with
 | zero => exact absurd h (by simp [match_Cover_fn1.f])
 | succ k =>
 simp only [match_Cover_fn1.f] at h
 have HG1_ := Aside0.mk hcap1
 have HG2_ := Aside0.mk hcap2
 have HG3_ := Aside0.mk hcap3
 have HG4_ := Aside0.mk hcap4
 have HG5_ := Aside0.mk hcap5
 have HN1_ := Aside0.mk hcan1
 have HN2_ := Aside0.mk hcan2
 have HN3_ := Aside0.mk hcan3
 have HN4_ := Aside0.mk hcan4
 have HN5_ := Aside0.mk hcan5
 clear hcap1 hcap2 hcap3 hcap4 hcap5 hcan1 hcan2 hcan3 hcan4 hcan5
 have HO1 := Aside0.mk (show Kd.R Kd.bool 4 w w0.heap.size (fun k_ => ((P1_ k_ ∨ P3_ k_) ∨ w.heap.size ≤ k_) ∧ some k_ ≠ (u9001_ : Value).ownBlock) u9000_ l1 from Kd.R_mono ho1 (fun k_ hk => ⟨(.inl (.inl hk)), fun e_ => hp1_3 k_ hk (ho3.1 k_ e_.symm)⟩))
 have HR2 := Aside0.mk hr2
 have HC2 := Aside0.mk hc2
 clear hr2 hc2
 have HO3 := Aside0.mk (show Kd.R Kd.bool 4 w w0.heap.size (fun k_ => ((P1_ k_ ∨ P3_ k_) ∨ w.heap.size ≤ k_) ∧ some k_ ≠ (u9000_ : Value).ownBlock) u9001_ l3 from Kd.R_mono ho3 (fun k_ hk => ⟨(.inl (.inr hk)), fun e_ => hp3_1 k_ hk (ho1.1 k_ e_.symm)⟩))
 have HR4 := Aside0.mk hr4
 have HC4 := Aside0.mk hc4
 clear hr4 hc4
 have HK := Aside0.mk (Kept.refl w (fun k_ => P1_ k_ ∨ P3_ k_))
 have HW0 := Aside0.mk hB.size
 have HB := Aside0.mk hB
 clear hB
 have H : (if 0 ≤ a0 then (if a0 < (l1.length : Int) then (if rdOf false l1 a0 = true then (some (l1, l3)) else (if a0 < (l2.length : Int) then (match_Cover_fn1.l0 k (l1.set (a0 : Int).toNat true) l2 l3 l4 (rd_L1 l2 a0) ((rd_L1 l2 a0).length : Int) 0) else (none))) else (none)) else (none)) = some (r1, r2) := h
 clear h
 by_cases c6 : 0 ≤ a0
 ·
  rw [if_pos c6] at H
  have c6b0 : decide (0 ≤ a0) = true := decide_eq_true c6
  clear c6
  by_cases c7 : a0 < (l1.length : Int)
  ·
   rw [if_pos c7] at H
   have c7b0 : decide (a0 < (l1.length : Int)) = true := decide_eq_true c7
   clear c7
   obtain ⟨bq8, hbq8⟩ : ∃ b_ : Bool, b_ = (rdOf false l1 a0) := ⟨_, rfl⟩
   replace H : (if bq8 = true then (some (l1, l3)) else (if a0 < (l2.length : Int) then (match_Cover_fn1.l0 k (l1.set (a0 : Int).toNat true) l2 l3 l4 (rd_L1 l2 a0) ((rd_L1 l2 a0).length : Int) 0) else (none))) = some (r1, r2) := by rw [← hbq8] at H; exact H
   have Nbq8 := Aside0.mk hbq8
   clear hbq8
   by_cases c9 : bq8 = true
   ·
    subst c9
    have H1 : (some (l1, l3)) = some (r1, r2) := by rw [if_pos rfl] at H; exact H
    clear H
    have H := H1
    clear H1
    simp only [Option.some.injEq, Prod.mk.injEq] at H
    obtain ⟨rfl, rfl⟩ := H
    obtain ⟨Ao10, co10, eo10⟩ := Kd.R_slice HO1.out
    subst eo10
    have p194 : 0 ≤ (a0 : Int) := of_decide_eq_true (by first | (with_reducible assumption) | assumption)
    have q194 : a0 < (l1.length : Int) := of_decide_eq_true (by first | (with_reducible assumption) | assumption)
    obtain ⟨ad194, e194, hx194_0⟩ := Kd.at_bool (Kd.R_reads' HO1.out).2.2 a0 p194 q194
    (try rw [← Nbq8.out] at hx194_0)
    cases e194
    replace p194 := eq_true p194
    replace q194 := eq_true q194
    go_enter Try.func30, Try.ntmps30
    have hq1_0 := cell_kept HG1_.out HK.out HN1_.out
    have hq1_1 := cell_kept HG2_.out HK.out HN2_.out
    have hq1_2 := cell_kept HG3_.out HK.out HN3_.out
    have hq1_3 := cell_kept HG4_.out HK.out HN4_.out
    have hq1_4 := cell_kept HG5_.out HK.out HN5_.out
    go_wp2
    first | go_end0 | ((try simp only [Exit.inBlock, Exit.then]); refine bodyPost_ret (results_none rfl _ _ _) rfl ?_)
    exact ⟨by first | rfl | (simp [errW_none, errW_some] <;> rfl) | (simp [*, errW_none, errW_some] <;> rfl), by (with_reducible repeat (first | apply Kd.R_alloc | apply Kd.R_drewN | apply Kd.R_drew)); exact Kd.R_mono HO1.out (fun _ hk => hk.1), by (with_reducible repeat (first | apply Kd.R_alloc | apply Kd.R_drewN | apply Kd.R_drew)); exact Kd.R_mono HO3.out (fun _ hk => hk.1), by repeat (first | (with_reducible first | exact HB.out | apply below_alloc | apply pw_below_drewN | apply below_drew1) | exact HB.out), by repeat (first | (with_reducible first | exact HK.out | apply Kept.alloc | apply Kept.drewN | apply Kept.drew) | exact HK.out)⟩
   ·
    replace c9 := Bool.eq_false_iff.mpr c9
    subst c9
    have H1 : (if a0 < (l2.length : Int) then (match_Cover_fn1.l0 k (l1.set (a0 : Int).toNat true) l2 l3 l4 (rd_L1 l2 a0) ((rd_L1 l2 a0).length : Int) 0) else (none)) = some (r1, r2) := by rw [if_neg (show ¬ (false = true) by decide)] at H; exact H
    clear H
    have H := H1
    clear H1
    obtain ⟨y195, hy195⟩ : ∃ y_ : List Bool, y_ = (l1.set (a0 : Int).toNat true) := ⟨_, rfl⟩
    replace H : (if a0 < (l2.length : Int) then (match_Cover_fn1.l0 k y195 l2 l3 l4 (rd_L1 l2 a0) ((rd_L1 l2 a0).length : Int) 0) else (none)) = some (r1, r2) := by first | (rw [hy195]; with_reducible exact H) | (have H2_ := (Option.bind_some _ _).symm.trans H; rw [hy195]; with_reducible exact H2_) | (have H2_ := (Option.bind_some _ _).symm.trans H; with_reducible exact H2_) | with_reducible exact H | (rw [hy195]; exact H) | exact H
    have Ny195 := Aside0.mk hy195
    clear hy195
    by_cases c12 : a0 < (l2.length : Int)
    ·
     rw [if_pos c12] at H
     have c12b0 : decide (a0 < (l2.length : Int)) = true := decide_eq_true c12
     clear c12
     have H' := Aside0.mk H
     clear H
     obtain ⟨Ao13, co13, eo13⟩ := Kd.R_slice HO1.out
     subst eo13
     have p194 : 0 ≤ (a0 : Int) := of_decide_eq_true (by first | (with_reducible assumption) | assumption)
     have q194 : a0 < (l1.length : Int) := of_decide_eq_true (by first | (with_reducible assumption) | assumption)
     obtain ⟨ad194, e194, hx194_0⟩ := Kd.at_bool (Kd.R_reads' HO1.out).2.2 a0 p194 q194
     (try rw [← Nbq8.out] at hx194_0)
     cases e194
     replace p194 := eq_true p194
     replace q194 := eq_true q194
     have p11 : 0 ≤ (a0 : Int) := of_decide_eq_true (by first | (with_reducible assumption) | assumption)
     have q11 : (a0 : Int) < ((l1.length : Int) : Int) := of_decide_eq_true (by first | (with_reducible assumption) | assumption)
     obtain ⟨go11, co11, eo11, gb11, gl11, cl11, HG11⟩ := Kd.R_form HO1.out (by omega)
     (first | cases eo11 | (injection eo11 with ea_ en_ ec_; (first | subst ea_ | (injection ea_ with ea_; subst ea_)); subst ec_; clear en_))
     have GB11 := Aside0.mk gb11
     have GG11 := Aside0.mk HG11
     clear gb11 gl11 HG11
     have HMgo11 := Aside0.mk (show ((P1_ go11 ∨ P3_ go11) ∨ w.heap.size ≤ go11) from (HO1.out.1 _ rfl).1)
     (first | simp only [add_plain] at hx194_0 | skip)
     obtain ⟨hx11_0, hf11_0⟩ := Kd.R_celln false HO1.out (a0 : Int) p11 q11
     replace p11 := eq_true p11
     replace q11 := eq_true q11
     have HP14 := Kd.R_putg HO1.out (a0 : Int) true
     go_enter Try.func30, Try.ntmps30
     have hq3_0 := cell_kept HG1_.out HK.out HN1_.out
     have hq3_1 := cell_kept HG2_.out HK.out HN2_.out
     have hq3_2 := cell_kept HG3_.out HK.out HN3_.out
     have hq3_3 := cell_kept HG4_.out HK.out HN4_.out
     have hq3_4 := cell_kept HG5_.out HK.out HN5_.out
     go_wp2_with (first | ((with_reducible refine gate_store (t := 4) (p := 15) rfl ?_); refine store_event (t := 4) (p := 15) (v := ?vo_w15) (w1 := (w.setCell ⟨go11, (a0 : Int).toNat, none⟩ (.bool true))) ?hg ?ho ?hn ?hr ?_; (case ho => rfl); (case hg => rfl); (case hn => rfl); (case hr => first | (go_simp; done) | (go_simp; rfl)); intro w15 hw; have hg : w.grownBy w15 (some go11) := (by rw [hw]; exact HP14.2); have hp_ : Kd.R Kd.bool 4 w15 w0.heap.size (fun k_ => ((P1_ k_ ∨ P3_ k_) ∨ w.heap.size ≤ k_) ∧ some k_ ≠ (u9001_ : Value).ownBlock) (.slice (some ⟨go11, 0, none⟩) l1.length co13) y195 := (by rw [hw, Ny195.out]; exact HP14.1); clear HP14; have n0_ := Aside0.mk (hp_); have n1_ := Aside0.mk (Kd.R_after (v := (.slice (some ⟨go11, 0, none⟩) l1.length co13)) (v1 := (.slice (some ⟨go11, 0, none⟩) l1.length co13)) (ok := (fun k_ => ((P1_ k_ ∨ P3_ k_) ∨ w.heap.size ≤ k_))) (by (with_reducible repeat (first | apply Kd.R_alloc | apply Kd.R_drewN | apply Kd.R_drew)); exact HO3.out) hg (.inl rfl)); have n2_ := Aside0.mk ((by rw [hw]; exact below_set (HB.out) GB11.out : Below w0.heap.size w0 w15)); have n3_ := Aside0.mk (Kept.of_grown (S := (fun k_ => P1_ k_ ∨ P3_ k_)) hg (by repeat (first | (with_reducible first | exact HK.out | apply Kept.alloc | apply Kept.drewN | apply Kept.drew) | exact HK.out)) (fun k_ e_ => (HO1.out.1 k_ e_).1)); clear HO1; clear HO3; clear HB; clear HK; have HO1 := n0_; have HO3 := n1_; have HB := n2_; have HK := n3_; have hq2_0 := cell_kept HG1_.out HK.out HN1_.out; have hq2_1 := cell_kept HG2_.out HK.out HN2_.out; have hq2_2 := cell_kept HG3_.out HK.out HN3_.out; have hq2_3 := cell_kept HG4_.out HK.out HN4_.out; have hq2_4 := cell_kept HG5_.out HK.out HN5_.out; clear n0_ n1_ n2_ n3_; clear hg hw hp_; have p196 : 0 ≤ (a0 : Int) := of_decide_eq_true (by first | (with_reducible assumption) | assumption); have q196 : a0 < (l2.length : Int) := of_decide_eq_true (by first | (with_reducible assumption) | assumption); obtain ⟨ad196, A196_0, c196_0, e196, hx196_0, hl196_0, hi196_0⟩ := at_L1 HR2.out a0 p196 q196; replace hx196_0 := (HB.out.cell (World.block_lt_of_cell? w0 _ hx196_0)).trans hx196_0; cases e196; have HR196_0 := Aside0.mk hi196_0; have HC196_0 := Aside0.mk hl196_0; clear hi196_0 hl196_0; replace p196 := eq_true p196; replace q196 := eq_true q196))
     go_loopg [21] k (fun kq v21 w' => ∃ (x1_1 : List Bool) (x3_1 : List Bool) (x21_1 : Int), v21 = .int .i64 x21_1 ∧ Aside0 (match_Cover_fn1.l0 kq x1_1 l2 x3_1 l4 (rd_L1 l2 a0) ((rd_L1 l2 a0).length : Int) x21_1 = some (r1, r2)) ∧ Aside0 (kq ≤ k) ∧ Aside0 (Kd.R Kd.bool 4 w' w0.heap.size (fun k_ => ((P1_ k_ ∨ P3_ k_) ∨ w.heap.size ≤ k_) ∧ some k_ ≠ (u9001_ : Value).ownBlock) (.slice (some ⟨go11, 0, none⟩) l1.length co13) x1_1) ∧ Aside0 (Kd.R Kd.bool 4 w' w0.heap.size (fun k_ => ((P1_ k_ ∨ P3_ k_) ∨ w.heap.size ≤ k_) ∧ some k_ ≠ ((.slice (some ⟨go11, 0, none⟩) l1.length co13) : Value).ownBlock) u9001_ x3_1) ∧ Aside0 (Kept w w' (fun k_ => P1_ k_ ∨ P3_ k_)) ∧ Aside0 (Below w0.heap.size w0 w'))
     case atStart => exact ⟨(y195), (l3), (0), (by first | rfl | (simp; done) | (simp [*]; done)), H', ⟨Nat.le_refl _⟩, ⟨by (with_reducible repeat (first | apply Kd.R_alloc | apply Kd.R_drewN | apply Kd.R_drew)); exact HO1.out⟩, ⟨by (with_reducible repeat (first | apply Kd.R_alloc | apply Kd.R_drewN | apply Kd.R_drew)); exact HO3.out⟩, ⟨by repeat (first | (with_reducible first | exact HK.out | apply Kept.alloc | apply Kept.drewN | apply Kept.drew) | exact HK.out)⟩, ⟨by repeat (first | (with_reducible first | exact HB.out | apply below_alloc | apply pw_below_drewN | apply below_drew1) | exact HB.out)⟩⟩
     case round =>
      clear H'
      try clear c1
      try clear p1
      try clear q1
      try clear hx1
      try clear c2
      try clear p2
      try clear c3
      try clear p3
      try clear c4
      try clear c6
      try clear c6b0
      try clear c7
      try clear c7b0
      try clear q8
      try clear c9
      try clear p11
      try clear q11
      try clear hx11
      try clear hf11
      try clear c12
      try clear c12b0
      try clear hx11_0
      try clear hx194_0
      try clear hx196_0
      try clear p11
      try clear p194
      try clear p196
      try clear q11
      try clear q194
      try clear q196
      obtain ⟨x1_1, x3_1, x21_1, rfl, HA, HK1, HO_1, HO_3, HK, HB⟩ := hrel
      have hl1_1 := (Kd.R_reads' HO_1.out).1
      rw [hl1_1] at HO_1
      (try simp only [hl1_1])
      (try simp only [hl1_1] at HO_3)
      cases gk with
      | zero => exact absurd HA.out (by simp [match_Cover_fn1.l0])
      | succ k1 =>
       have H := HA.out
       clear HA
       simp only [match_Cover_fn1.l0] at H
       by_cases c16 : x21_1 < ((rd_L1 l2 a0).length : Int)
       ·
        rw [if_pos c16] at H
        have c16b0 : decide (x21_1 < ((rd_L1 l2 a0).length : Int)) = true := decide_eq_true c16
        clear c16
        by_cases c17 : 0 ≤ x21_1
        ·
         rw [if_pos c17] at H
         have c17b0 : decide (0 ≤ x21_1) = true := decide_eq_true c17
         clear c17
         by_cases c18 : x21_1 < ((rd_L1 l2 a0).length : Int)
         ·
          rw [if_pos c18] at H
          have c18b0 : decide (x21_1 < ((rd_L1 l2 a0).length : Int)) = true := decide_eq_true c18
          clear c18
          have HC19 := Aside0.mk H
          clear H
          have p197 : 0 ≤ (x21_1 : Int) := of_decide_eq_true (by first | (with_reducible assumption) | assumption)
          have q197 : x21_1 < ((rd_L1 l2 a0).length : Int) := of_decide_eq_true (by first | (with_reducible assumption) | assumption)
          obtain ⟨ad197, e197, hx197_0⟩ := Kd.at_bool HR196_0.out x21_1 p197 q197
          (try rw [← Nbq8.out] at hx197_0)
          cases e197
          replace hx197_0 := (HB.out.cell (World.block_lt_of_cell? w0 _ hx197_0)).trans hx197_0
          replace p197 := eq_true p197
          replace q197 := eq_true q197
          have hq4_0 := cell_kept HG1_.out HK.out HN1_.out
          have hq4_1 := cell_kept HG2_.out HK.out HN2_.out
          have hq4_2 := cell_kept HG3_.out HK.out HN3_.out
          have hq4_3 := cell_kept HG4_.out HK.out HN4_.out
          have hq4_4 := cell_kept HG5_.out HK.out HN5_.out
          go_upto_region 5 with (fail)
          go_cut [8, 33] (fun v8 v33 wc => ∃ (kq : Nat) (x33_18 : Bool), v33 = .bool x33_18 ∧ Aside0 (match_Cover_fn1.j1 kq x1_1 l2 x3_1 l4 x21_1 (rd_L1 l2 a0) ((rd_L1 l2 a0).length : Int) x21_1 x33_18 = some (r1, r2)) ∧ Aside0 (kq ≤ k1) ∧ Aside0 (Kd.R Kd.bool 4 wc w0.heap.size (fun k_ => ((P1_ k_ ∨ P3_ k_) ∨ w.heap.size ≤ k_) ∧ some k_ ≠ (u9001_ : Value).ownBlock) (.slice (some ⟨go11, 0, none⟩) x1_1.length co13) x1_1) ∧ Aside0 (Kd.R Kd.bool 4 wc w0.heap.size (fun k_ => ((P1_ k_ ∨ P3_ k_) ∨ w.heap.size ≤ k_) ∧ some k_ ≠ ((.slice (some ⟨go11, 0, none⟩) x1_1.length co13) : Value).ownBlock) u9001_ x3_1) ∧ Aside0 (Kept w wc (fun k_ => P1_ k_ ∨ P3_ k_)) ∧ Aside0 (Below w0.heap.size w0 wc))
          case first =>
           have H := HC19.out
           clear HC19
           obtain ⟨bq20, hbq20⟩ : ∃ b_ : Bool, b_ = (rdOf false (rd_L1 l2 a0) x21_1) := ⟨_, rfl⟩
           replace H : (if bq20 = true then (if x21_1 < (x3_1.length : Int) then (match_Cover_fn1.j1 k1 x1_1 l2 x3_1 l4 x21_1 (rd_L1 l2 a0) ((rd_L1 l2 a0).length : Int) x21_1 (!(rdOf false x3_1 x21_1))) else (none)) else (match_Cover_fn1.j1 k1 x1_1 l2 x3_1 l4 x21_1 (rd_L1 l2 a0) ((rd_L1 l2 a0).length : Int) x21_1 false)) = some (r1, r2) := by rw [← hbq20] at H; exact H
           have Nbq20 := Aside0.mk hbq20
           clear hbq20
           (try rw [← Nbq20.out])
           by_cases c21 : bq20 = true
           ·
            subst c21
            have H1 : (if x21_1 < (x3_1.length : Int) then (match_Cover_fn1.j1 k1 x1_1 l2 x3_1 l4 x21_1 (rd_L1 l2 a0) ((rd_L1 l2 a0).length : Int) x21_1 (!(rdOf false x3_1 x21_1))) else (none)) = some (r1, r2) := by rw [if_pos rfl] at H; exact H
            clear H
            have H := H1
            clear H1
            by_cases c22 : x21_1 < (x3_1.length : Int)
            ·
             rw [if_pos c22] at H
             have c22b0 : decide (x21_1 < (x3_1.length : Int)) = true := decide_eq_true c22
             clear c22
             have H' := Aside0.mk H
             clear H
             obtain ⟨Ao23, co23, eo23⟩ := Kd.R_slice HO_3.out
             subst eo23
             have p198 : 0 ≤ (x21_1 : Int) := of_decide_eq_true (by first | (with_reducible assumption) | assumption)
             have q198 : x21_1 < (x3_1.length : Int) := of_decide_eq_true (by first | (with_reducible assumption) | assumption)
             obtain ⟨ad198, e198, hx198_0⟩ := Kd.at_bool (Kd.R_reads' HO_3.out).2.2 x21_1 p198 q198
             (try rw [← Nbq8.out] at hx198_0)
             (try rw [← Nbq20.out] at hx198_0)
             cases e198
             replace p198 := eq_true p198
             replace q198 := eq_true q198
             have hq5_0 := cell_kept HG1_.out HK.out HN1_.out
             have hq5_1 := cell_kept HG2_.out HK.out HN2_.out
             have hq5_2 := cell_kept HG3_.out HK.out HN3_.out
             have hq5_3 := cell_kept HG4_.out HK.out HN4_.out
             have hq5_4 := cell_kept HG5_.out HK.out HN5_.out
             go_wp2
             go_meet
             case rel => exact ⟨_, (!(rdOf false x3_1 x21_1)), (by first | rfl | (simp; done) | (simp [*]; done)), H', ⟨by have := HK1.out; first | omega | exact Nat.le_refl _⟩, ⟨by (try simp only [hl1_1]); (with_reducible repeat (first | apply Kd.R_alloc | apply Kd.R_drewN | apply Kd.R_drew)); exact HO_1.out⟩, ⟨by (try simp only [hl1_1]); (with_reducible repeat (first | apply Kd.R_alloc | apply Kd.R_drewN | apply Kd.R_drew)); exact HO_3.out⟩, ⟨by repeat (first | (with_reducible first | exact HK.out | apply Kept.alloc | apply Kept.drewN | apply Kept.drew) | exact HK.out)⟩, ⟨by repeat (first | (with_reducible first | exact HB.out | apply below_alloc | apply pw_below_drewN | apply below_drew1) | exact HB.out)⟩⟩
            ·
             rw [if_neg c22] at H
             exact absurd H (by simp)
           ·
            replace c21 := Bool.eq_false_iff.mpr c21
            subst c21
            have H1 : (match_Cover_fn1.j1 k1 x1_1 l2 x3_1 l4 x21_1 (rd_L1 l2 a0) ((rd_L1 l2 a0).length : Int) x21_1 false) = some (r1, r2) := by rw [if_neg (show ¬ (false = true) by decide)] at H; exact H
            clear H
            have H := H1
            clear H1
            have H' := Aside0.mk H
            clear H
            have hq6_0 := cell_kept HG1_.out HK.out HN1_.out
            have hq6_1 := cell_kept HG2_.out HK.out HN2_.out
            have hq6_2 := cell_kept HG3_.out HK.out HN3_.out
            have hq6_3 := cell_kept HG4_.out HK.out HN4_.out
            have hq6_4 := cell_kept HG5_.out HK.out HN5_.out
            go_wp2
            go_meet
            case rel => exact ⟨_, (false), (by first | rfl | (simp; done) | (simp [*]; done)), H', ⟨by have := HK1.out; first | omega | exact Nat.le_refl _⟩, ⟨by (try simp only [hl1_1]); (with_reducible repeat (first | apply Kd.R_alloc | apply Kd.R_drewN | apply Kd.R_drew)); exact HO_1.out⟩, ⟨by (try simp only [hl1_1]); (with_reducible repeat (first | apply Kd.R_alloc | apply Kd.R_drewN | apply Kd.R_drew)); exact HO_3.out⟩, ⟨by repeat (first | (with_reducible first | exact HK.out | apply Kept.alloc | apply Kept.drewN | apply Kept.drew) | exact HK.out)⟩, ⟨by repeat (first | (with_reducible first | exact HB.out | apply below_alloc | apply pw_below_drewN | apply below_drew1) | exact HB.out)⟩⟩
          case rest =>
           clear HC19
           try clear c1
           try clear p1
           try clear q1
           try clear hx1
           try clear c2
           try clear p2
           try clear q2
           try clear c3
           try clear p3
           try clear c4
           try clear c6
           try clear c6b0
           try clear c7
           try clear c7b0
           try clear q8
           try clear c9
           try clear p11
           try clear q11
           try clear hx11
           try clear hf11
           try clear c12
           try clear c12b0
           try clear c16
           try clear c16b0
           try clear c17
           try clear c17b0
           try clear c18
           try clear c18b0
           try clear c19
           try clear p19
           try clear q19
           try clear hx19
           try clear q20
           try clear c21
           try clear c22
           try clear c22b0
           try clear hx11_0
           try clear hx194_0
           try clear hx196_0
           try clear hx197_0
           try clear hx198_0
           try clear p1
           try clear p11
           try clear p194
           try clear p196
           try clear p197
           try clear p198
           try clear p2
           try clear p3
           try clear q1
           try clear q11
           try clear q194
           try clear q196
           try clear q197
           try clear q198
           try clear q8
           obtain ⟨kq, x33_18, rfl, HA, HJ18, HO_1, HO_3, HK, HB⟩ := hcut
           cases kq with
           | zero => exact absurd HA.out (by simp [match_Cover_fn1.j1])
           | succ kj18 =>
            have H := HA.out
            clear HA
            simp only [match_Cover_fn1.j1] at H
            by_cases c24 : x33_18 = true
            ·
             subst c24
             have H1 : (if 0 ≤ x21_1 then (if x21_1 < (x3_1.length : Int) then ((some (x3_1.set (x21_1 : Int).toNat true : List Bool)).bind fun y199 => (if x21_1 < (l4.length : Int) then (if (rd l4 x21_1) ≥ 0 then ((match_Cover_fn1.f kj18 (rd l4 x21_1) x1_1 l2 y199 l4).bind fun bt202 => (match_Cover_fn1.l0 kj18 bt202.1 l2 bt202.2 l4 (rd_L1 l2 a0) ((rd_L1 l2 a0).length : Int) (wrap64 (x21_1 + 1)))) else (match_Cover_fn1.l0 kj18 x1_1 l2 y199 l4 (rd_L1 l2 a0) ((rd_L1 l2 a0).length : Int) (wrap64 (x21_1 + 1)))) else (none))) else (none)) else (none)) = some (r1, r2) := by rw [if_pos rfl] at H; exact H
             clear H
             have H := H1
             clear H1
             by_cases c25 : 0 ≤ x21_1
             ·
              rw [if_pos c25] at H
              have c25b0 : decide (0 ≤ x21_1) = true := decide_eq_true c25
              clear c25
              by_cases c26 : x21_1 < (x3_1.length : Int)
              ·
               rw [if_pos c26] at H
               have c26b0 : decide (x21_1 < (x3_1.length : Int)) = true := decide_eq_true c26
               clear c26
               obtain ⟨y199, hy199⟩ : ∃ y_ : List Bool, y_ = (x3_1.set (x21_1 : Int).toNat true) := ⟨_, rfl⟩
               replace H : (if x21_1 < (l4.length : Int) then (if (rd l4 x21_1) ≥ 0 then ((match_Cover_fn1.f kj18 (rd l4 x21_1) x1_1 l2 y199 l4).bind fun bt202 => (match_Cover_fn1.l0 kj18 bt202.1 l2 bt202.2 l4 (rd_L1 l2 a0) ((rd_L1 l2 a0).length : Int) (wrap64 (x21_1 + 1)))) else (match_Cover_fn1.l0 kj18 x1_1 l2 y199 l4 (rd_L1 l2 a0) ((rd_L1 l2 a0).length : Int) (wrap64 (x21_1 + 1)))) else (none)) = some (r1, r2) := by first | (rw [hy199]; with_reducible exact H) | (have H2_ := (Option.bind_some _ _).symm.trans H; rw [hy199]; with_reducible exact H2_) | (have H2_ := (Option.bind_some _ _).symm.trans H; with_reducible exact H2_) | with_reducible exact H | (rw [hy199]; exact H) | exact H
               have Ny199 := Aside0.mk hy199
               clear hy199
               by_cases c28 : x21_1 < (l4.length : Int)
               ·
                rw [if_pos c28] at H
                have c28b0 : decide (x21_1 < (l4.length : Int)) = true := decide_eq_true c28
                clear c28
                by_cases c29 : (rd l4 x21_1) ≥ 0
                ·
                 rw [if_pos c29] at H
                 have c29b0 : decide (0 ≤ (rd l4 x21_1)) = true := decide_eq_true c29
                 clear c29
                 replace H := Option.bind_eq_some_iff.mp H
                 obtain ⟨⟨t202, t203⟩, A300, H⟩ := H
                 replace H : (match_Cover_fn1.l0 kj18 t202 l2 t203 l4 (rd_L1 l2 a0) ((rd_L1 l2 a0).length : Int) (wrap64 (x21_1 + 1))) = some (r1, r2) := H
                 have A30 := Aside0.mk A300
                 clear A300
                 have H' := Aside0.mk H
                 clear H
                 have p27 : 0 ≤ (x21_1 : Int) := of_decide_eq_true (by first | (with_reducible assumption) | assumption)
                 have q27 : (x21_1 : Int) < ((x3_1.length : Int) : Int) := of_decide_eq_true (by first | (with_reducible assumption) | assumption)
                 obtain ⟨go27, co27, eo27, gb27, gl27, cl27, HG27⟩ := Kd.R_form HO_3.out (by first | omega | (have := hl_HO_3.out; omega))
                 (first | cases eo27 | (injection eo27 with ea_ en_ ec_; (first | subst ea_ | (injection ea_ with ea_; subst ea_)); subst ec_; clear en_))
                 have GB27 := Aside0.mk gb27
                 have GG27 := Aside0.mk HG27
                 clear gb27 gl27 HG27
                 have HMgo27 := Aside0.mk (show ((P1_ go27 ∨ P3_ go27) ∨ w.heap.size ≤ go27) from (HO_3.out.1 _ rfl).1)
                 obtain ⟨hx27_0, hf27_0⟩ := Kd.R_celln false HO_3.out (x21_1 : Int) p27 q27
                 replace p27 := eq_true p27
                 replace q27 := eq_true q27
                 have HP31 := Kd.R_putg HO_3.out (x21_1 : Int) true
                 have hq8_0 := cell_kept HG1_.out HK.out HN1_.out
                 have hq8_1 := cell_kept HG2_.out HK.out HN2_.out
                 have hq8_2 := cell_kept HG3_.out HK.out HN3_.out
                 have hq8_3 := cell_kept HG4_.out HK.out HN4_.out
                 have hq8_4 := cell_kept HG5_.out HK.out HN5_.out
                 try go_wp2_with (first | ((with_reducible refine gate_store (t := 4) (p := 36) rfl ?_); refine store_event (t := 4) (p := 36) (v := ?vo_w32) (w1 := (wc.setCell ⟨go27, (x21_1 : Int).toNat, none⟩ (.bool true))) ?hg ?ho ?hn ?hr ?_; (case ho => rfl); (case hg => rfl); (case hn => rfl); (case hr => first | (go_simp; done) | (go_simp; rfl)); intro w32 hw; have hg : wc.grownBy w32 (some go27) := (by rw [hw]; exact HP31.2); have hp_ : Kd.R Kd.bool 4 w32 w0.heap.size (fun k_ => ((P1_ k_ ∨ P3_ k_) ∨ w.heap.size ≤ k_) ∧ some k_ ≠ (.slice (some ⟨go11, 0, none⟩) x1_1.length co13 : Value).ownBlock) (.slice (some ⟨go27, 0, none⟩) x3_1.length co27) y199 := (by rw [hw, Ny199.out]; exact HP31.1); clear HP31; have n0_ := Aside0.mk (Kd.R_after (v := (.slice (some ⟨go27, 0, none⟩) x3_1.length co27)) (v1 := (.slice (some ⟨go27, 0, none⟩) x3_1.length co27)) (ok := (fun k_ => ((P1_ k_ ∨ P3_ k_) ∨ w.heap.size ≤ k_))) (by (with_reducible repeat (first | apply Kd.R_alloc | apply Kd.R_drewN | apply Kd.R_drew)); exact HO_1.out) hg (.inl rfl)); have n1_ := Aside0.mk (hp_); have n2_ := Aside0.mk ((by rw [hw]; exact below_set (HB.out) GB27.out : Below w0.heap.size w0 w32)); have n3_ := Aside0.mk (Kept.of_grown (S := (fun k_ => P1_ k_ ∨ P3_ k_)) hg (by repeat (first | (with_reducible first | exact HK.out | apply Kept.alloc | apply Kept.drewN | apply Kept.drew) | exact HK.out)) (fun k_ e_ => (HO_3.out.1 k_ e_).1)); clear HO_1; clear HO_3; clear HB; clear HK; have HO_1 := n0_; have HO_3 := n1_; have HB := n2_; have HK := n3_; have hq7_0 := cell_kept HG1_.out HK.out HN1_.out; have hq7_1 := cell_kept HG2_.out HK.out HN2_.out; have hq7_2 := cell_kept HG3_.out HK.out HN3_.out; have hq7_3 := cell_kept HG4_.out HK.out HN4_.out; have hq7_4 := cell_kept HG5_.out HK.out HN5_.out; clear n0_ n1_ n2_ n3_; clear hg hw hp_; have p200 : 0 ≤ (x21_1 : Int) := of_decide_eq_true (by first | (with_reducible assumption) | assumption); have q200 : x21_1 < (l4.length : Int) := of_decide_eq_true (by first | (with_reducible assumption) | assumption); obtain ⟨ad200, e200, hx200_0⟩ := Kd.at_int (Kd.C_kept_now HR4.out HK.out) x21_1 p200 q200; cases e200; replace p200 := eq_true p200; replace q200 := eq_true q200))
                 have n0_ := Aside0.mk (Kd.R_drew HO_1.out)
                 have n1_ := Aside0.mk (Kd.R_drew HO_3.out)
                 have n2_ := Aside0.mk (Kept.drew HK.out)
                 have n3_ := Aside0.mk (below_drew1 HB.out)
                 clear HO_1
                 clear HO_3
                 clear HK
                 clear HB
                 have HO_1 := n0_
                 have HO_3 := n1_
                 have HK := n2_
                 have hq9_0 := cell_kept HG1_.out HK.out HN1_.out
                 have hq9_1 := cell_kept HG2_.out HK.out HN2_.out
                 have hq9_2 := cell_kept HG3_.out HK.out HN3_.out
                 have hq9_3 := cell_kept HG4_.out HK.out HN4_.out
                 have hq9_4 := cell_kept HG5_.out HK.out HN5_.out
                 have HB := n3_
                 clear n0_ n1_ n2_ n3_
                 have p201 : 0 ≤ (x21_1 : Int) := of_decide_eq_true (by first | (with_reducible assumption) | assumption)
                 have q201 : x21_1 < (l4.length : Int) := of_decide_eq_true (by first | (with_reducible assumption) | assumption)
                 obtain ⟨ad201, e201, hx201_0⟩ := Kd.at_int (Kd.C_kept_now HR4.out HK.out) x21_1 p201 q201
                 have hw201_0 := hx201_0
                 obtain rfl : ad200 = ad201 := (by injection e201)
                 replace p201 := eq_true p201
                 replace q201 := eq_true q201
                 have hq10_0 := cell_kept HG1_.out HK.out HN1_.out
                 have hq10_1 := cell_kept HG2_.out HK.out HN2_.out
                 have hq10_2 := cell_kept HG3_.out HK.out HN3_.out
                 have hq10_3 := cell_kept HG4_.out HK.out HN4_.out
                 have hq10_4 := cell_kept HG5_.out HK.out HN5_.out
                 refine start_ (n := 6) (S := fun w' => w'.cell? (ad200.add (x21_1).toNat) = some (.int .i64 (rd l4 x21_1)) ∧ w'.cell? ⟨g1_, 0, none⟩ = _ ∧ w'.cell? ⟨g2_, 0, none⟩ = _ ∧ w'.cell? ⟨g3_, 0, none⟩ = _ ∧ w'.cell? ⟨g4_, 0, none⟩ = _ ∧ w'.cell? ⟨g5_, 0, none⟩ = _) (ds := []) #[false, false, false, false, false, false] (by kernel_rfl) rfl rfl ⟨((Kd.foot_int (HR4.out _ (by repeat (first | exact HK.out | apply Kept.alloc | apply Kept.drewN | apply Kept.drew))) x21_1 (of_eq_true p201) (of_eq_true q201))), hq10_0, hq10_1, hq10_2, hq10_3, hq10_4⟩ (fun hHeld => ?_)
                 generalize w32.drew = w33 at HO_1 HO_3 HK HB hx201_0 hHeld hq10_0 hq10_1 hq10_2 hq10_3 hq10_4 ⊢
                 refine take_ (i := 0) (N := some 42) (v := ?_) (a' := ?_) #[true, false, false, false, false, false] rfl rfl (by kernel_rfl) (fun _ _ _ h => h) (Or.inl ⟨by rfl, ?_⟩) hHeld ?_ ?_
                 rotate_left
                 ·
                  rintro w' ⟨s0, sq0, sq1, sq2, sq3, sq4⟩
                  go_simp
                  with_reducible rfl
                 rotate_left
                 ·
                  simp only [Act.put, List.setIfInBounds_toArray, List.set_cons_zero, List.set_cons_succ, i64_w, i32_w]
                  rfl
                 refine take_ (i := 1) (N := some 43) (v := ?_) (a' := ?_) #[true, true, false, false, false, false] rfl rfl (by kernel_rfl) (fun _ _ _ h => h) (Or.inl ⟨by rfl, ?_⟩) hHeld ?_ ?_
                 rotate_left
                 ·
                  rintro w' ⟨s0, sq0, sq1, sq2, sq3, sq4⟩
                  go_simp
                  with_reducible rfl
                 rotate_left
                 ·
                  simp only [Act.put, List.setIfInBounds_toArray, List.set_cons_zero, List.set_cons_succ, i64_w, i32_w]
                  rfl
                 refine pure_ (i := 2) (N := some 44) (v := ?_) (a' := ?_) #[true, true, true, false, false, false] rfl rfl (by kernel_rfl) (fun _ _ _ h => h) (Or.inl ⟨by rfl, ?_⟩) ?_ ?_
                 rotate_left
                 ·
                  intro w'
                  go_simp
                  with_reducible rfl
                 rotate_left
                 ·
                  simp only [Act.put, List.setIfInBounds_toArray, List.set_cons_zero, List.set_cons_succ, i64_w, i32_w]
                  rfl
                 refine pure_ (i := 3) (N := some 45) (v := ?_) (a' := ?_) #[true, true, true, true, false, false] rfl rfl (by kernel_rfl) (fun _ _ _ h => h) (Or.inl ⟨by rfl, ?_⟩) ?_ ?_
                 rotate_left
                 ·
                  intro w'
                  go_simp
                  with_reducible rfl
                 rotate_left
                 ·
                  simp only [Act.put, List.setIfInBounds_toArray, List.set_cons_zero, List.set_cons_succ, i64_w, i32_w]
                  rfl
                 refine take_ (i := 4) (N := some 46) (v := ?_) (a' := ?_) #[true, true, true, true, true, false] rfl rfl (by kernel_rfl) (fun _ _ _ h => h) (Or.inl ⟨by rfl, ?_⟩) hHeld ?_ ?_
                 rotate_left
                 ·
                  intro w' s0
                  go_simp
                  with_reducible rfl
                 rotate_left
                 ·
                  simp only [Act.put, List.setIfInBounds_toArray, List.set_cons_zero, List.set_cons_succ, i64_w, i32_w]
                  rfl
                 refine one_ (i := 5) (N := some 47) #[true, true, true, true, true, true] rfl rfl (by kernel_rfl) (by decide) (fun K hK => ?_)
                 refine match_Cover_fn1.goesV Try.func30 (by kernel_rfl) rfl #[.int .i64 (rd l4 x21_1), .pointer (some ⟨g1_, 0, none⟩), .pointer (some ⟨g2_, 0, none⟩), .pointer (some ⟨g3_, 0, none⟩), .pointer (some ⟨g4_, 0, none⟩), .pointer (some ⟨g5_, 0, none⟩)] #[.pointer (some ⟨g1_, 0, none⟩), .pointer (some ⟨g2_, 0, none⟩), .pointer (some ⟨g3_, 0, none⟩), .pointer (some ⟨g4_, 0, none⟩), .pointer (some ⟨g5_, 0, none⟩)] (by rfl) rfl rfl (by first | rfl | (go_simp; rfl)) (by (try simp only [List.map_toArray, List.map_cons, List.map_nil]); first | done | rfl | (simp only [List.length_drop, List.length_take]; rfl)) ?_
                 with_reducible refine (ih kj18 (by have := HK1.out; have := HJ18.out; omega) (rd l4 x21_1) (fun k_ => some k_ = (.slice (some ⟨go11, 0, none⟩) x1_1.length co13 : Value).ownBlock) (.slice (some ⟨go11, 0, none⟩) x1_1.length co13) x1_1 (some ad196) c2 l2 (fun k_ => some k_ = (.slice (some ⟨go27, 0, none⟩) x3_1.length co27 : Value).ownBlock) (.slice (some ⟨go27, 0, none⟩) x3_1.length co27) y199 (some ad200) c4 l4 t202 t203 w0 _ ?side1 ?side2 ?side3 ?side4 ?side5 ?side6 ?side7 ?side8 ?side9 g1_ g2_ g3_ g4_ g5_ ?sg1 ?sg2 ?sg3 ?sg4 ?sg5 ?sn1 ?sn2 ?sn3 ?sn4 ?sn5 A30.out).mono ?_
                 (case sg1 => have h_ := cell_kept HG1_.out (by repeat (first | (with_reducible first | exact HK.out | apply Kept.alloc | apply Kept.drewN | apply Kept.drew) | exact HK.out)) HN1_.out; first | exact h_ | (rw [hl1_1] at h_; exact h_))
                 (case sg2 => have h_ := cell_kept HG2_.out (by repeat (first | (with_reducible first | exact HK.out | apply Kept.alloc | apply Kept.drewN | apply Kept.drew) | exact HK.out)) HN2_.out; first | exact h_ | (rw [hl1_1] at h_; exact h_))
                 (case sg3 => have h_ := cell_kept HG3_.out (by repeat (first | (with_reducible first | exact HK.out | apply Kept.alloc | apply Kept.drewN | apply Kept.drew) | exact HK.out)) HN3_.out; first | exact h_ | (rw [hl1_1] at h_; exact h_))
                 (case sg4 => have h_ := cell_kept HG4_.out (by repeat (first | (with_reducible first | exact HK.out | apply Kept.alloc | apply Kept.drewN | apply Kept.drew) | exact HK.out)) HN4_.out; first | exact h_ | (rw [hl1_1] at h_; exact h_))
                 (case sg5 => have h_ := cell_kept HG5_.out (by repeat (first | (with_reducible first | exact HK.out | apply Kept.alloc | apply Kept.drewN | apply Kept.drew) | exact HK.out)) HN5_.out; first | exact h_ | (rw [hl1_1] at h_; exact h_))
                 (case sn1 => exact fun e_ => e_.elim (fun e_ => by first | exact (HO_1.out.1 g1_ e_.symm).elim HN1_.out (fun h_ => Nat.lt_irrefl _ (Nat.lt_of_lt_of_le (World.block_lt_of_cell? w _ HG1_.out) h_)) | exact (HO_1.out.1 g1_ e_.symm).1.elim HN1_.out (fun h_ => Nat.lt_irrefl _ (Nat.lt_of_lt_of_le (World.block_lt_of_cell? w _ HG1_.out) h_)) | exact (HO_1.out.1 g1_ e_.symm).1.1.elim HN1_.out (fun h_ => Nat.lt_irrefl _ (Nat.lt_of_lt_of_le (World.block_lt_of_cell? w _ HG1_.out) h_))) (fun e_ => by first | exact (HO_3.out.1 g1_ e_.symm).elim HN1_.out (fun h_ => Nat.lt_irrefl _ (Nat.lt_of_lt_of_le (World.block_lt_of_cell? w _ HG1_.out) h_)) | exact (HO_3.out.1 g1_ e_.symm).1.elim HN1_.out (fun h_ => Nat.lt_irrefl _ (Nat.lt_of_lt_of_le (World.block_lt_of_cell? w _ HG1_.out) h_)) | exact (HO_3.out.1 g1_ e_.symm).1.1.elim HN1_.out (fun h_ => Nat.lt_irrefl _ (Nat.lt_of_lt_of_le (World.block_lt_of_cell? w _ HG1_.out) h_))))
                 (case sn2 => exact fun e_ => e_.elim (fun e_ => by first | exact (HO_1.out.1 g2_ e_.symm).elim HN2_.out (fun h_ => Nat.lt_irrefl _ (Nat.lt_of_lt_of_le (World.block_lt_of_cell? w _ HG2_.out) h_)) | exact (HO_1.out.1 g2_ e_.symm).1.elim HN2_.out (fun h_ => Nat.lt_irrefl _ (Nat.lt_of_lt_of_le (World.block_lt_of_cell? w _ HG2_.out) h_)) | exact (HO_1.out.1 g2_ e_.symm).1.1.elim HN2_.out (fun h_ => Nat.lt_irrefl _ (Nat.lt_of_lt_of_le (World.block_lt_of_cell? w _ HG2_.out) h_))) (fun e_ => by first | exact (HO_3.out.1 g2_ e_.symm).elim HN2_.out (fun h_ => Nat.lt_irrefl _ (Nat.lt_of_lt_of_le (World.block_lt_of_cell? w _ HG2_.out) h_)) | exact (HO_3.out.1 g2_ e_.symm).1.elim HN2_.out (fun h_ => Nat.lt_irrefl _ (Nat.lt_of_lt_of_le (World.block_lt_of_cell? w _ HG2_.out) h_)) | exact (HO_3.out.1 g2_ e_.symm).1.1.elim HN2_.out (fun h_ => Nat.lt_irrefl _ (Nat.lt_of_lt_of_le (World.block_lt_of_cell? w _ HG2_.out) h_))))
                 (case sn3 => exact fun e_ => e_.elim (fun e_ => by first | exact (HO_1.out.1 g3_ e_.symm).elim HN3_.out (fun h_ => Nat.lt_irrefl _ (Nat.lt_of_lt_of_le (World.block_lt_of_cell? w _ HG3_.out) h_)) | exact (HO_1.out.1 g3_ e_.symm).1.elim HN3_.out (fun h_ => Nat.lt_irrefl _ (Nat.lt_of_lt_of_le (World.block_lt_of_cell? w _ HG3_.out) h_)) | exact (HO_1.out.1 g3_ e_.symm).1.1.elim HN3_.out (fun h_ => Nat.lt_irrefl _ (Nat.lt_of_lt_of_le (World.block_lt_of_cell? w _ HG3_.out) h_))) (fun e_ => by first | exact (HO_3.out.1 g3_ e_.symm).elim HN3_.out (fun h_ => Nat.lt_irrefl _ (Nat.lt_of_lt_of_le (World.block_lt_of_cell? w _ HG3_.out) h_)) | exact (HO_3.out.1 g3_ e_.symm).1.elim HN3_.out (fun h_ => Nat.lt_irrefl _ (Nat.lt_of_lt_of_le (World.block_lt_of_cell? w _ HG3_.out) h_)) | exact (HO_3.out.1 g3_ e_.symm).1.1.elim HN3_.out (fun h_ => Nat.lt_irrefl _ (Nat.lt_of_lt_of_le (World.block_lt_of_cell? w _ HG3_.out) h_))))
                 (case sn4 => exact fun e_ => e_.elim (fun e_ => by first | exact (HO_1.out.1 g4_ e_.symm).elim HN4_.out (fun h_ => Nat.lt_irrefl _ (Nat.lt_of_lt_of_le (World.block_lt_of_cell? w _ HG4_.out) h_)) | exact (HO_1.out.1 g4_ e_.symm).1.elim HN4_.out (fun h_ => Nat.lt_irrefl _ (Nat.lt_of_lt_of_le (World.block_lt_of_cell? w _ HG4_.out) h_)) | exact (HO_1.out.1 g4_ e_.symm).1.1.elim HN4_.out (fun h_ => Nat.lt_irrefl _ (Nat.lt_of_lt_of_le (World.block_lt_of_cell? w _ HG4_.out) h_))) (fun e_ => by first | exact (HO_3.out.1 g4_ e_.symm).elim HN4_.out (fun h_ => Nat.lt_irrefl _ (Nat.lt_of_lt_of_le (World.block_lt_of_cell? w _ HG4_.out) h_)) | exact (HO_3.out.1 g4_ e_.symm).1.elim HN4_.out (fun h_ => Nat.lt_irrefl _ (Nat.lt_of_lt_of_le (World.block_lt_of_cell? w _ HG4_.out) h_)) | exact (HO_3.out.1 g4_ e_.symm).1.1.elim HN4_.out (fun h_ => Nat.lt_irrefl _ (Nat.lt_of_lt_of_le (World.block_lt_of_cell? w _ HG4_.out) h_))))
                 (case sn5 => exact fun e_ => e_.elim (fun e_ => by first | exact (HO_1.out.1 g5_ e_.symm).elim HN5_.out (fun h_ => Nat.lt_irrefl _ (Nat.lt_of_lt_of_le (World.block_lt_of_cell? w _ HG5_.out) h_)) | exact (HO_1.out.1 g5_ e_.symm).1.elim HN5_.out (fun h_ => Nat.lt_irrefl _ (Nat.lt_of_lt_of_le (World.block_lt_of_cell? w _ HG5_.out) h_)) | exact (HO_1.out.1 g5_ e_.symm).1.1.elim HN5_.out (fun h_ => Nat.lt_irrefl _ (Nat.lt_of_lt_of_le (World.block_lt_of_cell? w _ HG5_.out) h_))) (fun e_ => by first | exact (HO_3.out.1 g5_ e_.symm).elim HN5_.out (fun h_ => Nat.lt_irrefl _ (Nat.lt_of_lt_of_le (World.block_lt_of_cell? w _ HG5_.out) h_)) | exact (HO_3.out.1 g5_ e_.symm).1.elim HN5_.out (fun h_ => Nat.lt_irrefl _ (Nat.lt_of_lt_of_le (World.block_lt_of_cell? w _ HG5_.out) h_)) | exact (HO_3.out.1 g5_ e_.symm).1.1.elim HN5_.out (fun h_ => Nat.lt_irrefl _ (Nat.lt_of_lt_of_le (World.block_lt_of_cell? w _ HG5_.out) h_))))
                 (case side1 => repeat (first | (with_reducible first | exact HB.out | apply below_alloc | apply pw_below_drewN | apply below_drew1) | exact HB.out))
                 (case side2 => exact Kd.R_tight rfl HO_1.out)
                 (case side3 => exact fun k_ e_ => (HO_1.out.1 k_ e_.symm).2)
                 (case side4 => exact HR2.out)
                 (case side5 => exact HC2.out)
                 (case side6 => exact Kd.R_tight rfl HO_3.out)
                 (case side7 => exact fun k_ e_ => (HO_3.out.1 k_ e_.symm).2)
                 (case side8 => exact Kd.C_kept_call HR4.out (by repeat (first | (with_reducible first | exact HK.out | apply Kept.alloc | apply Kept.drewN | apply Kept.drew) | exact HK.out)) (fun k_ hs_ => Or.elim hs_ (fun e_ => (fun e_ => (HO_1.out.1 k_ e_.symm).1) e_) (fun e_ => (fun e_ => (HO_3.out.1 k_ e_.symm).1) e_)))
                 (case side9 => exact HC4.out)
                 rintro e w34 ⟨rfl, hy0, hy1, hb, hkp⟩
                 refine ⟨_, rfl, ?_⟩
                 have n0_ := Aside0.mk (Kd.R_reok rfl hy0 (fun k_ e_ => HO_1.out.1 k_ e_))
                 have n1_ := Aside0.mk (Kd.R_reok rfl hy1 (fun k_ e_ => HO_3.out.1 k_ e_))
                 have n2_ := Aside0.mk (Kept.then_ (S := (fun k_ => P1_ k_ ∨ P3_ k_)) (by repeat (first | (with_reducible first | exact HK.out | apply Kept.alloc | apply Kept.drewN | apply Kept.drew) | exact HK.out)) hkp (fun k_ hs_ => Or.elim hs_ (fun e_ => (fun e_ => (HO_1.out.1 k_ e_.symm).1) e_) (fun e_ => (fun e_ => (HO_3.out.1 k_ e_.symm).1) e_)))
                 have n3_ := Aside0.mk (hb)
                 clear HO_1
                 clear HO_3
                 clear HK
                 clear HB
                 have HO_1 := n0_
                 have hl_HO_1 := Aside0.mk (Kd.R_reads' HO_1.out).1
                 have HO_3 := n1_
                 have hl_HO_3 := Aside0.mk (Kd.R_reads' HO_3.out).1
                 have HK := n2_
                 have hq11_0 := cell_kept HG1_.out HK.out HN1_.out
                 have hq11_1 := cell_kept HG2_.out HK.out HN2_.out
                 have hq11_2 := cell_kept HG3_.out HK.out HN3_.out
                 have hq11_3 := cell_kept HG4_.out HK.out HN4_.out
                 have hq11_4 := cell_kept HG5_.out HK.out HN5_.out
                 have HB := n3_
                 clear n0_ n1_ n2_ n3_
                 (try clear hb)
                 (try clear hkp)
                 (try clear hy0)
                 (try clear hy1)
                 have hq12_0 := cell_kept HG1_.out HK.out HN1_.out
                 have hq12_1 := cell_kept HG2_.out HK.out HN2_.out
                 have hq12_2 := cell_kept HG3_.out HK.out HN3_.out
                 have hq12_3 := cell_kept HG4_.out HK.out HN4_.out
                 have hq12_4 := cell_kept HG5_.out HK.out HN5_.out
                 refine hK.out _ _ ⟨((Kd.foot_int (HR4.out _ (by repeat (first | exact HK.out | apply Kept.alloc | apply Kept.drewN | apply Kept.drew))) x21_1 (of_eq_true p201) (of_eq_true q201))), hq12_0, hq12_1, hq12_2, hq12_3, hq12_4⟩ (fun hHeld => ?_)
                 clear hK K
                 refine norm_ (a' := ?_) ?_ ?_
                 rotate_left
                 ·
                  show Act.put _ (some 47) _ = _
                  simp only [Act.put, List.setIfInBounds_toArray, List.set_cons_zero, List.set_cons_succ, i64_w, i32_w]
                  rfl
                 refine done_ (by kernel_rfl) ?_
                 have hq13_0 := cell_kept HG1_.out HK.out HN1_.out
                 have hq13_1 := cell_kept HG2_.out HK.out HN2_.out
                 have hq13_2 := cell_kept HG3_.out HK.out HN3_.out
                 have hq13_3 := cell_kept HG4_.out HK.out HN4_.out
                 have hq13_4 := cell_kept HG5_.out HK.out HN5_.out
                 try go_wp2
                 (try simp only [← hl1_1])
                 go_roundg kj18
                 case measure => have := HK1.out; have := HJ18.out; omega
                 case rel => exact ⟨(t202), (t203), (wrap64 (x21_1 + 1)), (by first | rfl | (simp; done) | (simp [*]; done)), H', ⟨by have := HK1.out; have := HJ18.out; omega⟩, ⟨by (try simp only [hl1_1]); (with_reducible repeat (first | apply Kd.R_alloc | apply Kd.R_drewN | apply Kd.R_drew)); exact HO_1.out⟩, ⟨by (try simp only [hl1_1]); (with_reducible repeat (first | apply Kd.R_alloc | apply Kd.R_drewN | apply Kd.R_drew)); exact HO_3.out⟩, ⟨by repeat (first | (with_reducible first | exact HK.out | apply Kept.alloc | apply Kept.drewN | apply Kept.drew) | exact HK.out)⟩, ⟨by repeat (first | (with_reducible first | exact HB.out | apply below_alloc | apply pw_below_drewN | apply below_drew1) | exact HB.out)⟩⟩
                ·
                 rw [if_neg c29] at H
                 have c29b0 : decide (0 ≤ (rd l4 x21_1)) = false := decide_eq_false c29
                 clear c29
                 have H' := Aside0.mk H
                 clear H
                 have p27 : 0 ≤ (x21_1 : Int) := of_decide_eq_true (by first | (with_reducible assumption) | assumption)
                 have q27 : (x21_1 : Int) < ((x3_1.length : Int) : Int) := of_decide_eq_true (by first | (with_reducible assumption) | assumption)
                 obtain ⟨go27, co27, eo27, gb27, gl27, cl27, HG27⟩ := Kd.R_form HO_3.out (by first | omega | (have := hl_HO_3.out; omega))
                 (first | cases eo27 | (injection eo27 with ea_ en_ ec_; (first | subst ea_ | (injection ea_ with ea_; subst ea_)); subst ec_; clear en_))
                 have GB27 := Aside0.mk gb27
                 have GG27 := Aside0.mk HG27
                 clear gb27 gl27 HG27
                 have HMgo27 := Aside0.mk (show ((P1_ go27 ∨ P3_ go27) ∨ w.heap.size ≤ go27) from (HO_3.out.1 _ rfl).1)
                 obtain ⟨hx27_0, hf27_0⟩ := Kd.R_celln false HO_3.out (x21_1 : Int) p27 q27
                 replace p27 := eq_true p27
                 replace q27 := eq_true q27
                 have HP35 := Kd.R_putg HO_3.out (x21_1 : Int) true
                 have hq15_0 := cell_kept HG1_.out HK.out HN1_.out
                 have hq15_1 := cell_kept HG2_.out HK.out HN2_.out
                 have hq15_2 := cell_kept HG3_.out HK.out HN3_.out
                 have hq15_3 := cell_kept HG4_.out HK.out HN4_.out
                 have hq15_4 := cell_kept HG5_.out HK.out HN5_.out
                 go_wp2_with (first | ((with_reducible refine gate_store (t := 4) (p := 36) rfl ?_); refine store_event (t := 4) (p := 36) (v := ?vo_w36) (w1 := (wc.setCell ⟨go27, (x21_1 : Int).toNat, none⟩ (.bool true))) ?hg ?ho ?hn ?hr ?_; (case ho => rfl); (case hg => rfl); (case hn => rfl); (case hr => first | (go_simp; done) | (go_simp; rfl)); intro w36 hw; have hg : wc.grownBy w36 (some go27) := (by rw [hw]; exact HP35.2); have hp_ : Kd.R Kd.bool 4 w36 w0.heap.size (fun k_ => ((P1_ k_ ∨ P3_ k_) ∨ w.heap.size ≤ k_) ∧ some k_ ≠ (.slice (some ⟨go11, 0, none⟩) x1_1.length co13 : Value).ownBlock) (.slice (some ⟨go27, 0, none⟩) x3_1.length co27) y199 := (by rw [hw, Ny199.out]; exact HP35.1); clear HP35; have n0_ := Aside0.mk (Kd.R_after (v := (.slice (some ⟨go27, 0, none⟩) x3_1.length co27)) (v1 := (.slice (some ⟨go27, 0, none⟩) x3_1.length co27)) (ok := (fun k_ => ((P1_ k_ ∨ P3_ k_) ∨ w.heap.size ≤ k_))) (by (with_reducible repeat (first | apply Kd.R_alloc | apply Kd.R_drewN | apply Kd.R_drew)); exact HO_1.out) hg (.inl rfl)); have n1_ := Aside0.mk (hp_); have n2_ := Aside0.mk ((by rw [hw]; exact below_set (HB.out) GB27.out : Below w0.heap.size w0 w36)); have n3_ := Aside0.mk (Kept.of_grown (S := (fun k_ => P1_ k_ ∨ P3_ k_)) hg (by repeat (first | (with_reducible first | exact HK.out | apply Kept.alloc | apply Kept.drewN | apply Kept.drew) | exact HK.out)) (fun k_ e_ => (HO_3.out.1 k_ e_).1)); clear HO_1; clear HO_3; clear HB; clear HK; have HO_1 := n0_; have HO_3 := n1_; have HB := n2_; have HK := n3_; have hq14_0 := cell_kept HG1_.out HK.out HN1_.out; have hq14_1 := cell_kept HG2_.out HK.out HN2_.out; have hq14_2 := cell_kept HG3_.out HK.out HN3_.out; have hq14_3 := cell_kept HG4_.out HK.out HN4_.out; have hq14_4 := cell_kept HG5_.out HK.out HN5_.out; clear n0_ n1_ n2_ n3_; clear hg hw hp_; have p200 : 0 ≤ (x21_1 : Int) := of_decide_eq_true (by first | (with_reducible assumption) | assumption); have q200 : x21_1 < (l4.length : Int) := of_decide_eq_true (by first | (with_reducible assumption) | assumption); obtain ⟨ad200, e200, hx200_0⟩ := Kd.at_int (Kd.C_kept_now HR4.out HK.out) x21_1 p200 q200; cases e200; replace p200 := eq_true p200; replace q200 := eq_true q200))
                 (try simp only [← hl1_1])
                 go_roundg kj18
                 case measure => have := HK1.out; have := HJ18.out; omega
                 case rel => exact ⟨(x1_1), (y199), (wrap64 (x21_1 + 1)), (by first | rfl | (simp; done) | (simp [*]; done)), H', ⟨by have := HK1.out; have := HJ18.out; omega⟩, ⟨by (try simp only [hl1_1]); (with_reducible repeat (first | apply Kd.R_alloc | apply Kd.R_drewN | apply Kd.R_drew)); exact HO_1.out⟩, ⟨by (try simp only [hl1_1]); (with_reducible repeat (first | apply Kd.R_alloc | apply Kd.R_drewN | apply Kd.R_drew)); exact HO_3.out⟩, ⟨by repeat (first | (with_reducible first | exact HK.out | apply Kept.alloc | apply Kept.drewN | apply Kept.drew) | exact HK.out)⟩, ⟨by repeat (first | (with_reducible first | exact HB.out | apply below_alloc | apply pw_below_drewN | apply below_drew1) | exact HB.out)⟩⟩
               ·
                rw [if_neg c28] at H
                exact absurd H (by simp)
              ·
               rw [if_neg c26] at H
               exact absurd H (by simp)
             ·
              rw [if_neg c25] at H
              exact absurd H (by simp)
            ·
             replace c24 := Bool.eq_false_iff.mpr c24
             subst c24
             have H1 : (match_Cover_fn1.l0 kj18 x1_1 l2 x3_1 l4 (rd_L1 l2 a0) ((rd_L1 l2 a0).length : Int) (wrap64 (x21_1 + 1))) = some (r1, r2) := by rw [if_neg (show ¬ (false = true) by decide)] at H; exact H
             clear H
             have H := H1
             clear H1
             have H' := Aside0.mk H
             clear H
             have hq16_0 := cell_kept HG1_.out HK.out HN1_.out
             have hq16_1 := cell_kept HG2_.out HK.out HN2_.out
             have hq16_2 := cell_kept HG3_.out HK.out HN3_.out
             have hq16_3 := cell_kept HG4_.out HK.out HN4_.out
             have hq16_4 := cell_kept HG5_.out HK.out HN5_.out
             go_wp2
             (try simp only [← hl1_1])
             go_roundg kj18
             case measure => have := HK1.out; have := HJ18.out; omega
             case rel => exact ⟨(x1_1), (x3_1), (wrap64 (x21_1 + 1)), (by first | rfl | (simp; done) | (simp [*]; done)), H', ⟨by have := HK1.out; have := HJ18.out; omega⟩, ⟨by (try simp only [hl1_1]); (with_reducible repeat (first | apply Kd.R_alloc | apply Kd.R_drewN | apply Kd.R_drew)); exact HO_1.out⟩, ⟨by (try simp only [hl1_1]); (with_reducible repeat (first | apply Kd.R_alloc | apply Kd.R_drewN | apply Kd.R_drew)); exact HO_3.out⟩, ⟨by repeat (first | (with_reducible first | exact HK.out | apply Kept.alloc | apply Kept.drewN | apply Kept.drew) | exact HK.out)⟩, ⟨by repeat (first | (with_reducible first | exact HB.out | apply below_alloc | apply pw_below_drewN | apply below_drew1) | exact HB.out)⟩⟩
         ·
          rw [if_neg c18] at H
          exact absurd H (by simp)
        ·
         rw [if_neg c17] at H
         exact absurd H (by simp)
       ·
        rw [if_neg c16] at H
        have c16b0 : decide (x21_1 < ((rd_L1 l2 a0).length : Int)) = false := decide_eq_false c16
        clear c16
        simp only [Option.some.injEq, Prod.mk.injEq] at H
        obtain ⟨rfl, rfl⟩ := H
        have hq17_0 := cell_kept HG1_.out HK.out HN1_.out
        have hq17_1 := cell_kept HG2_.out HK.out HN2_.out
        have hq17_2 := cell_kept HG3_.out HK.out HN3_.out
        have hq17_3 := cell_kept HG4_.out HK.out HN4_.out
        have hq17_4 := cell_kept HG5_.out HK.out HN5_.out
        go_wp2
        first | go_end0 | ((try simp only [Exit.inBlock, Exit.then]); refine bodyPost_ret (results_none rfl _ _ _) rfl ?_)
        exact ⟨by first | rfl | (simp [errW_none, errW_some] <;> rfl) | (simp [*, errW_none, errW_some] <;> rfl), (by first | exact (by (with_reducible repeat (first | apply Kd.R_alloc | apply Kd.R_drewN | apply Kd.R_drew)); exact Kd.R_mono HO_1.out (fun _ hk => hk.1)) | (simp only [hl1_1]; exact (by (with_reducible repeat (first | apply Kd.R_alloc | apply Kd.R_drewN | apply Kd.R_drew)); exact Kd.R_mono HO_1.out (fun _ hk => hk.1)))), (by first | exact (by (with_reducible repeat (first | apply Kd.R_alloc | apply Kd.R_drewN | apply Kd.R_drew)); exact Kd.R_mono HO_3.out (fun _ hk => hk.1)) | (simp only [hl1_1]; exact (by (with_reducible repeat (first | apply Kd.R_alloc | apply Kd.R_drewN | apply Kd.R_drew)); exact Kd.R_mono HO_3.out (fun _ hk => hk.1)))), by repeat (first | (with_reducible first | exact HB.out | apply below_alloc | apply pw_below_drewN | apply below_drew1) | exact HB.out), by repeat (first | (with_reducible first | exact HK.out | apply Kept.alloc | apply Kept.drewN | apply Kept.drew) | exact HK.out)⟩
    ·
     rw [if_neg c12] at H
     exact absurd H (by simp)
  ·
   rw [if_neg c7] at H
   exact absurd H (by simp)
 ·
  rw [if_neg c6] at H
  exact absurd H (by simp)
end Go.Proofs.Ytaacihkhckpecaa.PAll
