-- Written by wip/tools/handprint.py: walks of the functions that the law reaches; Lean checks them.
import Derived.Test.YtbmflpflmjfabaaPAllx0
namespace Go.Proofs.Ytbmflpflmjfabaa.PAll
open Go.RowKit Go.Proofs.YtbmflpflmjfabaaW.PrintWords Go.Proofs.YtbmflpflmjfabaaW.PrintLast Go.Proofs.YtbmflpflmjfabaaW.PrintMore
attribute [local go_sem] max2_int min2_int max_two min_two max_three min_three max_four min_four   -- for this text's walks alone
set_option linter.unusedVariables false
set_option linter.unusedSimpArgs false

/-! ### match_greatest_fn1: function 33 -/
mutual
def match_greatest_fn1.l0 : Nat → Int → List (List Bool) → List Bool → List Bool → List Int → List Bool → Int → Int → Option (Bool × List Bool × List Int)
 | 0, _, _, _, _, _, _, _, _ => none
 | k + 1, x0, x1, x2, x3, x4, x13, x14, x15 => if x15 < x14 then (if 0 ≤ x15 then (if x15 < (x13.length : Int) then (if rdOf false x13 x15 = true then (if x15 < (x2.length : Int) then (if rdOf false x2 x15 = true then (match_greatest_fn1.j1 k x0 x1 x2 x3 x4 x15 x13 x14 x15 true) else (if x15 < (x3.length : Int) then (match_greatest_fn1.j1 k x0 x1 x2 x3 x4 x15 x13 x14 x15 (rdOf false x3 x15)) else (none))) else (none)) else (match_greatest_fn1.j1 k x0 x1 x2 x3 x4 x15 x13 x14 x15 true)) else (none)) else (none)) else (some (false, x3, x4))
def match_greatest_fn1.j1 : Nat → Int → List (List Bool) → List Bool → List Bool → List Int → Int → List Bool → Int → Int → Bool → Option (Bool × List Bool × List Int)
 | 0, _, _, _, _, _, _, _, _, _, _ => none
 | k + 1, x0, x1, x2, x3, x4, x8, x13, x14, x15, x33 => if x33 = true then (match_greatest_fn1.l0 k x0 x1 x2 x3 x4 x13 x14 (wrap64 (x15 + 1))) else (if 0 ≤ x8 then (if x8 < (x3.length : Int) then ((some (x3.set (x8 : Int).toNat true : List Bool)).bind fun y493 => (if x8 < (x4.length : Int) then (if (rd x4 x8) < 0 then (some (true, y493, (x4.set (x8 : Int).toNat x0))) else ((match_greatest_fn1.f k (rd x4 x8) x1 x2 y493 x4).bind fun bt497 => (if bt497.1 = true then (some (true, bt497.2.1, (bt497.2.2.set (x8 : Int).toNat x0))) else (match_greatest_fn1.l0 k x0 x1 x2 bt497.2.1 bt497.2.2 x13 x14 (wrap64 (x15 + 1)))))) else (none))) else (none)) else (none))
def match_greatest_fn1.f : Nat → Int → List (List Bool) → List Bool → List Bool → List Int → Option (Bool × List Bool × List Int)
 | 0, _, _, _, _, _ => none
 | k + 1, a0, l1, l2, l3, l4 => if 0 ≤ a0 then (if a0 < (l1.length : Int) then (match_greatest_fn1.l0 k a0 l1 l2 l3 l4 (rd_L3 l1 a0) ((rd_L3 l1 a0).length : Int) 0) else (none)) else (none)
end
theorem match_greatest_fn1.mono_l : ∀ k, (∀ y0 y1 y2 y3 y4, LeO (match_greatest_fn1.f k y0 y1 y2 y3 y4) (match_greatest_fn1.f (k + 1) y0 y1 y2 y3 y4)) ∧ (∀ y0 y1 y2 y3 y4 y5 y6 y7, LeO (match_greatest_fn1.l0 k y0 y1 y2 y3 y4 y5 y6 y7) (match_greatest_fn1.l0 (k + 1) y0 y1 y2 y3 y4 y5 y6 y7)) ∧ (∀ y0 y1 y2 y3 y4 y5 y6 y7 y8 y9, LeO (match_greatest_fn1.j1 k y0 y1 y2 y3 y4 y5 y6 y7 y8 y9) (match_greatest_fn1.j1 (k + 1) y0 y1 y2 y3 y4 y5 y6 y7 y8 y9))
 | 0 => ⟨fun _ _ _ _ _ r h => by simp [match_greatest_fn1.f] at h, fun _ _ _ _ _ _ _ _ r h => by simp [match_greatest_fn1.l0] at h, fun _ _ _ _ _ _ _ _ _ _ r h => by simp [match_greatest_fn1.j1] at h⟩
 | k + 1 => by
  obtain ⟨ih0, ih1, ih2⟩ := match_greatest_fn1.mono_l k
  refine ⟨?_, ?_, ?_⟩
  ·
   intro y0 y1 y2 y3 y4
   unfold match_greatest_fn1.f
   repeat' first
   | (with_reducible exact ih0 _ _ _ _ _)
   | (with_reducible exact ih1 _ _ _ _ _ _ _ _)
   | (with_reducible exact ih2 _ _ _ _ _ _ _ _ _ _)
   | (with_reducible exact LeO.refl _)
   | (with_reducible exact LeO.none _)
   | (with_reducible refine LeO.ite ?_ ?_)
   | (with_reducible refine LeO.bind ?_ (fun _ => ?_))
   | exact ih0 _ _ _ _ _
   | exact ih1 _ _ _ _ _ _ _ _
   | exact ih2 _ _ _ _ _ _ _ _ _ _
   | exact LeO.none _
   | refine LeO.ite ?_ ?_
   | refine LeO.bind ?_ (fun _ => ?_)
  ·
   intro y0 y1 y2 y3 y4 y5 y6 y7
   unfold match_greatest_fn1.l0
   repeat' first
   | (with_reducible exact ih0 _ _ _ _ _)
   | (with_reducible exact ih1 _ _ _ _ _ _ _ _)
   | (with_reducible exact ih2 _ _ _ _ _ _ _ _ _ _)
   | (with_reducible exact LeO.refl _)
   | (with_reducible exact LeO.none _)
   | (with_reducible refine LeO.ite ?_ ?_)
   | (with_reducible refine LeO.bind ?_ (fun _ => ?_))
   | exact ih0 _ _ _ _ _
   | exact ih1 _ _ _ _ _ _ _ _
   | exact ih2 _ _ _ _ _ _ _ _ _ _
   | exact LeO.none _
   | refine LeO.ite ?_ ?_
   | refine LeO.bind ?_ (fun _ => ?_)
  ·
   intro y0 y1 y2 y3 y4 y5 y6 y7 y8 y9
   unfold match_greatest_fn1.j1
   repeat' first
   | (with_reducible exact ih0 _ _ _ _ _)
   | (with_reducible exact ih1 _ _ _ _ _ _ _ _)
   | (with_reducible exact ih2 _ _ _ _ _ _ _ _ _ _)
   | (with_reducible exact LeO.refl _)
   | (with_reducible exact LeO.none _)
   | (with_reducible refine LeO.ite ?_ ?_)
   | (with_reducible refine LeO.bind ?_ (fun _ => ?_))
   | exact ih0 _ _ _ _ _
   | exact ih1 _ _ _ _ _ _ _ _
   | exact ih2 _ _ _ _ _ _ _ _ _ _
   | exact LeO.none _
   | refine LeO.ite ?_ ?_
   | refine LeO.bind ?_ (fun _ => ?_)
theorem match_greatest_fn1.mono : ∀ a0 a1 a2 a3 a4 k, LeO (match_greatest_fn1.f k a0 a1 a2 a3 a4) (match_greatest_fn1.f (k + 1) a0 a1 a2 a3 a4) := by
 intro a0 a1 a2 a3 a4 k
 obtain ⟨ih0, ih1, ih2⟩ := match_greatest_fn1.mono_l k
 exact ih0 a0 a1 a2 a3 a4
def match_greatest_fn1.T6 : Bool × List (List Nat × List Nat) := (true, [([], []), ([], []), ([0, 1], [0, 1]), ([2], [2]), ([3], [3]), ([4], [4]), ([5], [5]), ([5], [5]), ([5], [5]), ([7, 8, 5], [5, 7, 8]), ([9, 5], [5, 9]), ([6, 10, 5, 5], [5, 6, 10]), ([5, 11], [5, 11])])
def match_greatest_fn1.B6 : List Nat := [0, 0, 3, 7, 15, 31, 63, 63, 63, 447, 959, 2047, 4095]
theorem match_greatest_fn1.tab6 : rtab .any (opsOf Try.f33 6) = match_greatest_fn1.T6 := by kernel_rfl
theorem match_greatest_fn1.bits6 : waitsOk match_greatest_fn1.T6.2 match_greatest_fn1.B6 = true := by kernel_rfl
/-- A call of a function value, in a region that draws its order. -/
theorem match_greatest_fn1.goesV {P : Program} {ops : Array Oper} {Q : Exit → Act → World → Prop} {oi : Oper} {N : Option Tmp} {a : Act} {w : World} {K : Act → World → Prop} {f : FuncId} {fn : Func} {ar : Array Operand} {s : Operand} {ts : Array TypeId} (hf : P.funcs[f]? = some fn) (hname : (fn.name == "runtime.NumGoroutine") = false) (hb : fn.body.isSome = true) (args cap : Array Value)
  (hw : Region.wanted oi (yielded ops a.tmps) = true) (hN : oi.dst = N) (hop : oi.op = .call { callee := .value s, args := ar, argTypes := ts }) (hs : a.eval s = .func (.func f) #[] cap) (hargs : ar.map a.eval ++ cap = args)
  (h : Calls P f args w fun e w' => ∃ v, e = .returned v ∧ K (a.put N v) w') : if Region.wanted oi (yielded ops a.tmps) = true then Oper.wp P oi a w K Q else K (a.put N undef) w := by
 refine call_ f args hw hN ?_ h
 have he := enters_ hf hname hb args w
 unfold execOp
 simp [hop, resolve, Deferred.ofValue, invoke, hs, hargs, he]
set_option maxHeartbeats 8000000 in
set_option maxRecDepth 100000 in
theorem match_greatest_fn1.calls (k : Nat) : ∀ (a0 : Int) (A1 : Option Addr) (c1 : Nat) (l1 : List (List Bool)) (A2 : Option Addr) (c2 : Nat) (l2 : List Bool) (P3_ : Nat → Prop) (u9000_ : Value) (l3 : List Bool) (P4_ : Nat → Prop) (u9001_ : Value) (l4 : List Int) (r1 : Bool) (r2 : List Bool) (r3 : List Int) (w0 w : World) (hB : Below w0.heap.size w0 w) (hr1 : Kd.C (Kd.slice 4 Kd.bool) w0 A1 l1.length l1) (hc1 : l1.length ≤ c1) (hr2 : Kd.C Kd.bool w0 A2 l2.length l2) (hc2 : l2.length ≤ c2) (ho3 : Kd.R Kd.bool 4 w w0.heap.size P3_ u9000_ l3) (ho4 : Kd.R (Kd.int .i64) 3 w w0.heap.size P4_ u9001_ l4) (g1_ g2_ g3_ g4_ g5_ : Nat) (hcap1 : w.cell? ⟨g1_, 0, none⟩ = some (.slice A1 l1.length c1)) (hcap2 : w.cell? ⟨g2_, 0, none⟩ = some (.slice A2 l2.length c2)) (hcap3 : w.cell? ⟨g3_, 0, none⟩ = some (u9000_)) (hcap4 : w.cell? ⟨g4_, 0, none⟩ = some (u9001_)) (hcap5 : w.cell? ⟨g5_, 0, none⟩ = some (.func (.func 33) #[] #[.pointer (some ⟨g1_, 0, none⟩), .pointer (some ⟨g2_, 0, none⟩), .pointer (some ⟨g3_, 0, none⟩), .pointer (some ⟨g4_, 0, none⟩), .pointer (some ⟨g5_, 0, none⟩)])) (hcan1 : ¬ (P3_ g1_ ∨ P4_ g1_)) (hcan2 : ¬ (P3_ g2_ ∨ P4_ g2_)) (hcan3 : ¬ (P3_ g3_ ∨ P4_ g3_)) (hcan4 : ¬ (P3_ g4_ ∨ P4_ g4_)) (hcan5 : ¬ (P3_ g5_ ∨ P4_ g5_)) (h : match_greatest_fn1.f k a0 l1 l2 l3 l4 = some (r1, r2, r3)),
  Calls Try.prog 33 #[.int .i64 a0, .pointer (some ⟨g1_, 0, none⟩), .pointer (some ⟨g2_, 0, none⟩), .pointer (some ⟨g3_, 0, none⟩), .pointer (some ⟨g4_, 0, none⟩), .pointer (some ⟨g5_, 0, none⟩)] w fun e w' => e = .returned (.bool r1) ∧ Kd.R Kd.bool 4 w' w0.heap.size (fun k_ => ((P3_ k_ ∨ P4_ k_) ∨ w.heap.size ≤ k_)) u9000_ r2 ∧ Kd.R (Kd.int .i64) 3 w' w0.heap.size (fun k_ => ((P3_ k_ ∨ P4_ k_) ∨ w.heap.size ≤ k_)) u9001_ r3 ∧ Below w0.heap.size w0 w' ∧ Kept w w' (fun k_ => P3_ k_ ∨ P4_ k_) := by
 induction k using Nat.strongRecOn with
 | _ k ih =>
 intro a0 A1 c1 l1 A2 c2 l2 P3_ u9000_ l3 P4_ u9001_ l4 r1 r2 r3 w0 w hB hr1 hc1 hr2 hc2 ho3 ho4 g1_ g2_ g3_ g4_ g5_ hcap1 hcap2 hcap3 hcap4 hcap5 hcan1 hcan2 hcan3 hcan4 hcan5 h
 cases k with
 | zero => exact absurd h (by simp [match_greatest_fn1.f])
 | succ k =>
 simp only [match_greatest_fn1.f] at h
 have HG1_ := Aside0.mk hcap1
 have HG2_ := Aside0.mk hcap2
 have HG3_ := Aside0.mk hcap3
 have HG4_ := Aside0.mk hcap4
 have HG5_ := Aside0.mk hcap5
 have HN1_ := Aside0.mk hcan1
 have HN2_ := Aside0.mk hcan2
 have HN3_ := Aside0.mk hcan3
 have HN4_ := Aside0.mk hcan4
 have HN5_ := Aside0.mk hcan5
 clear hcap1 hcap2 hcap3 hcap4 hcap5 hcan1 hcan2 hcan3 hcan4 hcan5
 have HR1 := Aside0.mk hr1
 have HC1 := Aside0.mk hc1
 clear hr1 hc1
 have HR2 := Aside0.mk hr2
 have HC2 := Aside0.mk hc2
 clear hr2 hc2
 have HO3 := Aside0.mk (show Kd.R Kd.bool 4 w w0.heap.size (fun k_ => ((P3_ k_ ∨ P4_ k_) ∨ w.heap.size ≤ k_)) u9000_ l3 from Kd.R_mono ho3 (fun k_ hk => (.inl (.inl hk))))
 have HO4 := Aside0.mk (show Kd.R (Kd.int .i64) 3 w w0.heap.size (fun k_ => ((P3_ k_ ∨ P4_ k_) ∨ w.heap.size ≤ k_)) u9001_ l4 from Kd.R_mono ho4 (fun k_ hk => (.inl (.inr hk))))
 have HK := Aside0.mk (Kept.refl w (fun k_ => P3_ k_ ∨ P4_ k_))
 have HW0 := Aside0.mk hB.size
 have HB := Aside0.mk hB
 clear hB
 have H : (if 0 ≤ a0 then (if a0 < (l1.length : Int) then (match_greatest_fn1.l0 k a0 l1 l2 l3 l4 (rd_L3 l1 a0) ((rd_L3 l1 a0).length : Int) 0) else (none)) else (none)) = some (r1, r2, r3) := h
 clear h
 by_cases c6 : 0 ≤ a0
 ·
  rw [if_pos c6] at H
  have c6b0 : decide (0 ≤ a0) = true := decide_eq_true c6
  clear c6
  by_cases c7 : a0 < (l1.length : Int)
  ·
   rw [if_pos c7] at H
   have c7b0 : decide (a0 < (l1.length : Int)) = true := decide_eq_true c7
   clear c7
   have H' := Aside0.mk H
   clear H
   have p489 : 0 ≤ (a0 : Int) := of_decide_eq_true (by first | (with_reducible assumption) | assumption)
   have q489 : a0 < (l1.length : Int) := of_decide_eq_true (by first | (with_reducible assumption) | assumption)
   obtain ⟨ad489, A489_0, c489_0, e489, hx489_0, hl489_0, hi489_0⟩ := at_L3 HR1.out a0 p489 q489
   replace hx489_0 := (HB.out.cell (World.block_lt_of_cell? w0 _ hx489_0)).trans hx489_0
   cases e489
   have HR489_0 := Aside0.mk hi489_0
   have HC489_0 := Aside0.mk hl489_0
   clear hi489_0 hl489_0
   replace p489 := eq_true p489
   replace q489 := eq_true q489
   go_enter Try.func33, Try.ntmps33
   have hq1_0 := cell_kept HG1_.out HK.out HN1_.out
   have hq1_1 := cell_kept HG2_.out HK.out HN2_.out
   have hq1_2 := cell_kept HG3_.out HK.out HN3_.out
   have hq1_3 := cell_kept HG4_.out HK.out HN4_.out
   have hq1_4 := cell_kept HG5_.out HK.out HN5_.out
   go_wp2
   go_loopg [15] k (fun kq v15 w' => ∃ (x3_1 : List Bool) (x4_1 : List Int) (x15_1 : Int), v15 = .int .i64 x15_1 ∧ Aside0 (match_greatest_fn1.l0 kq a0 l1 l2 x3_1 x4_1 (rd_L3 l1 a0) ((rd_L3 l1 a0).length : Int) x15_1 = some (r1, r2, r3)) ∧ Aside0 (kq ≤ k) ∧ Aside0 (Kd.R Kd.bool 4 w' w0.heap.size (fun k_ => ((P3_ k_ ∨ P4_ k_) ∨ w.heap.size ≤ k_)) u9000_ x3_1) ∧ Aside0 (Kd.R (Kd.int .i64) 3 w' w0.heap.size (fun k_ => ((P3_ k_ ∨ P4_ k_) ∨ w.heap.size ≤ k_)) u9001_ x4_1) ∧ Aside0 (Kept w w' (fun k_ => P3_ k_ ∨ P4_ k_)) ∧ Aside0 (Below w0.heap.size w0 w'))
   case atStart => exact ⟨(l3), (l4), (0), (by first | rfl | (simp; done) | (simp [*]; done)), H', ⟨Nat.le_refl _⟩, ⟨by (with_reducible repeat (first | apply Kd.R_alloc | apply Kd.R_drewN | apply Kd.R_drew)); exact HO3.out⟩, ⟨by (with_reducible repeat (first | apply Kd.R_alloc | apply Kd.R_drewN | apply Kd.R_drew)); exact HO4.out⟩, ⟨by repeat (first | (with_reducible first | exact HK.out | apply Kept.alloc | apply Kept.drewN | apply Kept.drew) | exact HK.out)⟩, ⟨by repeat (first | (with_reducible first | exact HB.out | apply below_alloc | apply pw_below_drewN | apply below_drew1) | exact HB.out)⟩⟩
   case round =>
    clear H'
    try clear c1
    try clear c2
    try clear p2
    try clear c3
    try clear c4
    try clear p4
    try clear q4
    try clear hx4
    try clear c6
    try clear c6b0
    try clear c7
    try clear c7b0
    try clear hx489_0
    try clear p489
    try clear q489
    obtain ⟨x3_1, x4_1, x15_1, rfl, HA, HK1, HO_3, HO_4, HK, HB⟩ := hrel
    cases gk with
    | zero => exact absurd HA.out (by simp [match_greatest_fn1.l0])
    | succ k1 =>
     have H := HA.out
     clear HA
     simp only [match_greatest_fn1.l0] at H
     by_cases c8 : x15_1 < ((rd_L3 l1 a0).length : Int)
     ·
      rw [if_pos c8] at H
      have c8b0 : decide (x15_1 < ((rd_L3 l1 a0).length : Int)) = true := decide_eq_true c8
      clear c8
      by_cases c9 : 0 ≤ x15_1
      ·
       rw [if_pos c9] at H
       have c9b0 : decide (0 ≤ x15_1) = true := decide_eq_true c9
       clear c9
       by_cases c10 : x15_1 < ((rd_L3 l1 a0).length : Int)
       ·
        rw [if_pos c10] at H
        have c10b0 : decide (x15_1 < ((rd_L3 l1 a0).length : Int)) = true := decide_eq_true c10
        clear c10
        have HC11 := Aside0.mk H
        clear H
        have p490 : 0 ≤ (x15_1 : Int) := of_decide_eq_true (by first | (with_reducible assumption) | assumption)
        have q490 : x15_1 < ((rd_L3 l1 a0).length : Int) := of_decide_eq_true (by first | (with_reducible assumption) | assumption)
        obtain ⟨ad490, e490, hx490_0⟩ := Kd.at_bool HR489_0.out x15_1 p490 q490
        cases e490
        replace hx490_0 := (HB.out.cell (World.block_lt_of_cell? w0 _ hx490_0)).trans hx490_0
        replace p490 := eq_true p490
        replace q490 := eq_true q490
        have hq2_0 := cell_kept HG1_.out HK.out HN1_.out
        have hq2_1 := cell_kept HG2_.out HK.out HN2_.out
        have hq2_2 := cell_kept HG3_.out HK.out HN3_.out
        have hq2_3 := cell_kept HG4_.out HK.out HN4_.out
        have hq2_4 := cell_kept HG5_.out HK.out HN5_.out
        go_upto_region 4 with (fail)
        go_cut [9, 33] (fun v9 v33 wc => ∃ (kq : Nat) (x33_10 : Bool), v33 = .bool x33_10 ∧ Aside0 (match_greatest_fn1.j1 kq a0 l1 l2 x3_1 x4_1 x15_1 (rd_L3 l1 a0) ((rd_L3 l1 a0).length : Int) x15_1 x33_10 = some (r1, r2, r3)) ∧ Aside0 (kq ≤ k1) ∧ Aside0 (Kd.R Kd.bool 4 wc w0.heap.size (fun k_ => ((P3_ k_ ∨ P4_ k_) ∨ w.heap.size ≤ k_)) u9000_ x3_1) ∧ Aside0 (Kd.R (Kd.int .i64) 3 wc w0.heap.size (fun k_ => ((P3_ k_ ∨ P4_ k_) ∨ w.heap.size ≤ k_)) u9001_ x4_1) ∧ Aside0 (Kept w wc (fun k_ => P3_ k_ ∨ P4_ k_)) ∧ Aside0 (Below w0.heap.size w0 wc))
        case first =>
         have H := HC11.out
         clear HC11
         obtain ⟨bq12, hbq12⟩ : ∃ b_ : Bool, b_ = (rdOf false (rd_L3 l1 a0) x15_1) := ⟨_, rfl⟩
         replace H : (if bq12 = true then (if x15_1 < (l2.length : Int) then (if rdOf false l2 x15_1 = true then (match_greatest_fn1.j1 k1 a0 l1 l2 x3_1 x4_1 x15_1 (rd_L3 l1 a0) ((rd_L3 l1 a0).length : Int) x15_1 true) else (if x15_1 < (x3_1.length : Int) then (match_greatest_fn1.j1 k1 a0 l1 l2 x3_1 x4_1 x15_1 (rd_L3 l1 a0) ((rd_L3 l1 a0).length : Int) x15_1 (rdOf false x3_1 x15_1)) else (none))) else (none)) else (match_greatest_fn1.j1 k1 a0 l1 l2 x3_1 x4_1 x15_1 (rd_L3 l1 a0) ((rd_L3 l1 a0).length : Int) x15_1 true)) = some (r1, r2, r3) := by rw [← hbq12] at H; exact H
         have Nbq12 := Aside0.mk hbq12
         clear hbq12
         (try rw [← Nbq12.out])
         by_cases c13 : bq12 = true
         ·
          subst c13
          have H1 : (if x15_1 < (l2.length : Int) then (if rdOf false l2 x15_1 = true then (match_greatest_fn1.j1 k1 a0 l1 l2 x3_1 x4_1 x15_1 (rd_L3 l1 a0) ((rd_L3 l1 a0).length : Int) x15_1 true) else (if x15_1 < (x3_1.length : Int) then (match_greatest_fn1.j1 k1 a0 l1 l2 x3_1 x4_1 x15_1 (rd_L3 l1 a0) ((rd_L3 l1 a0).length : Int) x15_1 (rdOf false x3_1 x15_1)) else (none))) else (none)) = some (r1, r2, r3) := by rw [if_pos rfl] at H; exact H
          clear H
          have H := H1
          clear H1
          by_cases c14 : x15_1 < (l2.length : Int)
          ·
           rw [if_pos c14] at H
           have c14b0 : decide (x15_1 < (l2.length : Int)) = true := decide_eq_true c14
           clear c14
           obtain ⟨bq15, hbq15⟩ : ∃ b_ : Bool, b_ = (rdOf false l2 x15_1) := ⟨_, rfl⟩
           replace H : (if bq15 = true then (match_greatest_fn1.j1 k1 a0 l1 l2 x3_1 x4_1 x15_1 (rd_L3 l1 a0) ((rd_L3 l1 a0).length : Int) x15_1 true) else (if x15_1 < (x3_1.length : Int) then (match_greatest_fn1.j1 k1 a0 l1 l2 x3_1 x4_1 x15_1 (rd_L3 l1 a0) ((rd_L3 l1 a0).length : Int) x15_1 (rdOf false x3_1 x15_1)) else (none))) = some (r1, r2, r3) := by rw [← hbq15] at H; exact H
           have Nbq15 := Aside0.mk hbq15
           clear hbq15
           by_cases c16 : bq15 = true
           ·
            subst c16
            have H1 : (match_greatest_fn1.j1 k1 a0 l1 l2 x3_1 x4_1 x15_1 (rd_L3 l1 a0) ((rd_L3 l1 a0).length : Int) x15_1 true) = some (r1, r2, r3) := by rw [if_pos rfl] at H; exact H
            clear H
            have H := H1
            clear H1
            have H' := Aside0.mk H
            clear H
            have p491 : 0 ≤ (x15_1 : Int) := of_decide_eq_true (by first | (with_reducible assumption) | assumption)
            have q491 : x15_1 < (l2.length : Int) := of_decide_eq_true (by first | (with_reducible assumption) | assumption)
            obtain ⟨ad491, e491, hx491_0⟩ := Kd.at_bool (Kd.C_below HR2.out HB.out) x15_1 p491 q491
            (try rw [← Nbq12.out] at hx491_0)
            (try rw [← Nbq15.out] at hx491_0)
            cases e491
            replace p491 := eq_true p491
            replace q491 := eq_true q491
            have hq3_0 := cell_kept HG1_.out HK.out HN1_.out
            have hq3_1 := cell_kept HG2_.out HK.out HN2_.out
            have hq3_2 := cell_kept HG3_.out HK.out HN3_.out
            have hq3_3 := cell_kept HG4_.out HK.out HN4_.out
            have hq3_4 := cell_kept HG5_.out HK.out HN5_.out
            go_wp2
            go_meet
            case rel => exact ⟨_, (true), (by first | rfl | (simp; done) | (simp [*]; done)), H', ⟨by have := HK1.out; first | omega | exact Nat.le_refl _⟩, ⟨by (with_reducible repeat (first | apply Kd.R_alloc | apply Kd.R_drewN | apply Kd.R_drew)); exact HO_3.out⟩, ⟨by (with_reducible repeat (first | apply Kd.R_alloc | apply Kd.R_drewN | apply Kd.R_drew)); exact HO_4.out⟩, ⟨by repeat (first | (with_reducible first | exact HK.out | apply Kept.alloc | apply Kept.drewN | apply Kept.drew) | exact HK.out)⟩, ⟨by repeat (first | (with_reducible first | exact HB.out | apply below_alloc | apply pw_below_drewN | apply below_drew1) | exact HB.out)⟩⟩
           ·
            replace c16 := Bool.eq_false_iff.mpr c16
            subst c16
            have H1 : (if x15_1 < (x3_1.length : Int) then (match_greatest_fn1.j1 k1 a0 l1 l2 x3_1 x4_1 x15_1 (rd_L3 l1 a0) ((rd_L3 l1 a0).length : Int) x15_1 (rdOf false x3_1 x15_1)) else (none)) = some (r1, r2, r3) := by rw [if_neg (show ¬ (false = true) by decide)] at H; exact H
            clear H
            have H := H1
            clear H1
            by_cases c17 : x15_1 < (x3_1.length : Int)
            ·
             rw [if_pos c17] at H
             have c17b0 : decide (x15_1 < (x3_1.length : Int)) = true := decide_eq_true c17
             clear c17
             have H' := Aside0.mk H
             clear H
             have p491 : 0 ≤ (x15_1 : Int) := of_decide_eq_true (by first | (with_reducible assumption) | assumption)
             have q491 : x15_1 < (l2.length : Int) := of_decide_eq_true (by first | (with_reducible assumption) | assumption)
             obtain ⟨ad491, e491, hx491_0⟩ := Kd.at_bool (Kd.C_below HR2.out HB.out) x15_1 p491 q491
             (try rw [← Nbq12.out] at hx491_0)
             (try rw [← Nbq15.out] at hx491_0)
             cases e491
             replace p491 := eq_true p491
             replace q491 := eq_true q491
             obtain ⟨Ao18, co18, eo18⟩ := Kd.R_slice HO_3.out
             subst eo18
             have p492 : 0 ≤ (x15_1 : Int) := of_decide_eq_true (by first | (with_reducible assumption) | assumption)
             have q492 : x15_1 < (x3_1.length : Int) := of_decide_eq_true (by first | (with_reducible assumption) | assumption)
             obtain ⟨ad492, e492, hx492_0⟩ := Kd.at_bool (Kd.R_reads' HO_3.out).2.2 x15_1 p492 q492
             (try rw [← Nbq12.out] at hx492_0)
             (try rw [← Nbq15.out] at hx492_0)
             cases e492
             replace p492 := eq_true p492
             replace q492 := eq_true q492
             have hq4_0 := cell_kept HG1_.out HK.out HN1_.out
             have hq4_1 := cell_kept HG2_.out HK.out HN2_.out
             have hq4_2 := cell_kept HG3_.out HK.out HN3_.out
             have hq4_3 := cell_kept HG4_.out HK.out HN4_.out
             have hq4_4 := cell_kept HG5_.out HK.out HN5_.out
             go_wp2
             go_meet
             case rel => exact ⟨_, (rdOf false x3_1 x15_1), (by first | rfl | (simp; done) | (simp [*]; done)), H', ⟨by have := HK1.out; first | omega | exact Nat.le_refl _⟩, ⟨by (with_reducible repeat (first | apply Kd.R_alloc | apply Kd.R_drewN | apply Kd.R_drew)); exact HO_3.out⟩, ⟨by (with_reducible repeat (first | apply Kd.R_alloc | apply Kd.R_drewN | apply Kd.R_drew)); exact HO_4.out⟩, ⟨by repeat (first | (with_reducible first | exact HK.out | apply Kept.alloc | apply Kept.drewN | apply Kept.drew) | exact HK.out)⟩, ⟨by repeat (first | (with_reducible first | exact HB.out | apply below_alloc | apply pw_below_drewN | apply below_drew1) | exact HB.out)⟩⟩
            ·
             rw [if_neg c17] at H
             exact absurd H (by simp)
          ·
           rw [if_neg c14] at H
           exact absurd H (by simp)
         ·
          replace c13 := Bool.eq_false_iff.mpr c13
          subst c13
          have H1 : (match_greatest_fn1.j1 k1 a0 l1 l2 x3_1 x4_1 x15_1 (rd_L3 l1 a0) ((rd_L3 l1 a0).length : Int) x15_1 true) = some (r1, r2, r3) := by rw [if_neg (show ¬ (false = true) by decide)] at H; exact H
          clear H
          have H := H1
          clear H1
          have H' := Aside0.mk H
          clear H
          have hq5_0 := cell_kept HG1_.out HK.out HN1_.out
          have hq5_1 := cell_kept HG2_.out HK.out HN2_.out
          have hq5_2 := cell_kept HG3_.out HK.out HN3_.out
          have hq5_3 := cell_kept HG4_.out HK.out HN4_.out
          have hq5_4 := cell_kept HG5_.out HK.out HN5_.out
          go_wp2
          go_meet
          case rel => exact ⟨_, (true), (by first | rfl | (simp; done) | (simp [*]; done)), H', ⟨by have := HK1.out; first | omega | exact Nat.le_refl _⟩, ⟨by (with_reducible repeat (first | apply Kd.R_alloc | apply Kd.R_drewN | apply Kd.R_drew)); exact HO_3.out⟩, ⟨by (with_reducible repeat (first | apply Kd.R_alloc | apply Kd.R_drewN | apply Kd.R_drew)); exact HO_4.out⟩, ⟨by repeat (first | (with_reducible first | exact HK.out | apply Kept.alloc | apply Kept.drewN | apply Kept.drew) | exact HK.out)⟩, ⟨by repeat (first | (with_reducible first | exact HB.out | apply below_alloc | apply pw_below_drewN | apply below_drew1) | exact HB.out)⟩⟩
        case rest =>
         clear HC11
         try clear c1
         try clear q1
         try clear c2
         try clear p2
         try clear c3
         try clear c4
         try clear p4
         try clear q4
         try clear hx4
         try clear c6
         try clear c6b0
         try clear c7
         try clear c7b0
         try clear c8
         try clear c8b0
         try clear c9
         try clear c9b0
         try clear c10
         try clear c10b0
         try clear q12
         try clear c13
         try clear c14
         try clear c14b0
         try clear q15
         try clear c16
         try clear c17
         try clear c17b0
         try clear hx489_0
         try clear hx490_0
         try clear hx491_0
         try clear hx492_0
         try clear p2
         try clear p4
         try clear p489
         try clear p490
         try clear p491
         try clear p492
         try clear q4
         try clear q489
         try clear q490
         try clear q491
         try clear q492
         obtain ⟨kq, x33_10, rfl, HA, HJ10, HO_3, HO_4, HK, HB⟩ := hcut
         cases kq with
         | zero => exact absurd HA.out (by simp [match_greatest_fn1.j1])
         | succ kj10 =>
          have H := HA.out
          clear HA
          simp only [match_greatest_fn1.j1] at H
          by_cases c19 : x33_10 = true
          ·
           subst c19
           have H1 : (match_greatest_fn1.l0 kj10 a0 l1 l2 x3_1 x4_1 (rd_L3 l1 a0) ((rd_L3 l1 a0).length : Int) (wrap64 (x15_1 + 1))) = some (r1, r2, r3) := by rw [if_pos rfl] at H; exact H
           clear H
           have H := H1
           clear H1
           have H' := Aside0.mk H
           clear H
           have hq6_0 := cell_kept HG1_.out HK.out HN1_.out
           have hq6_1 := cell_kept HG2_.out HK.out HN2_.out
           have hq6_2 := cell_kept HG3_.out HK.out HN3_.out
           have hq6_3 := cell_kept HG4_.out HK.out HN4_.out
           have hq6_4 := cell_kept HG5_.out HK.out HN5_.out
           go_wp2
           go_roundg kj10
           case measure => have := HK1.out; have := HJ10.out; omega
           case rel => exact ⟨(x3_1), (x4_1), (wrap64 (x15_1 + 1)), (by first | rfl | (simp; done) | (simp [*]; done)), H', ⟨by have := HK1.out; have := HJ10.out; omega⟩, ⟨by (with_reducible repeat (first | apply Kd.R_alloc | apply Kd.R_drewN | apply Kd.R_drew)); exact HO_3.out⟩, ⟨by (with_reducible repeat (first | apply Kd.R_alloc | apply Kd.R_drewN | apply Kd.R_drew)); exact HO_4.out⟩, ⟨by repeat (first | (with_reducible first | exact HK.out | apply Kept.alloc | apply Kept.drewN | apply Kept.drew) | exact HK.out)⟩, ⟨by repeat (first | (with_reducible first | exact HB.out | apply below_alloc | apply pw_below_drewN | apply below_drew1) | exact HB.out)⟩⟩
          ·
           replace c19 := Bool.eq_false_iff.mpr c19
           subst c19
           have H1 : (if 0 ≤ x15_1 then (if x15_1 < (x3_1.length : Int) then ((some (x3_1.set (x15_1 : Int).toNat true : List Bool)).bind fun y493 => (if x15_1 < (x4_1.length : Int) then (if (rd x4_1 x15_1) < 0 then (some (true, y493, (x4_1.set (x15_1 : Int).toNat a0))) else ((match_greatest_fn1.f kj10 (rd x4_1 x15_1) l1 l2 y493 x4_1).bind fun bt497 => (if bt497.1 = true then (some (true, bt497.2.1, (bt497.2.2.set (x15_1 : Int).toNat a0))) else (match_greatest_fn1.l0 kj10 a0 l1 l2 bt497.2.1 bt497.2.2 (rd_L3 l1 a0) ((rd_L3 l1 a0).length : Int) (wrap64 (x15_1 + 1)))))) else (none))) else (none)) else (none)) = some (r1, r2, r3) := by rw [if_neg (show ¬ (false = true) by decide)] at H; exact H
           clear H
           have H := H1
           clear H1
           by_cases c20 : 0 ≤ x15_1
           ·
            rw [if_pos c20] at H
            have c20b0 : decide (0 ≤ x15_1) = true := decide_eq_true c20
            clear c20
            by_cases c21 : x15_1 < (x3_1.length : Int)
            ·
             rw [if_pos c21] at H
             have c21b0 : decide (x15_1 < (x3_1.length : Int)) = true := decide_eq_true c21
             clear c21
             obtain ⟨y493, hy493⟩ : ∃ y_ : List Bool, y_ = (x3_1.set (x15_1 : Int).toNat true) := ⟨_, rfl⟩
             replace H : (if x15_1 < (x4_1.length : Int) then (if (rd x4_1 x15_1) < 0 then (some (true, y493, (x4_1.set (x15_1 : Int).toNat a0))) else ((match_greatest_fn1.f kj10 (rd x4_1 x15_1) l1 l2 y493 x4_1).bind fun bt497 => (if bt497.1 = true then (some (true, bt497.2.1, (bt497.2.2.set (x15_1 : Int).toNat a0))) else (match_greatest_fn1.l0 kj10 a0 l1 l2 bt497.2.1 bt497.2.2 (rd_L3 l1 a0) ((rd_L3 l1 a0).length : Int) (wrap64 (x15_1 + 1)))))) else (none)) = some (r1, r2, r3) := by first | (rw [hy493]; with_reducible exact H) | (have H2_ := (Option.bind_some _ _).symm.trans H; rw [hy493]; with_reducible exact H2_) | (have H2_ := (Option.bind_some _ _).symm.trans H; with_reducible exact H2_) | with_reducible exact H | (rw [hy493]; exact H) | exact H
             have Ny493 := Aside0.mk hy493
             clear hy493
             by_cases c23 : x15_1 < (x4_1.length : Int)
             ·
              rw [if_pos c23] at H
              have c23b0 : decide (x15_1 < (x4_1.length : Int)) = true := decide_eq_true c23
              clear c23
              by_cases c24 : (rd x4_1 x15_1) < 0
              ·
               rw [if_pos c24] at H
               have c24b0 : decide ((rd x4_1 x15_1) < 0) = true := decide_eq_true c24
               clear c24
               obtain ⟨y495, hy495⟩ : ∃ y_ : List Int, y_ = (x4_1.set (x15_1 : Int).toNat a0) := ⟨_, rfl⟩
               replace H : (some (true, y493, y495)) = some (r1, r2, r3) := by first | (rw [hy495]; with_reducible exact H) | (have H2_ := (Option.bind_some _ _).symm.trans H; rw [hy495]; with_reducible exact H2_) | (have H2_ := (Option.bind_some _ _).symm.trans H; with_reducible exact H2_) | with_reducible exact H | (rw [hy495]; exact H) | exact H
               have Ny495 := Aside0.mk hy495
               clear hy495
               simp only [Option.some.injEq, Prod.mk.injEq] at H
               obtain ⟨rfl, rfl, rfl⟩ := H
               have p22 : 0 ≤ (x15_1 : Int) := of_decide_eq_true (by first | (with_reducible assumption) | assumption)
               have q22 : (x15_1 : Int) < ((x3_1.length : Int) : Int) := of_decide_eq_true (by first | (with_reducible assumption) | assumption)
               obtain ⟨go22, co22, eo22, gb22, gl22, cl22, HG22⟩ := Kd.R_form HO_3.out (by first | omega | (have := hl_HO_3.out; omega))
               (first | cases eo22 | (injection eo22 with ea_ en_ ec_; (first | subst ea_ | (injection ea_ with ea_; subst ea_)); subst ec_; clear en_))
               have GB22 := Aside0.mk gb22
               have GG22 := Aside0.mk HG22
               clear gb22 gl22 HG22
               have HMgo22 := Aside0.mk (show ((P3_ go22 ∨ P4_ go22) ∨ w.heap.size ≤ go22) from (HO_3.out.1 _ rfl))
               obtain ⟨hx22_0, hf22_0⟩ := Kd.R_celln false HO_3.out (x15_1 : Int) p22 q22
               replace p22 := eq_true p22
               replace q22 := eq_true q22
               have HP26 := Kd.R_putg HO_3.out (x15_1 : Int) true
               have hq8_0 := cell_kept HG1_.out HK.out HN1_.out
               have hq8_1 := cell_kept HG2_.out HK.out HN2_.out
               have hq8_2 := cell_kept HG3_.out HK.out HN3_.out
               have hq8_3 := cell_kept HG4_.out HK.out HN4_.out
               have hq8_4 := cell_kept HG5_.out HK.out HN5_.out
               try go_wp2_with (first | ((with_reducible refine gate_store (t := 4) (p := 36) rfl ?_); refine store_event (t := 4) (p := 36) (v := ?vo_w27) (w1 := (wc.setCell ⟨go22, (x15_1 : Int).toNat, none⟩ (.bool true))) ?hg ?ho ?hn ?hr ?_; (case ho => rfl); (case hg => rfl); (case hn => rfl); (case hr => first | (go_simp; done) | (go_simp; rfl)); intro w27 hw; have hg : wc.grownBy w27 (some go22) := (by rw [hw]; exact HP26.2); have hp_ : Kd.R Kd.bool 4 w27 w0.heap.size (fun k_ => ((P3_ k_ ∨ P4_ k_) ∨ w.heap.size ≤ k_)) (.slice (some ⟨go22, 0, none⟩) x3_1.length co22) y493 := (by rw [hw, Ny493.out]; exact HP26.1); clear HP26; have n0_ := Aside0.mk (hp_); have n1_ := Aside0.mk (Kd.R_over' (v := (.slice (some ⟨go22, 0, none⟩) x3_1.length co22)) (by (with_reducible repeat (first | apply Kd.R_alloc | apply Kd.R_drewN | apply Kd.R_drew)); exact HO_4.out) (Kd.R_typed HO_3.out) (by decide) hg); have n2_ := Aside0.mk ((by rw [hw]; exact below_set (HB.out) GB22.out : Below w0.heap.size w0 w27)); have n3_ := Aside0.mk (Kept.of_grown (S := (fun k_ => P3_ k_ ∨ P4_ k_)) hg (by repeat (first | (with_reducible first | exact HK.out | apply Kept.alloc | apply Kept.drewN | apply Kept.drew) | exact HK.out)) (fun k_ e_ => (HO_3.out.1 k_ e_))); clear HO_3; clear HO_4; clear HB; clear HK; have HO_3 := n0_; have HO_4 := n1_; have HB := n2_; have HK := n3_; have hq7_0 := cell_kept HG1_.out HK.out HN1_.out; have hq7_1 := cell_kept HG2_.out HK.out HN2_.out; have hq7_2 := cell_kept HG3_.out HK.out HN3_.out; have hq7_3 := cell_kept HG4_.out HK.out HN4_.out; have hq7_4 := cell_kept HG5_.out HK.out HN5_.out; clear n0_ n1_ n2_ n3_; clear hg hw hp_))
               have n0_ := Aside0.mk (Kd.R_drew HO_3.out)
               have n1_ := Aside0.mk (Kd.R_drew HO_4.out)
               have n2_ := Aside0.mk (Kept.drew HK.out)
               have n3_ := Aside0.mk (below_drew1 HB.out)
               clear HO_3
               clear HO_4
               clear HK
               clear HB
               have HO_3 := n0_
               have HO_4 := n1_
               have HK := n2_
               have hq9_0 := cell_kept HG1_.out HK.out HN1_.out
               have hq9_1 := cell_kept HG2_.out HK.out HN2_.out
               have hq9_2 := cell_kept HG3_.out HK.out HN3_.out
               have hq9_3 := cell_kept HG4_.out HK.out HN4_.out
               have hq9_4 := cell_kept HG5_.out HK.out HN5_.out
               have HB := n3_
               clear n0_ n1_ n2_ n3_
               obtain ⟨Ao29, co29, eo29⟩ := Kd.R_slice HO_4.out
               (first | subst eo29 | (injection eo29 with f1_ f2_ f3_; have f4_ := f1_.symm; have f5_ := f3_.symm; clear f1_ f2_ f3_; subst f4_; subst f5_))
               have p494 : 0 ≤ (x15_1 : Int) := of_decide_eq_true (by first | (with_reducible assumption) | assumption)
               have q494 : x15_1 < (x4_1.length : Int) := of_decide_eq_true (by first | (with_reducible assumption) | assumption)
               obtain ⟨ad494, e494, hx494_0⟩ := Kd.at_int (Kd.R_reads' HO_4.out).2.2 x15_1 p494 q494
               cases e494
               replace p494 := eq_true p494
               replace q494 := eq_true q494
               have hq10_0 := cell_kept HG1_.out HK.out HN1_.out
               have hq10_1 := cell_kept HG2_.out HK.out HN2_.out
               have hq10_2 := cell_kept HG3_.out HK.out HN3_.out
               have hq10_3 := cell_kept HG4_.out HK.out HN4_.out
               have hq10_4 := cell_kept HG5_.out HK.out HN5_.out
               refine start_ (n := 13) (S := fun w' => w'.cell? (ad494.add (x15_1).toNat) = some (.int .i64 (rd x4_1 x15_1)) ∧ w'.cell? ⟨g1_, 0, none⟩ = _ ∧ w'.cell? ⟨g2_, 0, none⟩ = _ ∧ w'.cell? ⟨g3_, 0, none⟩ = _ ∧ w'.cell? ⟨g4_, 0, none⟩ = _ ∧ w'.cell? ⟨g5_, 0, none⟩ = _) (ds := []) #[false, false, false, false, false, false, false, false, false, false, false, false, false] (by kernel_rfl) rfl rfl ⟨(hx494_0), hq10_0, hq10_1, hq10_2, hq10_3, hq10_4⟩ (fun hHeld => ?_); refine with_tabW match_greatest_fn1.tab6 match_greatest_fn1.bits6 (fun HT_ HW_ => ?_)
               generalize w27.drew = w28 at HO_3 HO_4 HK HB hx494_0 hHeld hq10_0 hq10_1 hq10_2 hq10_3 hq10_4 ⊢
               refine take_ (i := 0) (N := some 37) (v := ?_) (a' := ?_) #[true, false, false, false, false, false, false, false, false, false, false, false, false] rfl rfl (take_ofW HT_.out HW_.out (by kernel_rfl)) (fun _ _ _ h => h) (Or.inl ⟨by rfl, ?_⟩) hHeld ?_ ?_
               rotate_left
               ·
                rintro w' ⟨s0, sq0, sq1, sq2, sq3, sq4⟩
                go_simp
                with_reducible rfl
               rotate_left
               ·
                simp only [Act.put, List.setIfInBounds_toArray, List.set_cons_zero, List.set_cons_succ, i64_w, i32_w]
                rfl
               refine pure_ (i := 1) (N := some 38) (v := ?_) (a' := ?_) #[true, true, false, false, false, false, false, false, false, false, false, false, false] rfl rfl (any_of HT_.out (by kernel_rfl)) (fun _ _ _ h => h) (Or.inl ⟨by rfl, ?_⟩) ?_ ?_
               rotate_left
               ·
                intro w'
                go_simp
                with_reducible rfl
               rotate_left
               ·
                simp only [Act.put, List.setIfInBounds_toArray, List.set_cons_zero, List.set_cons_succ, i64_w, i32_w]
                rfl
               refine pure_ (i := 2) (N := some 39) (v := ?_) (a' := ?_) #[true, true, true, false, false, false, false, false, false, false, false, false, false] rfl rfl (any_of HT_.out (by kernel_rfl)) (fun _ _ _ h => h) (Or.inl ⟨by rfl, ?_⟩) ?_ ?_
               rotate_left
               ·
                intro w'
                go_simp
                with_reducible rfl
               rotate_left
               ·
                simp only [Act.put, List.setIfInBounds_toArray, List.set_cons_zero, List.set_cons_succ, i64_w, i32_w]
                rfl
               refine take_ (i := 3) (N := some 40) (v := ?_) (a' := ?_) #[true, true, true, true, false, false, false, false, false, false, false, false, false] rfl rfl (take_ofW HT_.out HW_.out (by kernel_rfl)) (fun _ _ _ h => h) (Or.inl ⟨by rfl, ?_⟩) hHeld ?_ ?_
               rotate_left
               ·
                intro w' s0
                go_simp
                with_reducible rfl
               rotate_left
               ·
                simp only [Act.put, List.setIfInBounds_toArray, List.set_cons_zero, List.set_cons_succ, i64_w, i32_w]
                rfl
               refine pure_ (i := 4) (N := some 41) (v := ?_) (a' := ?_) #[true, true, true, true, true, false, false, false, false, false, false, false, false] rfl rfl (any_of HT_.out (by kernel_rfl)) (fun _ _ _ h => h) (Or.inl ⟨by rfl, ?_⟩) ?_ ?_
               rotate_left
               ·
                intro w'
                go_simp
                with_reducible rfl
               rotate_left
               ·
                simp only [Act.put, List.setIfInBounds_toArray, List.set_cons_zero, List.set_cons_succ, i64_w, i32_w]
                rfl
               refine pure_ (i := 5) (N := some 42) (v := ?_) (a' := ?_) #[true, true, true, true, true, true, false, false, false, false, false, false, false] rfl rfl (any_of HT_.out (by kernel_rfl)) (fun _ _ _ h => h) (Or.inl ⟨by rfl, ?_⟩) ?_ ?_
               rotate_left
               ·
                intro w'
                go_simp
                with_reducible rfl
               rotate_left
               ·
                simp only [Act.put, List.setIfInBounds_toArray, List.set_cons_zero, List.set_cons_succ, i64_w, i32_w]
                rfl
               refine pure_ (i := 6) (N := some 43) (v := undef) (a' := ?_) #[true, true, true, true, true, true, true, false, false, false, false, false, false] rfl rfl (any_of HT_.out (by kernel_rfl)) (fun _ _ _ h => h) (Or.inr ⟨by rfl, rfl⟩) ?_ ?_
               rotate_left
               ·
                simp only [Act.put, List.setIfInBounds_toArray, List.set_cons_zero, List.set_cons_succ, i64_w, i32_w]
                rfl
               refine pure_ (i := 7) (N := some 44) (v := undef) (a' := ?_) #[true, true, true, true, true, true, true, true, false, false, false, false, false] rfl rfl (any_of HT_.out (by kernel_rfl)) (fun _ _ _ h => h) (Or.inr ⟨by rfl, rfl⟩) ?_ ?_
               rotate_left
               ·
                simp only [Act.put, List.setIfInBounds_toArray, List.set_cons_zero, List.set_cons_succ, i64_w, i32_w]
                rfl
               refine pure_ (i := 8) (N := some 45) (v := undef) (a' := ?_) #[true, true, true, true, true, true, true, true, true, false, false, false, false] rfl rfl (any_of HT_.out (by kernel_rfl)) (fun _ _ _ h => h) (Or.inr ⟨by rfl, rfl⟩) ?_ ?_
               rotate_left
               ·
                simp only [Act.put, List.setIfInBounds_toArray, List.set_cons_zero, List.set_cons_succ, i64_w, i32_w]
                rfl
               refine pure_ (i := 9) (N := some 46) (v := undef) (a' := ?_) #[true, true, true, true, true, true, true, true, true, true, false, false, false] rfl rfl (any_of HT_.out (by kernel_rfl)) (fun _ _ _ h => h) (Or.inr ⟨by rfl, rfl⟩) ?_ ?_
               rotate_left
               ·
                simp only [Act.put, List.setIfInBounds_toArray, List.set_cons_zero, List.set_cons_succ, i64_w, i32_w]
                rfl
               refine pure_ (i := 10) (N := some 47) (v := undef) (a' := ?_) #[true, true, true, true, true, true, true, true, true, true, true, false, false] rfl rfl (any_of HT_.out (by kernel_rfl)) (fun _ _ _ h => h) (Or.inr ⟨by rfl, rfl⟩) ?_ ?_
               rotate_left
               ·
                simp only [Act.put, List.setIfInBounds_toArray, List.set_cons_zero, List.set_cons_succ, i64_w, i32_w]
                rfl
               refine pure_ (i := 11) (N := some 48) (v := undef) (a' := ?_) #[true, true, true, true, true, true, true, true, true, true, true, true, false] rfl rfl (any_of HT_.out (by kernel_rfl)) (fun _ _ _ h => h) (Or.inr ⟨by rfl, rfl⟩) ?_ ?_
               rotate_left
               ·
                simp only [Act.put, List.setIfInBounds_toArray, List.set_cons_zero, List.set_cons_succ, i64_w, i32_w]
                rfl
               refine pure_ (i := 12) (N := some 49) (v := ?_) (a' := ?_) #[true, true, true, true, true, true, true, true, true, true, true, true, true] rfl rfl (any_of HT_.out (by kernel_rfl)) (fun _ _ _ h => h) (Or.inl ⟨by rfl, ?_⟩) ?_ ?_
               rotate_left
               ·
                intro w'
                go_simp
                with_reducible rfl
               rotate_left
               ·
                simp only [Act.put, List.setIfInBounds_toArray, List.set_cons_zero, List.set_cons_succ, i64_w, i32_w]
                rfl
               refine done_ (done_of HT_.out (by kernel_rfl)) ?_
               have p25 : 0 ≤ (x15_1 : Int) := of_decide_eq_true (by first | (with_reducible assumption) | assumption)
               have q25 : (x15_1 : Int) < ((x4_1.length : Int) : Int) := of_decide_eq_true (by first | (with_reducible assumption) | assumption)
               obtain ⟨go25, co25, eo25, gb25, gl25, cl25, HG25⟩ := Kd.R_form HO_4.out (by first | omega | (have := hl_HO_4.out; omega))
               (first | cases eo25 | (injection eo25 with ea_ en_ ec_; (first | subst ea_ | (injection ea_ with ea_; subst ea_)); subst ec_; clear en_))
               have GB25 := Aside0.mk gb25
               have GG25 := Aside0.mk HG25
               clear gb25 gl25 HG25
               have HMgo25 := Aside0.mk (show ((P3_ go25 ∨ P4_ go25) ∨ w.heap.size ≤ go25) from (HO_4.out.1 _ rfl))
               (first | simp only [add_plain] at hx494_0 | skip)
               obtain ⟨hx25_0, hf25_0⟩ := Kd.R_celln 0 HO_4.out (x15_1 : Int) p25 q25
               replace p25 := eq_true p25
               replace q25 := eq_true q25
               obtain ⟨hy30_, hz30_⟩ := Kd.R_celln 0 HO_4.out (x15_1 : Int) (of_decide_eq_true (by first | (with_reducible assumption) | assumption)) (of_decide_eq_true (by first | (with_reducible assumption) | assumption))
               have HP30 := Kd.R_putg HO_4.out (x15_1 : Int) a0
               have hq12_0 := cell_kept HG1_.out HK.out HN1_.out
               have hq12_1 := cell_kept HG2_.out HK.out HN2_.out
               have hq12_2 := cell_kept HG3_.out HK.out HN3_.out
               have hq12_3 := cell_kept HG4_.out HK.out HN4_.out
               have hq12_4 := cell_kept HG5_.out HK.out HN5_.out
               try go_wp2_with (first | ((with_reducible refine gate_store (t := 3) (p := 53) rfl ?_); refine store_event (t := 3) (p := 53) (v := ?vo_w31) (w1 := (w28.setCell ⟨go25, (x15_1 : Int).toNat, none⟩ (.int .i64 a0))) ?hg ?ho ?hn ?hr ?_; (case ho => rfl); (case hg => rfl); (case hn => rfl); (case hr => first | (go_simp; done) | (go_simp; rfl)); intro w31 hw; have hg : w28.grownBy w31 (some go25) := (by rw [hw]; exact HP30.2); have hp_ : Kd.R (Kd.int .i64) 3 w31 w0.heap.size (fun k_ => ((P3_ k_ ∨ P4_ k_) ∨ w.heap.size ≤ k_)) (.slice (some ⟨go25, 0, none⟩) x4_1.length co29) y495 := (by rw [hw, Ny495.out]; exact HP30.1); clear HP30; have n0_ := Aside0.mk (Kd.R_over' (v := (.slice (some ⟨go25, 0, none⟩) x4_1.length co29)) (by (with_reducible repeat (first | apply Kd.R_alloc | apply Kd.R_drewN | apply Kd.R_drew)); exact HO_3.out) (Kd.R_typed HO_4.out) (by decide) hg); have n1_ := Aside0.mk (hp_); have n2_ := Aside0.mk ((by rw [hw]; exact below_set (HB.out) GB25.out : Below w0.heap.size w0 w31)); have n3_ := Aside0.mk (Kept.of_grown (S := (fun k_ => P3_ k_ ∨ P4_ k_)) hg (by repeat (first | (with_reducible first | exact HK.out | apply Kept.alloc | apply Kept.drewN | apply Kept.drew) | exact HK.out)) (fun k_ e_ => (HO_4.out.1 k_ e_))); clear HO_3; clear HO_4; clear HB; clear HK; have HO_3 := n0_; have HO_4 := n1_; have HB := n2_; have HK := n3_; have hq11_0 := cell_kept HG1_.out HK.out HN1_.out; have hq11_1 := cell_kept HG2_.out HK.out HN2_.out; have hq11_2 := cell_kept HG3_.out HK.out HN3_.out; have hq11_3 := cell_kept HG4_.out HK.out HN4_.out; have hq11_4 := cell_kept HG5_.out HK.out HN5_.out; clear n0_ n1_ n2_ n3_; clear hg hw hp_))
               go_ret
               exact ⟨by first | rfl | (simp [errW_none, errW_some] <;> rfl) | (simp [*, errW_none, errW_some] <;> rfl), by (with_reducible repeat (first | apply Kd.R_alloc | apply Kd.R_drewN | apply Kd.R_drew)); exact HO_3.out, by (with_reducible repeat (first | apply Kd.R_alloc | apply Kd.R_drewN | apply Kd.R_drew)); exact HO_4.out, by repeat (first | (with_reducible first | exact HB.out | apply below_alloc | apply pw_below_drewN | apply below_drew1) | exact HB.out), by repeat (first | (with_reducible first | exact HK.out | apply Kept.alloc | apply Kept.drewN | apply Kept.drew) | exact HK.out)⟩
              ·
               rw [if_neg c24] at H
               have c24b0 : decide ((rd x4_1 x15_1) < 0) = false := decide_eq_false c24
               clear c24
               replace H := Option.bind_eq_some_iff.mp H
               obtain ⟨⟨t497, t498, t499⟩, A320, H⟩ := H
               replace H : (if t497 = true then (some (true, t498, (t499.set (x15_1 : Int).toNat a0))) else (match_greatest_fn1.l0 kj10 a0 l1 l2 t498 t499 (rd_L3 l1 a0) ((rd_L3 l1 a0).length : Int) (wrap64 (x15_1 + 1)))) = some (r1, r2, r3) := H
               have A32 := Aside0.mk A320
               clear A320
               by_cases c33 : t497 = true
               ·
                subst c33
                have H1 : (some (true, t498, (t499.set (x15_1 : Int).toNat a0))) = some (r1, r2, r3) := by rw [if_pos rfl] at H; exact H
                clear H
                have H := H1
                clear H1
                obtain ⟨y500, hy500⟩ : ∃ y_ : List Int, y_ = (t499.set (x15_1 : Int).toNat a0) := ⟨_, rfl⟩
                replace H : (some (true, t498, y500)) = some (r1, r2, r3) := by first | (rw [hy500]; with_reducible exact H) | (have H2_ := (Option.bind_some _ _).symm.trans H; rw [hy500]; with_reducible exact H2_) | (have H2_ := (Option.bind_some _ _).symm.trans H; with_reducible exact H2_) | with_reducible exact H | (rw [hy500]; exact H) | exact H
                have Ny500 := Aside0.mk hy500
                clear hy500
                simp only [Option.some.injEq, Prod.mk.injEq] at H
                obtain ⟨rfl, rfl, rfl⟩ := H
                have p22 : 0 ≤ (x15_1 : Int) := of_decide_eq_true (by first | (with_reducible assumption) | assumption)
                have q22 : (x15_1 : Int) < ((x3_1.length : Int) : Int) := of_decide_eq_true (by first | (with_reducible assumption) | assumption)
                obtain ⟨go22, co22, eo22, gb22, gl22, cl22, HG22⟩ := Kd.R_form HO_3.out (by first | omega | (have := hl_HO_3.out; omega))
                (first | cases eo22 | (injection eo22 with ea_ en_ ec_; (first | subst ea_ | (injection ea_ with ea_; subst ea_)); subst ec_; clear en_))
                have GB22 := Aside0.mk gb22
                have GG22 := Aside0.mk HG22
                clear gb22 gl22 HG22
                have HMgo22 := Aside0.mk (show ((P3_ go22 ∨ P4_ go22) ∨ w.heap.size ≤ go22) from (HO_3.out.1 _ rfl))
                obtain ⟨hx22_0, hf22_0⟩ := Kd.R_celln false HO_3.out (x15_1 : Int) p22 q22
                replace p22 := eq_true p22
                replace q22 := eq_true q22
                have HP35 := Kd.R_putg HO_3.out (x15_1 : Int) true
                have hq14_0 := cell_kept HG1_.out HK.out HN1_.out
                have hq14_1 := cell_kept HG2_.out HK.out HN2_.out
                have hq14_2 := cell_kept HG3_.out HK.out HN3_.out
                have hq14_3 := cell_kept HG4_.out HK.out HN4_.out
                have hq14_4 := cell_kept HG5_.out HK.out HN5_.out
                try go_wp2_with (first | ((with_reducible refine gate_store (t := 4) (p := 36) rfl ?_); refine store_event (t := 4) (p := 36) (v := ?vo_w36) (w1 := (wc.setCell ⟨go22, (x15_1 : Int).toNat, none⟩ (.bool true))) ?hg ?ho ?hn ?hr ?_; (case ho => rfl); (case hg => rfl); (case hn => rfl); (case hr => first | (go_simp; done) | (go_simp; rfl)); intro w36 hw; have hg : wc.grownBy w36 (some go22) := (by rw [hw]; exact HP35.2); have hp_ : Kd.R Kd.bool 4 w36 w0.heap.size (fun k_ => ((P3_ k_ ∨ P4_ k_) ∨ w.heap.size ≤ k_)) (.slice (some ⟨go22, 0, none⟩) x3_1.length co22) y493 := (by rw [hw, Ny493.out]; exact HP35.1); clear HP35; have n0_ := Aside0.mk (hp_); have n1_ := Aside0.mk (Kd.R_over' (v := (.slice (some ⟨go22, 0, none⟩) x3_1.length co22)) (by (with_reducible repeat (first | apply Kd.R_alloc | apply Kd.R_drewN | apply Kd.R_drew)); exact HO_4.out) (Kd.R_typed HO_3.out) (by decide) hg); have n2_ := Aside0.mk ((by rw [hw]; exact below_set (HB.out) GB22.out : Below w0.heap.size w0 w36)); have n3_ := Aside0.mk (Kept.of_grown (S := (fun k_ => P3_ k_ ∨ P4_ k_)) hg (by repeat (first | (with_reducible first | exact HK.out | apply Kept.alloc | apply Kept.drewN | apply Kept.drew) | exact HK.out)) (fun k_ e_ => (HO_3.out.1 k_ e_))); clear HO_3; clear HO_4; clear HB; clear HK; have HO_3 := n0_; have HO_4 := n1_; have HB := n2_; have HK := n3_; have hq13_0 := cell_kept HG1_.out HK.out HN1_.out; have hq13_1 := cell_kept HG2_.out HK.out HN2_.out; have hq13_2 := cell_kept HG3_.out HK.out HN3_.out; have hq13_3 := cell_kept HG4_.out HK.out HN4_.out; have hq13_4 := cell_kept HG5_.out HK.out HN5_.out; clear n0_ n1_ n2_ n3_; clear hg hw hp_))
                have n0_ := Aside0.mk (Kd.R_drew HO_3.out)
                have n1_ := Aside0.mk (Kd.R_drew HO_4.out)
                have n2_ := Aside0.mk (Kept.drew HK.out)
                have n3_ := Aside0.mk (below_drew1 HB.out)
                clear HO_3
                clear HO_4
                clear HK
                clear HB
                have HO_3 := n0_
                have HO_4 := n1_
                have HK := n2_
                have hq15_0 := cell_kept HG1_.out HK.out HN1_.out
                have hq15_1 := cell_kept HG2_.out HK.out HN2_.out
                have hq15_2 := cell_kept HG3_.out HK.out HN3_.out
                have hq15_3 := cell_kept HG4_.out HK.out HN4_.out
                have hq15_4 := cell_kept HG5_.out HK.out HN5_.out
                have HB := n3_
                clear n0_ n1_ n2_ n3_
                obtain ⟨Ao38, co38, eo38⟩ := Kd.R_slice HO_4.out
                (first | subst eo38 | (injection eo38 with f1_ f2_ f3_; have f4_ := f1_.symm; have f5_ := f3_.symm; clear f1_ f2_ f3_; subst f4_; subst f5_))
                have p494 : 0 ≤ (x15_1 : Int) := of_decide_eq_true (by first | (with_reducible assumption) | assumption)
                have q494 : x15_1 < (x4_1.length : Int) := of_decide_eq_true (by first | (with_reducible assumption) | assumption)
                obtain ⟨ad494, e494, hx494_0⟩ := Kd.at_int (Kd.R_reads' HO_4.out).2.2 x15_1 p494 q494
                cases e494
                replace p494 := eq_true p494
                replace q494 := eq_true q494
                have p496 : 0 ≤ (x15_1 : Int) := of_decide_eq_true (by first | (with_reducible assumption) | assumption)
                have q496 : x15_1 < (x4_1.length : Int) := of_decide_eq_true (by first | (with_reducible assumption) | assumption)
                obtain ⟨ad496, e496, hx496_0⟩ := Kd.at_int (Kd.R_reads' HO_4.out).2.2 x15_1 p496 q496
                obtain rfl : ad494 = ad496 := (by injection e496)
                replace p496 := eq_true p496
                replace q496 := eq_true q496
                have hq16_0 := cell_kept HG1_.out HK.out HN1_.out
                have hq16_1 := cell_kept HG2_.out HK.out HN2_.out
                have hq16_2 := cell_kept HG3_.out HK.out HN3_.out
                have hq16_3 := cell_kept HG4_.out HK.out HN4_.out
                have hq16_4 := cell_kept HG5_.out HK.out HN5_.out
                refine start_ (n := 13) (S := fun w' => w'.cell? (ad494.add (x15_1).toNat) = some (.int .i64 (rd x4_1 x15_1)) ∧ w'.cell? (ad494.add (x15_1).toNat) = some (.int .i64 (rd x4_1 x15_1)) ∧ w'.cell? ⟨g1_, 0, none⟩ = _ ∧ w'.cell? ⟨g2_, 0, none⟩ = _ ∧ w'.cell? ⟨g3_, 0, none⟩ = _ ∧ w'.cell? ⟨g4_, 0, none⟩ = _ ∧ w'.cell? ⟨g5_, 0, none⟩ = _) (ds := [11]) #[false, false, false, false, false, false, false, false, false, false, false, false, false] (by kernel_rfl) rfl rfl ⟨hx494_0, hx496_0, hq16_0, hq16_1, hq16_2, hq16_3, hq16_4⟩ (fun hHeld => ?_); refine with_tabW match_greatest_fn1.tab6 match_greatest_fn1.bits6 (fun HT_ HW_ => ?_)
                generalize w36.drew = w37 at HO_3 HO_4 HK HB hx494_0 hx496_0 hHeld hq16_0 hq16_1 hq16_2 hq16_3 hq16_4 ⊢
                refine take_ (i := 0) (N := some 37) (v := ?_) (a' := ?_) #[true, false, false, false, false, false, false, false, false, false, false, false, false] rfl rfl (take_ofW HT_.out HW_.out (by kernel_rfl)) (fun _ _ _ h => h) (Or.inl ⟨by rfl, ?_⟩) hHeld ?_ ?_
                rotate_left
                ·
                 rintro w' ⟨s0, s1, sq0, sq1, sq2, sq3, sq4⟩
                 go_simp
                 with_reducible rfl
                rotate_left
                ·
                 simp only [Act.put, List.setIfInBounds_toArray, List.set_cons_zero, List.set_cons_succ, i64_w, i32_w]
                 rfl
                refine pure_ (i := 1) (N := some 38) (v := ?_) (a' := ?_) #[true, true, false, false, false, false, false, false, false, false, false, false, false] rfl rfl (any_of HT_.out (by kernel_rfl)) (fun _ _ _ h => h) (Or.inl ⟨by rfl, ?_⟩) ?_ ?_
                rotate_left
                ·
                 intro w'
                 go_simp
                 with_reducible rfl
                rotate_left
                ·
                 simp only [Act.put, List.setIfInBounds_toArray, List.set_cons_zero, List.set_cons_succ, i64_w, i32_w]
                 rfl
                refine pure_ (i := 2) (N := some 39) (v := ?_) (a' := ?_) #[true, true, true, false, false, false, false, false, false, false, false, false, false] rfl rfl (any_of HT_.out (by kernel_rfl)) (fun _ _ _ h => h) (Or.inl ⟨by rfl, ?_⟩) ?_ ?_
                rotate_left
                ·
                 intro w'
                 go_simp
                 with_reducible rfl
                rotate_left
                ·
                 simp only [Act.put, List.setIfInBounds_toArray, List.set_cons_zero, List.set_cons_succ, i64_w, i32_w]
                 rfl
                refine take_ (i := 3) (N := some 40) (v := ?_) (a' := ?_) #[true, true, true, true, false, false, false, false, false, false, false, false, false] rfl rfl (take_ofW HT_.out HW_.out (by kernel_rfl)) (fun _ _ _ h => h) (Or.inl ⟨by rfl, ?_⟩) hHeld ?_ ?_
                rotate_left
                ·
                 rintro w' ⟨s0, s1, sq0, sq1, sq2, sq3, sq4⟩
                 go_simp
                 with_reducible rfl
                rotate_left
                ·
                 simp only [Act.put, List.setIfInBounds_toArray, List.set_cons_zero, List.set_cons_succ, i64_w, i32_w]
                 rfl
                refine pure_ (i := 4) (N := some 41) (v := ?_) (a' := ?_) #[true, true, true, true, true, false, false, false, false, false, false, false, false] rfl rfl (any_of HT_.out (by kernel_rfl)) (fun _ _ _ h => h) (Or.inl ⟨by rfl, ?_⟩) ?_ ?_
                rotate_left
                ·
                 intro w'
                 go_simp
                 with_reducible rfl
                rotate_left
                ·
                 simp only [Act.put, List.setIfInBounds_toArray, List.set_cons_zero, List.set_cons_succ, i64_w, i32_w]
                 rfl
                refine pure_ (i := 5) (N := some 42) (v := ?_) (a' := ?_) #[true, true, true, true, true, true, false, false, false, false, false, false, false] rfl rfl (any_of HT_.out (by kernel_rfl)) (fun _ _ _ h => h) (Or.inl ⟨by rfl, ?_⟩) ?_ ?_
                rotate_left
                ·
                 intro w'
                 go_simp
                 with_reducible rfl
                rotate_left
                ·
                 simp only [Act.put, List.setIfInBounds_toArray, List.set_cons_zero, List.set_cons_succ, i64_w, i32_w]
                 rfl
                refine take_ (i := 6) (N := some 43) (v := ?_) (a' := ?_) #[true, true, true, true, true, true, true, false, false, false, false, false, false] rfl rfl (take_ofW HT_.out HW_.out (by kernel_rfl)) (fun _ _ _ h => h) (Or.inl ⟨by rfl, ?_⟩) hHeld ?_ ?_
                rotate_left
                ·
                 rintro w' ⟨s0, s1, sq0, sq1, sq2, sq3, sq4⟩
                 go_simp
                 with_reducible rfl
                rotate_left
                ·
                 simp only [Act.put, List.setIfInBounds_toArray, List.set_cons_zero, List.set_cons_succ, i64_w, i32_w]
                 rfl
                refine take_ (i := 7) (N := some 44) (v := ?_) (a' := ?_) #[true, true, true, true, true, true, true, true, false, false, false, false, false] rfl rfl (take_ofW HT_.out HW_.out (by kernel_rfl)) (fun _ _ _ h => h) (Or.inl ⟨by rfl, ?_⟩) hHeld ?_ ?_
                rotate_left
                ·
                 rintro w' ⟨s0, s1, sq0, sq1, sq2, sq3, sq4⟩
                 go_simp
                 with_reducible rfl
                rotate_left
                ·
                 simp only [Act.put, List.setIfInBounds_toArray, List.set_cons_zero, List.set_cons_succ, i64_w, i32_w]
                 rfl
                refine pure_ (i := 8) (N := some 45) (v := ?_) (a' := ?_) #[true, true, true, true, true, true, true, true, true, false, false, false, false] rfl rfl (any_of HT_.out (by kernel_rfl)) (fun _ _ _ h => h) (Or.inl ⟨by rfl, ?_⟩) ?_ ?_
                rotate_left
                ·
                 intro w'
                 go_simp
                 with_reducible rfl
                rotate_left
                ·
                 simp only [Act.put, List.setIfInBounds_toArray, List.set_cons_zero, List.set_cons_succ, i64_w, i32_w]
                 rfl
                refine pure_ (i := 9) (N := some 46) (v := ?_) (a' := ?_) #[true, true, true, true, true, true, true, true, true, true, false, false, false] rfl rfl (any_of HT_.out (by kernel_rfl)) (fun _ _ _ h => h) (Or.inl ⟨by rfl, ?_⟩) ?_ ?_
                rotate_left
                ·
                 intro w'
                 go_simp
                 with_reducible rfl
                rotate_left
                ·
                 simp only [Act.put, List.setIfInBounds_toArray, List.set_cons_zero, List.set_cons_succ, i64_w, i32_w]
                 rfl
                refine take_ (i := 10) (N := some 47) (v := ?_) (a' := ?_) #[true, true, true, true, true, true, true, true, true, true, true, false, false] rfl rfl (take_ofW HT_.out HW_.out (by kernel_rfl)) (fun _ _ _ h => h) (Or.inl ⟨by rfl, ?_⟩) hHeld ?_ ?_
                rotate_left
                ·
                 rintro w' ⟨s0, s1, sq0, sq1, sq2, sq3, sq4⟩
                 go_simp
                 with_reducible rfl
                rotate_left
                ·
                 simp only [Act.put, List.setIfInBounds_toArray, List.set_cons_zero, List.set_cons_succ, i64_w, i32_w]
                 rfl
                refine last_ (i := 11) (N := some 48) #[true, true, true, true, true, true, true, true, true, true, true, true, false] rfl rfl (one_of HT_.out (by kernel_rfl)) (by decide) (fun K hK => ?_)
                refine match_greatest_fn1.goesV Try.func33 (by kernel_rfl) rfl #[.int .i64 (rd x4_1 x15_1), .pointer (some ⟨g1_, 0, none⟩), .pointer (some ⟨g2_, 0, none⟩), .pointer (some ⟨g3_, 0, none⟩), .pointer (some ⟨g4_, 0, none⟩), .pointer (some ⟨g5_, 0, none⟩)] #[.pointer (some ⟨g1_, 0, none⟩), .pointer (some ⟨g2_, 0, none⟩), .pointer (some ⟨g3_, 0, none⟩), .pointer (some ⟨g4_, 0, none⟩), .pointer (some ⟨g5_, 0, none⟩)] (by rfl) rfl rfl (by first | rfl | (go_simp; rfl)) (by (try simp only [List.map_toArray, List.map_cons, List.map_nil]); first | done | rfl | (simp only [List.length_drop, List.length_take]; rfl)) ?_
                with_reducible refine (ih kj10 (by have := HK1.out; have := HJ10.out; omega) (rd x4_1 x15_1) (some ad489) c1 l1 A2 c2 l2 (fun k_ => some k_ = (.slice (some ⟨go22, 0, none⟩) x3_1.length co22 : Value).ownBlock) (.slice (some ⟨go22, 0, none⟩) x3_1.length co22) y493 (fun k_ => some k_ = (.slice (some ad494) x4_1.length co38 : Value).ownBlock) (.slice (some ad494) x4_1.length co38) x4_1 true t498 t499 w0 _ ?side1 ?side2 ?side3 ?side4 ?side5 ?side6 ?side7 g1_ g2_ g3_ g4_ g5_ ?sg1 ?sg2 ?sg3 ?sg4 ?sg5 ?sn1 ?sn2 ?sn3 ?sn4 ?sn5 A32.out).mono ?_
                (case sg1 => have h_ := cell_kept HG1_.out (by repeat (first | (with_reducible first | exact HK.out | apply Kept.alloc | apply Kept.drewN | apply Kept.drew) | exact HK.out)) HN1_.out; first | exact h_)
                (case sg2 => have h_ := cell_kept HG2_.out (by repeat (first | (with_reducible first | exact HK.out | apply Kept.alloc | apply Kept.drewN | apply Kept.drew) | exact HK.out)) HN2_.out; first | exact h_)
                (case sg3 => have h_ := cell_kept HG3_.out (by repeat (first | (with_reducible first | exact HK.out | apply Kept.alloc | apply Kept.drewN | apply Kept.drew) | exact HK.out)) HN3_.out; first | exact h_)
                (case sg4 => have h_ := cell_kept HG4_.out (by repeat (first | (with_reducible first | exact HK.out | apply Kept.alloc | apply Kept.drewN | apply Kept.drew) | exact HK.out)) HN4_.out; first | exact h_)
                (case sg5 => have h_ := cell_kept HG5_.out (by repeat (first | (with_reducible first | exact HK.out | apply Kept.alloc | apply Kept.drewN | apply Kept.drew) | exact HK.out)) HN5_.out; first | exact h_)
                (case sn1 => exact fun e_ => e_.elim (fun e_ => by first | exact (HO_3.out.1 g1_ e_.symm).elim HN1_.out (fun h_ => Nat.lt_irrefl _ (Nat.lt_of_lt_of_le (World.block_lt_of_cell? w _ HG1_.out) h_)) | exact (HO_3.out.1 g1_ e_.symm).1.elim HN1_.out (fun h_ => Nat.lt_irrefl _ (Nat.lt_of_lt_of_le (World.block_lt_of_cell? w _ HG1_.out) h_)) | exact (HO_3.out.1 g1_ e_.symm).1.1.elim HN1_.out (fun h_ => Nat.lt_irrefl _ (Nat.lt_of_lt_of_le (World.block_lt_of_cell? w _ HG1_.out) h_))) (fun e_ => by first | exact (HO_4.out.1 g1_ e_.symm).elim HN1_.out (fun h_ => Nat.lt_irrefl _ (Nat.lt_of_lt_of_le (World.block_lt_of_cell? w _ HG1_.out) h_)) | exact (HO_4.out.1 g1_ e_.symm).1.elim HN1_.out (fun h_ => Nat.lt_irrefl _ (Nat.lt_of_lt_of_le (World.block_lt_of_cell? w _ HG1_.out) h_)) | exact (HO_4.out.1 g1_ e_.symm).1.1.elim HN1_.out (fun h_ => Nat.lt_irrefl _ (Nat.lt_of_lt_of_le (World.block_lt_of_cell? w _ HG1_.out) h_))))
                (case sn2 => exact fun e_ => e_.elim (fun e_ => by first | exact (HO_3.out.1 g2_ e_.symm).elim HN2_.out (fun h_ => Nat.lt_irrefl _ (Nat.lt_of_lt_of_le (World.block_lt_of_cell? w _ HG2_.out) h_)) | exact (HO_3.out.1 g2_ e_.symm).1.elim HN2_.out (fun h_ => Nat.lt_irrefl _ (Nat.lt_of_lt_of_le (World.block_lt_of_cell? w _ HG2_.out) h_)) | exact (HO_3.out.1 g2_ e_.symm).1.1.elim HN2_.out (fun h_ => Nat.lt_irrefl _ (Nat.lt_of_lt_of_le (World.block_lt_of_cell? w _ HG2_.out) h_))) (fun e_ => by first | exact (HO_4.out.1 g2_ e_.symm).elim HN2_.out (fun h_ => Nat.lt_irrefl _ (Nat.lt_of_lt_of_le (World.block_lt_of_cell? w _ HG2_.out) h_)) | exact (HO_4.out.1 g2_ e_.symm).1.elim HN2_.out (fun h_ => Nat.lt_irrefl _ (Nat.lt_of_lt_of_le (World.block_lt_of_cell? w _ HG2_.out) h_)) | exact (HO_4.out.1 g2_ e_.symm).1.1.elim HN2_.out (fun h_ => Nat.lt_irrefl _ (Nat.lt_of_lt_of_le (World.block_lt_of_cell? w _ HG2_.out) h_))))
                (case sn3 => exact fun e_ => e_.elim (fun e_ => by first | exact (HO_3.out.1 g3_ e_.symm).elim HN3_.out (fun h_ => Nat.lt_irrefl _ (Nat.lt_of_lt_of_le (World.block_lt_of_cell? w _ HG3_.out) h_)) | exact (HO_3.out.1 g3_ e_.symm).1.elim HN3_.out (fun h_ => Nat.lt_irrefl _ (Nat.lt_of_lt_of_le (World.block_lt_of_cell? w _ HG3_.out) h_)) | exact (HO_3.out.1 g3_ e_.symm).1.1.elim HN3_.out (fun h_ => Nat.lt_irrefl _ (Nat.lt_of_lt_of_le (World.block_lt_of_cell? w _ HG3_.out) h_))) (fun e_ => by first | exact (HO_4.out.1 g3_ e_.symm).elim HN3_.out (fun h_ => Nat.lt_irrefl _ (Nat.lt_of_lt_of_le (World.block_lt_of_cell? w _ HG3_.out) h_)) | exact (HO_4.out.1 g3_ e_.symm).1.elim HN3_.out (fun h_ => Nat.lt_irrefl _ (Nat.lt_of_lt_of_le (World.block_lt_of_cell? w _ HG3_.out) h_)) | exact (HO_4.out.1 g3_ e_.symm).1.1.elim HN3_.out (fun h_ => Nat.lt_irrefl _ (Nat.lt_of_lt_of_le (World.block_lt_of_cell? w _ HG3_.out) h_))))
                (case sn4 => exact fun e_ => e_.elim (fun e_ => by first | exact (HO_3.out.1 g4_ e_.symm).elim HN4_.out (fun h_ => Nat.lt_irrefl _ (Nat.lt_of_lt_of_le (World.block_lt_of_cell? w _ HG4_.out) h_)) | exact (HO_3.out.1 g4_ e_.symm).1.elim HN4_.out (fun h_ => Nat.lt_irrefl _ (Nat.lt_of_lt_of_le (World.block_lt_of_cell? w _ HG4_.out) h_)) | exact (HO_3.out.1 g4_ e_.symm).1.1.elim HN4_.out (fun h_ => Nat.lt_irrefl _ (Nat.lt_of_lt_of_le (World.block_lt_of_cell? w _ HG4_.out) h_))) (fun e_ => by first | exact (HO_4.out.1 g4_ e_.symm).elim HN4_.out (fun h_ => Nat.lt_irrefl _ (Nat.lt_of_lt_of_le (World.block_lt_of_cell? w _ HG4_.out) h_)) | exact (HO_4.out.1 g4_ e_.symm).1.elim HN4_.out (fun h_ => Nat.lt_irrefl _ (Nat.lt_of_lt_of_le (World.block_lt_of_cell? w _ HG4_.out) h_)) | exact (HO_4.out.1 g4_ e_.symm).1.1.elim HN4_.out (fun h_ => Nat.lt_irrefl _ (Nat.lt_of_lt_of_le (World.block_lt_of_cell? w _ HG4_.out) h_))))
                (case sn5 => exact fun e_ => e_.elim (fun e_ => by first | exact (HO_3.out.1 g5_ e_.symm).elim HN5_.out (fun h_ => Nat.lt_irrefl _ (Nat.lt_of_lt_of_le (World.block_lt_of_cell? w _ HG5_.out) h_)) | exact (HO_3.out.1 g5_ e_.symm).1.elim HN5_.out (fun h_ => Nat.lt_irrefl _ (Nat.lt_of_lt_of_le (World.block_lt_of_cell? w _ HG5_.out) h_)) | exact (HO_3.out.1 g5_ e_.symm).1.1.elim HN5_.out (fun h_ => Nat.lt_irrefl _ (Nat.lt_of_lt_of_le (World.block_lt_of_cell? w _ HG5_.out) h_))) (fun e_ => by first | exact (HO_4.out.1 g5_ e_.symm).elim HN5_.out (fun h_ => Nat.lt_irrefl _ (Nat.lt_of_lt_of_le (World.block_lt_of_cell? w _ HG5_.out) h_)) | exact (HO_4.out.1 g5_ e_.symm).1.elim HN5_.out (fun h_ => Nat.lt_irrefl _ (Nat.lt_of_lt_of_le (World.block_lt_of_cell? w _ HG5_.out) h_)) | exact (HO_4.out.1 g5_ e_.symm).1.1.elim HN5_.out (fun h_ => Nat.lt_irrefl _ (Nat.lt_of_lt_of_le (World.block_lt_of_cell? w _ HG5_.out) h_))))
                (case side1 => repeat (first | (with_reducible first | exact HB.out | apply below_alloc | apply pw_below_drewN | apply below_drew1) | exact HB.out))
                (case side2 => exact HR1.out)
                (case side3 => exact HC1.out)
                (case side4 => exact HR2.out)
                (case side5 => exact HC2.out)
                (case side6 => exact Kd.R_tight rfl HO_3.out)
                (case side7 => exact Kd.R_tight rfl HO_4.out)
                rintro e w39 ⟨rfl, hy0, hy1, hb, hkp⟩
                refine ⟨_, rfl, ?_⟩
                have n0_ := Aside0.mk (Kd.R_reok rfl hy0 (fun k_ e_ => HO_3.out.1 k_ e_))
                have n1_ := Aside0.mk (Kd.R_reok rfl hy1 (fun k_ e_ => HO_4.out.1 k_ e_))
                have n2_ := Aside0.mk (Kept.then_ (S := (fun k_ => P3_ k_ ∨ P4_ k_)) (by repeat (first | (with_reducible first | exact HK.out | apply Kept.alloc | apply Kept.drewN | apply Kept.drew) | exact HK.out)) hkp (fun k_ hs_ => Or.elim hs_ (fun e_ => (fun e_ => (HO_3.out.1 k_ e_.symm)) e_) (fun e_ => (fun e_ => (HO_4.out.1 k_ e_.symm)) e_)))
                have n3_ := Aside0.mk (hb)
                clear HO_3
                clear HO_4
                clear HK
                clear HB
                have HO_3 := n0_
                have hl_HO_3 := Aside0.mk (Kd.R_reads' HO_3.out).1
                have HO_4 := n1_
                have hl_HO_4 := Aside0.mk (Kd.R_reads' HO_4.out).1
                have HK := n2_
                have hq17_0 := cell_kept HG1_.out HK.out HN1_.out
                have hq17_1 := cell_kept HG2_.out HK.out HN2_.out
                have hq17_2 := cell_kept HG3_.out HK.out HN3_.out
                have hq17_3 := cell_kept HG4_.out HK.out HN4_.out
                have hq17_4 := cell_kept HG5_.out HK.out HN5_.out
                have HB := n3_
                clear n0_ n1_ n2_ n3_
                (try clear hb)
                (try clear hkp)
                (try clear hy0)
                (try clear hy1)
                refine hK.out _ _ ?_
                clear hK K
                refine norm_ (a' := ?_) ?_ ?_
                rotate_left
                ·
                 show Act.put _ (some 48) _ = _
                 simp only [Act.put, List.setIfInBounds_toArray, List.set_cons_zero, List.set_cons_succ, i64_w, i32_w]
                 rfl
                refine pure_ (i := 12) (N := some 49) (v := ?_) (a' := ?_) #[true, true, true, true, true, true, true, true, true, true, true, true, true] rfl rfl (any_of HT_.out (by kernel_rfl)) (fun _ _ _ h => h) (Or.inl ⟨by rfl, ?_⟩) ?_ ?_
                rotate_left
                ·
                 intro w'
                 go_simp
                 with_reducible rfl
                rotate_left
                ·
                 simp only [Act.put, List.setIfInBounds_toArray, List.set_cons_zero, List.set_cons_succ, i64_w, i32_w]
                 rfl
                refine done_ (done_of HT_.out (by kernel_rfl)) ?_
                have p34 : 0 ≤ (x15_1 : Int) := of_decide_eq_true (by first | (with_reducible assumption) | assumption)
                have q34 : (x15_1 : Int) < ((x4_1.length : Int) : Int) := of_decide_eq_true (by first | (with_reducible assumption) | assumption)
                obtain ⟨go34, co34, eo34, gb34, gl34, cl34, HG34⟩ := Kd.R_form HO_4.out (by first | omega | (have := hl_HO_4.out; omega))
                (first | cases eo34 | (injection eo34 with ea_ en_ ec_; (first | subst ea_ | (injection ea_ with ea_; subst ea_)); subst ec_; clear en_))
                have GB34 := Aside0.mk gb34
                have GG34 := Aside0.mk HG34
                clear gb34 gl34 HG34
                have HMgo34 := Aside0.mk (show ((P3_ go34 ∨ P4_ go34) ∨ w.heap.size ≤ go34) from (HO_4.out.1 _ rfl))
                (first | simp only [add_plain] at hx494_0 | skip)
                (first | simp only [add_plain] at hx496_0 | skip)
                obtain ⟨hx34_0, hf34_0⟩ := Kd.R_celln 0 HO_4.out (x15_1 : Int) p34 q34
                replace p34 := eq_true p34
                replace q34 := eq_true q34
                obtain ⟨hy40_, hz40_⟩ := Kd.R_celln 0 HO_4.out (x15_1 : Int) (of_decide_eq_true (by first | (with_reducible assumption) | assumption)) (of_decide_eq_true (by first | (with_reducible assumption) | assumption))
                have HP40 := Kd.R_putg HO_4.out (x15_1 : Int) a0
                have hq19_0 := cell_kept HG1_.out HK.out HN1_.out
                have hq19_1 := cell_kept HG2_.out HK.out HN2_.out
                have hq19_2 := cell_kept HG3_.out HK.out HN3_.out
                have hq19_3 := cell_kept HG4_.out HK.out HN4_.out
                have hq19_4 := cell_kept HG5_.out HK.out HN5_.out
                try go_wp2_with (first | ((with_reducible refine gate_store (t := 3) (p := 53) rfl ?_); refine store_event (t := 3) (p := 53) (v := ?vo_w41) (w1 := (w39.setCell ⟨go34, (x15_1 : Int).toNat, none⟩ (.int .i64 a0))) ?hg ?ho ?hn ?hr ?_; (case ho => rfl); (case hg => rfl); (case hn => rfl); (case hr => first | (go_simp; done) | (go_simp; rfl)); intro w41 hw; have hg : w39.grownBy w41 (some go34) := (by rw [hw]; exact HP40.2); have hp_ : Kd.R (Kd.int .i64) 3 w41 w0.heap.size (fun k_ => ((P3_ k_ ∨ P4_ k_) ∨ w.heap.size ≤ k_)) (.slice (some ⟨go34, 0, none⟩) x4_1.length co38) y500 := (by rw [hw, Ny500.out]; exact HP40.1); clear HP40; have n0_ := Aside0.mk (Kd.R_over' (v := (.slice (some ⟨go34, 0, none⟩) x4_1.length co38)) (by (with_reducible repeat (first | apply Kd.R_alloc | apply Kd.R_drewN | apply Kd.R_drew)); exact HO_3.out) (Kd.R_typed HO_4.out) (by decide) hg); have n1_ := Aside0.mk (hp_); have n2_ := Aside0.mk ((by rw [hw]; exact below_set (HB.out) GB34.out : Below w0.heap.size w0 w41)); have n3_ := Aside0.mk (Kept.of_grown (S := (fun k_ => P3_ k_ ∨ P4_ k_)) hg (by repeat (first | (with_reducible first | exact HK.out | apply Kept.alloc | apply Kept.drewN | apply Kept.drew) | exact HK.out)) (fun k_ e_ => (HO_4.out.1 k_ e_))); clear HO_3; clear HO_4; clear HB; clear HK; have HO_3 := n0_; have HO_4 := n1_; have HB := n2_; have HK := n3_; have hq18_0 := cell_kept HG1_.out HK.out HN1_.out; have hq18_1 := cell_kept HG2_.out HK.out HN2_.out; have hq18_2 := cell_kept HG3_.out HK.out HN3_.out; have hq18_3 := cell_kept HG4_.out HK.out HN4_.out; have hq18_4 := cell_kept HG5_.out HK.out HN5_.out; clear n0_ n1_ n2_ n3_; clear hg hw hp_))
                go_ret
                exact ⟨by first | rfl | (simp [errW_none, errW_some] <;> rfl) | (simp [*, errW_none, errW_some] <;> rfl), by (with_reducible repeat (first | apply Kd.R_alloc | apply Kd.R_drewN | apply Kd.R_drew)); exact HO_3.out, by (with_reducible repeat (first | apply Kd.R_alloc | apply Kd.R_drewN | apply Kd.R_drew)); exact HO_4.out, by repeat (first | (with_reducible first | exact HB.out | apply below_alloc | apply pw_below_drewN | apply below_drew1) | exact HB.out), by repeat (first | (with_reducible first | exact HK.out | apply Kept.alloc | apply Kept.drewN | apply Kept.drew) | exact HK.out)⟩
               ·
                replace c33 := Bool.eq_false_iff.mpr c33
                subst c33
                have H1 : (match_greatest_fn1.l0 kj10 a0 l1 l2 t498 t499 (rd_L3 l1 a0) ((rd_L3 l1 a0).length : Int) (wrap64 (x15_1 + 1))) = some (r1, r2, r3) := by rw [if_neg (show ¬ (false = true) by decide)] at H; exact H
                clear H
                have H := H1
                clear H1
                have H' := Aside0.mk H
                clear H
                have p22 : 0 ≤ (x15_1 : Int) := of_decide_eq_true (by first | (with_reducible assumption) | assumption)
                have q22 : (x15_1 : Int) < ((x3_1.length : Int) : Int) := of_decide_eq_true (by first | (with_reducible assumption) | assumption)
                obtain ⟨go22, co22, eo22, gb22, gl22, cl22, HG22⟩ := Kd.R_form HO_3.out (by first | omega | (have := hl_HO_3.out; omega))
                (first | cases eo22 | (injection eo22 with ea_ en_ ec_; (first | subst ea_ | (injection ea_ with ea_; subst ea_)); subst ec_; clear en_))
                have GB22 := Aside0.mk gb22
                have GG22 := Aside0.mk HG22
                clear gb22 gl22 HG22
                have HMgo22 := Aside0.mk (show ((P3_ go22 ∨ P4_ go22) ∨ w.heap.size ≤ go22) from (HO_3.out.1 _ rfl))
                obtain ⟨hx22_0, hf22_0⟩ := Kd.R_celln false HO_3.out (x15_1 : Int) p22 q22
                replace p22 := eq_true p22
                replace q22 := eq_true q22
                have HP42 := Kd.R_putg HO_3.out (x15_1 : Int) true
                have hq21_0 := cell_kept HG1_.out HK.out HN1_.out
                have hq21_1 := cell_kept HG2_.out HK.out HN2_.out
                have hq21_2 := cell_kept HG3_.out HK.out HN3_.out
                have hq21_3 := cell_kept HG4_.out HK.out HN4_.out
                have hq21_4 := cell_kept HG5_.out HK.out HN5_.out
                try go_wp2_with (first | ((with_reducible refine gate_store (t := 4) (p := 36) rfl ?_); refine store_event (t := 4) (p := 36) (v := ?vo_w43) (w1 := (wc.setCell ⟨go22, (x15_1 : Int).toNat, none⟩ (.bool true))) ?hg ?ho ?hn ?hr ?_; (case ho => rfl); (case hg => rfl); (case hn => rfl); (case hr => first | (go_simp; done) | (go_simp; rfl)); intro w43 hw; have hg : wc.grownBy w43 (some go22) := (by rw [hw]; exact HP42.2); have hp_ : Kd.R Kd.bool 4 w43 w0.heap.size (fun k_ => ((P3_ k_ ∨ P4_ k_) ∨ w.heap.size ≤ k_)) (.slice (some ⟨go22, 0, none⟩) x3_1.length co22) y493 := (by rw [hw, Ny493.out]; exact HP42.1); clear HP42; have n0_ := Aside0.mk (hp_); have n1_ := Aside0.mk (Kd.R_over' (v := (.slice (some ⟨go22, 0, none⟩) x3_1.length co22)) (by (with_reducible repeat (first | apply Kd.R_alloc | apply Kd.R_drewN | apply Kd.R_drew)); exact HO_4.out) (Kd.R_typed HO_3.out) (by decide) hg); have n2_ := Aside0.mk ((by rw [hw]; exact below_set (HB.out) GB22.out : Below w0.heap.size w0 w43)); have n3_ := Aside0.mk (Kept.of_grown (S := (fun k_ => P3_ k_ ∨ P4_ k_)) hg (by repeat (first | (with_reducible first | exact HK.out | apply Kept.alloc | apply Kept.drewN | apply Kept.drew) | exact HK.out)) (fun k_ e_ => (HO_3.out.1 k_ e_))); clear HO_3; clear HO_4; clear HB; clear HK; have HO_3 := n0_; have HO_4 := n1_; have HB := n2_; have HK := n3_; have hq20_0 := cell_kept HG1_.out HK.out HN1_.out; have hq20_1 := cell_kept HG2_.out HK.out HN2_.out; have hq20_2 := cell_kept HG3_.out HK.out HN3_.out; have hq20_3 := cell_kept HG4_.out HK.out HN4_.out; have hq20_4 := cell_kept HG5_.out HK.out HN5_.out; clear n0_ n1_ n2_ n3_; clear hg hw hp_))
                have n0_ := Aside0.mk (Kd.R_drew HO_3.out)
                have n1_ := Aside0.mk (Kd.R_drew HO_4.out)
                have n2_ := Aside0.mk (Kept.drew HK.out)
                have n3_ := Aside0.mk (below_drew1 HB.out)
                clear HO_3
                clear HO_4
                clear HK
                clear HB
                have HO_3 := n0_
                have HO_4 := n1_
                have HK := n2_
                have hq22_0 := cell_kept HG1_.out HK.out HN1_.out
                have hq22_1 := cell_kept HG2_.out HK.out HN2_.out
                have hq22_2 := cell_kept HG3_.out HK.out HN3_.out
                have hq22_3 := cell_kept HG4_.out HK.out HN4_.out
                have hq22_4 := cell_kept HG5_.out HK.out HN5_.out
                have HB := n3_
                clear n0_ n1_ n2_ n3_
                obtain ⟨Ao45, co45, eo45⟩ := Kd.R_slice HO_4.out
                (first | subst eo45 | (injection eo45 with f1_ f2_ f3_; have f4_ := f1_.symm; have f5_ := f3_.symm; clear f1_ f2_ f3_; subst f4_; subst f5_))
                have p494 : 0 ≤ (x15_1 : Int) := of_decide_eq_true (by first | (with_reducible assumption) | assumption)
                have q494 : x15_1 < (x4_1.length : Int) := of_decide_eq_true (by first | (with_reducible assumption) | assumption)
                obtain ⟨ad494, e494, hx494_0⟩ := Kd.at_int (Kd.R_reads' HO_4.out).2.2 x15_1 p494 q494
                cases e494
                replace p494 := eq_true p494
                replace q494 := eq_true q494
                have p496 : 0 ≤ (x15_1 : Int) := of_decide_eq_true (by first | (with_reducible assumption) | assumption)
                have q496 : x15_1 < (x4_1.length : Int) := of_decide_eq_true (by first | (with_reducible assumption) | assumption)
                obtain ⟨ad496, e496, hx496_0⟩ := Kd.at_int (Kd.R_reads' HO_4.out).2.2 x15_1 p496 q496
                obtain rfl : ad494 = ad496 := (by injection e496)
                replace p496 := eq_true p496
                replace q496 := eq_true q496
                have hq23_0 := cell_kept HG1_.out HK.out HN1_.out
                have hq23_1 := cell_kept HG2_.out HK.out HN2_.out
                have hq23_2 := cell_kept HG3_.out HK.out HN3_.out
                have hq23_3 := cell_kept HG4_.out HK.out HN4_.out
                have hq23_4 := cell_kept HG5_.out HK.out HN5_.out
                refine start_ (n := 13) (S := fun w' => w'.cell? (ad494.add (x15_1).toNat) = some (.int .i64 (rd x4_1 x15_1)) ∧ w'.cell? (ad494.add (x15_1).toNat) = some (.int .i64 (rd x4_1 x15_1)) ∧ w'.cell? ⟨g1_, 0, none⟩ = _ ∧ w'.cell? ⟨g2_, 0, none⟩ = _ ∧ w'.cell? ⟨g3_, 0, none⟩ = _ ∧ w'.cell? ⟨g4_, 0, none⟩ = _ ∧ w'.cell? ⟨g5_, 0, none⟩ = _) (ds := [11]) #[false, false, false, false, false, false, false, false, false, false, false, false, false] (by kernel_rfl) rfl rfl ⟨hx494_0, hx496_0, hq23_0, hq23_1, hq23_2, hq23_3, hq23_4⟩ (fun hHeld => ?_); refine with_tabW match_greatest_fn1.tab6 match_greatest_fn1.bits6 (fun HT_ HW_ => ?_)
                generalize w43.drew = w44 at HO_3 HO_4 HK HB hx494_0 hx496_0 hHeld hq23_0 hq23_1 hq23_2 hq23_3 hq23_4 ⊢
                refine take_ (i := 0) (N := some 37) (v := ?_) (a' := ?_) #[true, false, false, false, false, false, false, false, false, false, false, false, false] rfl rfl (take_ofW HT_.out HW_.out (by kernel_rfl)) (fun _ _ _ h => h) (Or.inl ⟨by rfl, ?_⟩) hHeld ?_ ?_
                rotate_left
                ·
                 rintro w' ⟨s0, s1, sq0, sq1, sq2, sq3, sq4⟩
                 go_simp
                 with_reducible rfl
                rotate_left
                ·
                 simp only [Act.put, List.setIfInBounds_toArray, List.set_cons_zero, List.set_cons_succ, i64_w, i32_w]
                 rfl
                refine pure_ (i := 1) (N := some 38) (v := ?_) (a' := ?_) #[true, true, false, false, false, false, false, false, false, false, false, false, false] rfl rfl (any_of HT_.out (by kernel_rfl)) (fun _ _ _ h => h) (Or.inl ⟨by rfl, ?_⟩) ?_ ?_
                rotate_left
                ·
                 intro w'
                 go_simp
                 with_reducible rfl
                rotate_left
                ·
                 simp only [Act.put, List.setIfInBounds_toArray, List.set_cons_zero, List.set_cons_succ, i64_w, i32_w]
                 rfl
                refine pure_ (i := 2) (N := some 39) (v := ?_) (a' := ?_) #[true, true, true, false, false, false, false, false, false, false, false, false, false] rfl rfl (any_of HT_.out (by kernel_rfl)) (fun _ _ _ h => h) (Or.inl ⟨by rfl, ?_⟩) ?_ ?_
                rotate_left
                ·
                 intro w'
                 go_simp
                 with_reducible rfl
                rotate_left
                ·
                 simp only [Act.put, List.setIfInBounds_toArray, List.set_cons_zero, List.set_cons_succ, i64_w, i32_w]
                 rfl
                refine take_ (i := 3) (N := some 40) (v := ?_) (a' := ?_) #[true, true, true, true, false, false, false, false, false, false, false, false, false] rfl rfl (take_ofW HT_.out HW_.out (by kernel_rfl)) (fun _ _ _ h => h) (Or.inl ⟨by rfl, ?_⟩) hHeld ?_ ?_
                rotate_left
                ·
                 rintro w' ⟨s0, s1, sq0, sq1, sq2, sq3, sq4⟩
                 go_simp
                 with_reducible rfl
                rotate_left
                ·
                 simp only [Act.put, List.setIfInBounds_toArray, List.set_cons_zero, List.set_cons_succ, i64_w, i32_w]
                 rfl
                refine pure_ (i := 4) (N := some 41) (v := ?_) (a' := ?_) #[true, true, true, true, true, false, false, false, false, false, false, false, false] rfl rfl (any_of HT_.out (by kernel_rfl)) (fun _ _ _ h => h) (Or.inl ⟨by rfl, ?_⟩) ?_ ?_
                rotate_left
                ·
                 intro w'
                 go_simp
                 with_reducible rfl
                rotate_left
                ·
                 simp only [Act.put, List.setIfInBounds_toArray, List.set_cons_zero, List.set_cons_succ, i64_w, i32_w]
                 rfl
                refine pure_ (i := 5) (N := some 42) (v := ?_) (a' := ?_) #[true, true, true, true, true, true, false, false, false, false, false, false, false] rfl rfl (any_of HT_.out (by kernel_rfl)) (fun _ _ _ h => h) (Or.inl ⟨by rfl, ?_⟩) ?_ ?_
                rotate_left
                ·
                 intro w'
                 go_simp
                 with_reducible rfl
                rotate_left
                ·
                 simp only [Act.put, List.setIfInBounds_toArray, List.set_cons_zero, List.set_cons_succ, i64_w, i32_w]
                 rfl
                refine take_ (i := 6) (N := some 43) (v := ?_) (a' := ?_) #[true, true, true, true, true, true, true, false, false, false, false, false, false] rfl rfl (take_ofW HT_.out HW_.out (by kernel_rfl)) (fun _ _ _ h => h) (Or.inl ⟨by rfl, ?_⟩) hHeld ?_ ?_
                rotate_left
                ·
                 rintro w' ⟨s0, s1, sq0, sq1, sq2, sq3, sq4⟩
                 go_simp
                 with_reducible rfl
                rotate_left
                ·
                 simp only [Act.put, List.setIfInBounds_toArray, List.set_cons_zero, List.set_cons_succ, i64_w, i32_w]
                 rfl
                refine take_ (i := 7) (N := some 44) (v := ?_) (a' := ?_) #[true, true, true, true, true, true, true, true, false, false, false, false, false] rfl rfl (take_ofW HT_.out HW_.out (by kernel_rfl)) (fun _ _ _ h => h) (Or.inl ⟨by rfl, ?_⟩) hHeld ?_ ?_
                rotate_left
                ·
                 rintro w' ⟨s0, s1, sq0, sq1, sq2, sq3, sq4⟩
                 go_simp
                 with_reducible rfl
                rotate_left
                ·
                 simp only [Act.put, List.setIfInBounds_toArray, List.set_cons_zero, List.set_cons_succ, i64_w, i32_w]
                 rfl
                refine pure_ (i := 8) (N := some 45) (v := ?_) (a' := ?_) #[true, true, true, true, true, true, true, true, true, false, false, false, false] rfl rfl (any_of HT_.out (by kernel_rfl)) (fun _ _ _ h => h) (Or.inl ⟨by rfl, ?_⟩) ?_ ?_
                rotate_left
                ·
                 intro w'
                 go_simp
                 with_reducible rfl
                rotate_left
                ·
                 simp only [Act.put, List.setIfInBounds_toArray, List.set_cons_zero, List.set_cons_succ, i64_w, i32_w]
                 rfl
                refine pure_ (i := 9) (N := some 46) (v := ?_) (a' := ?_) #[true, true, true, true, true, true, true, true, true, true, false, false, false] rfl rfl (any_of HT_.out (by kernel_rfl)) (fun _ _ _ h => h) (Or.inl ⟨by rfl, ?_⟩) ?_ ?_
                rotate_left
                ·
                 intro w'
                 go_simp
                 with_reducible rfl
                rotate_left
                ·
                 simp only [Act.put, List.setIfInBounds_toArray, List.set_cons_zero, List.set_cons_succ, i64_w, i32_w]
                 rfl
                refine take_ (i := 10) (N := some 47) (v := ?_) (a' := ?_) #[true, true, true, true, true, true, true, true, true, true, true, false, false] rfl rfl (take_ofW HT_.out HW_.out (by kernel_rfl)) (fun _ _ _ h => h) (Or.inl ⟨by rfl, ?_⟩) hHeld ?_ ?_
                rotate_left
                ·
                 rintro w' ⟨s0, s1, sq0, sq1, sq2, sq3, sq4⟩
                 go_simp
                 with_reducible rfl
                rotate_left
                ·
                 simp only [Act.put, List.setIfInBounds_toArray, List.set_cons_zero, List.set_cons_succ, i64_w, i32_w]
                 rfl
                refine last_ (i := 11) (N := some 48) #[true, true, true, true, true, true, true, true, true, true, true, true, false] rfl rfl (one_of HT_.out (by kernel_rfl)) (by decide) (fun K hK => ?_)
                refine match_greatest_fn1.goesV Try.func33 (by kernel_rfl) rfl #[.int .i64 (rd x4_1 x15_1), .pointer (some ⟨g1_, 0, none⟩), .pointer (some ⟨g2_, 0, none⟩), .pointer (some ⟨g3_, 0, none⟩), .pointer (some ⟨g4_, 0, none⟩), .pointer (some ⟨g5_, 0, none⟩)] #[.pointer (some ⟨g1_, 0, none⟩), .pointer (some ⟨g2_, 0, none⟩), .pointer (some ⟨g3_, 0, none⟩), .pointer (some ⟨g4_, 0, none⟩), .pointer (some ⟨g5_, 0, none⟩)] (by rfl) rfl rfl (by first | rfl | (go_simp; rfl)) (by (try simp only [List.map_toArray, List.map_cons, List.map_nil]); first | done | rfl | (simp only [List.length_drop, List.length_take]; rfl)) ?_
                with_reducible refine (ih kj10 (by have := HK1.out; have := HJ10.out; omega) (rd x4_1 x15_1) (some ad489) c1 l1 A2 c2 l2 (fun k_ => some k_ = (.slice (some ⟨go22, 0, none⟩) x3_1.length co22 : Value).ownBlock) (.slice (some ⟨go22, 0, none⟩) x3_1.length co22) y493 (fun k_ => some k_ = (.slice (some ad494) x4_1.length co45 : Value).ownBlock) (.slice (some ad494) x4_1.length co45) x4_1 false t498 t499 w0 _ ?side1 ?side2 ?side3 ?side4 ?side5 ?side6 ?side7 g1_ g2_ g3_ g4_ g5_ ?sg1 ?sg2 ?sg3 ?sg4 ?sg5 ?sn1 ?sn2 ?sn3 ?sn4 ?sn5 A32.out).mono ?_
                (case sg1 => have h_ := cell_kept HG1_.out (by repeat (first | (with_reducible first | exact HK.out | apply Kept.alloc | apply Kept.drewN | apply Kept.drew) | exact HK.out)) HN1_.out; first | exact h_)
                (case sg2 => have h_ := cell_kept HG2_.out (by repeat (first | (with_reducible first | exact HK.out | apply Kept.alloc | apply Kept.drewN | apply Kept.drew) | exact HK.out)) HN2_.out; first | exact h_)
                (case sg3 => have h_ := cell_kept HG3_.out (by repeat (first | (with_reducible first | exact HK.out | apply Kept.alloc | apply Kept.drewN | apply Kept.drew) | exact HK.out)) HN3_.out; first | exact h_)
                (case sg4 => have h_ := cell_kept HG4_.out (by repeat (first | (with_reducible first | exact HK.out | apply Kept.alloc | apply Kept.drewN | apply Kept.drew) | exact HK.out)) HN4_.out; first | exact h_)
                (case sg5 => have h_ := cell_kept HG5_.out (by repeat (first | (with_reducible first | exact HK.out | apply Kept.alloc | apply Kept.drewN | apply Kept.drew) | exact HK.out)) HN5_.out; first | exact h_)
                (case sn1 => exact fun e_ => e_.elim (fun e_ => by first | exact (HO_3.out.1 g1_ e_.symm).elim HN1_.out (fun h_ => Nat.lt_irrefl _ (Nat.lt_of_lt_of_le (World.block_lt_of_cell? w _ HG1_.out) h_)) | exact (HO_3.out.1 g1_ e_.symm).1.elim HN1_.out (fun h_ => Nat.lt_irrefl _ (Nat.lt_of_lt_of_le (World.block_lt_of_cell? w _ HG1_.out) h_)) | exact (HO_3.out.1 g1_ e_.symm).1.1.elim HN1_.out (fun h_ => Nat.lt_irrefl _ (Nat.lt_of_lt_of_le (World.block_lt_of_cell? w _ HG1_.out) h_))) (fun e_ => by first | exact (HO_4.out.1 g1_ e_.symm).elim HN1_.out (fun h_ => Nat.lt_irrefl _ (Nat.lt_of_lt_of_le (World.block_lt_of_cell? w _ HG1_.out) h_)) | exact (HO_4.out.1 g1_ e_.symm).1.elim HN1_.out (fun h_ => Nat.lt_irrefl _ (Nat.lt_of_lt_of_le (World.block_lt_of_cell? w _ HG1_.out) h_)) | exact (HO_4.out.1 g1_ e_.symm).1.1.elim HN1_.out (fun h_ => Nat.lt_irrefl _ (Nat.lt_of_lt_of_le (World.block_lt_of_cell? w _ HG1_.out) h_))))
                (case sn2 => exact fun e_ => e_.elim (fun e_ => by first | exact (HO_3.out.1 g2_ e_.symm).elim HN2_.out (fun h_ => Nat.lt_irrefl _ (Nat.lt_of_lt_of_le (World.block_lt_of_cell? w _ HG2_.out) h_)) | exact (HO_3.out.1 g2_ e_.symm).1.elim HN2_.out (fun h_ => Nat.lt_irrefl _ (Nat.lt_of_lt_of_le (World.block_lt_of_cell? w _ HG2_.out) h_)) | exact (HO_3.out.1 g2_ e_.symm).1.1.elim HN2_.out (fun h_ => Nat.lt_irrefl _ (Nat.lt_of_lt_of_le (World.block_lt_of_cell? w _ HG2_.out) h_))) (fun e_ => by first | exact (HO_4.out.1 g2_ e_.symm).elim HN2_.out (fun h_ => Nat.lt_irrefl _ (Nat.lt_of_lt_of_le (World.block_lt_of_cell? w _ HG2_.out) h_)) | exact (HO_4.out.1 g2_ e_.symm).1.elim HN2_.out (fun h_ => Nat.lt_irrefl _ (Nat.lt_of_lt_of_le (World.block_lt_of_cell? w _ HG2_.out) h_)) | exact (HO_4.out.1 g2_ e_.symm).1.1.elim HN2_.out (fun h_ => Nat.lt_irrefl _ (Nat.lt_of_lt_of_le (World.block_lt_of_cell? w _ HG2_.out) h_))))
                (case sn3 => exact fun e_ => e_.elim (fun e_ => by first | exact (HO_3.out.1 g3_ e_.symm).elim HN3_.out (fun h_ => Nat.lt_irrefl _ (Nat.lt_of_lt_of_le (World.block_lt_of_cell? w _ HG3_.out) h_)) | exact (HO_3.out.1 g3_ e_.symm).1.elim HN3_.out (fun h_ => Nat.lt_irrefl _ (Nat.lt_of_lt_of_le (World.block_lt_of_cell? w _ HG3_.out) h_)) | exact (HO_3.out.1 g3_ e_.symm).1.1.elim HN3_.out (fun h_ => Nat.lt_irrefl _ (Nat.lt_of_lt_of_le (World.block_lt_of_cell? w _ HG3_.out) h_))) (fun e_ => by first | exact (HO_4.out.1 g3_ e_.symm).elim HN3_.out (fun h_ => Nat.lt_irrefl _ (Nat.lt_of_lt_of_le (World.block_lt_of_cell? w _ HG3_.out) h_)) | exact (HO_4.out.1 g3_ e_.symm).1.elim HN3_.out (fun h_ => Nat.lt_irrefl _ (Nat.lt_of_lt_of_le (World.block_lt_of_cell? w _ HG3_.out) h_)) | exact (HO_4.out.1 g3_ e_.symm).1.1.elim HN3_.out (fun h_ => Nat.lt_irrefl _ (Nat.lt_of_lt_of_le (World.block_lt_of_cell? w _ HG3_.out) h_))))
                (case sn4 => exact fun e_ => e_.elim (fun e_ => by first | exact (HO_3.out.1 g4_ e_.symm).elim HN4_.out (fun h_ => Nat.lt_irrefl _ (Nat.lt_of_lt_of_le (World.block_lt_of_cell? w _ HG4_.out) h_)) | exact (HO_3.out.1 g4_ e_.symm).1.elim HN4_.out (fun h_ => Nat.lt_irrefl _ (Nat.lt_of_lt_of_le (World.block_lt_of_cell? w _ HG4_.out) h_)) | exact (HO_3.out.1 g4_ e_.symm).1.1.elim HN4_.out (fun h_ => Nat.lt_irrefl _ (Nat.lt_of_lt_of_le (World.block_lt_of_cell? w _ HG4_.out) h_))) (fun e_ => by first | exact (HO_4.out.1 g4_ e_.symm).elim HN4_.out (fun h_ => Nat.lt_irrefl _ (Nat.lt_of_lt_of_le (World.block_lt_of_cell? w _ HG4_.out) h_)) | exact (HO_4.out.1 g4_ e_.symm).1.elim HN4_.out (fun h_ => Nat.lt_irrefl _ (Nat.lt_of_lt_of_le (World.block_lt_of_cell? w _ HG4_.out) h_)) | exact (HO_4.out.1 g4_ e_.symm).1.1.elim HN4_.out (fun h_ => Nat.lt_irrefl _ (Nat.lt_of_lt_of_le (World.block_lt_of_cell? w _ HG4_.out) h_))))
                (case sn5 => exact fun e_ => e_.elim (fun e_ => by first | exact (HO_3.out.1 g5_ e_.symm).elim HN5_.out (fun h_ => Nat.lt_irrefl _ (Nat.lt_of_lt_of_le (World.block_lt_of_cell? w _ HG5_.out) h_)) | exact (HO_3.out.1 g5_ e_.symm).1.elim HN5_.out (fun h_ => Nat.lt_irrefl _ (Nat.lt_of_lt_of_le (World.block_lt_of_cell? w _ HG5_.out) h_)) | exact (HO_3.out.1 g5_ e_.symm).1.1.elim HN5_.out (fun h_ => Nat.lt_irrefl _ (Nat.lt_of_lt_of_le (World.block_lt_of_cell? w _ HG5_.out) h_))) (fun e_ => by first | exact (HO_4.out.1 g5_ e_.symm).elim HN5_.out (fun h_ => Nat.lt_irrefl _ (Nat.lt_of_lt_of_le (World.block_lt_of_cell? w _ HG5_.out) h_)) | exact (HO_4.out.1 g5_ e_.symm).1.elim HN5_.out (fun h_ => Nat.lt_irrefl _ (Nat.lt_of_lt_of_le (World.block_lt_of_cell? w _ HG5_.out) h_)) | exact (HO_4.out.1 g5_ e_.symm).1.1.elim HN5_.out (fun h_ => Nat.lt_irrefl _ (Nat.lt_of_lt_of_le (World.block_lt_of_cell? w _ HG5_.out) h_))))
                (case side1 => repeat (first | (with_reducible first | exact HB.out | apply below_alloc | apply pw_below_drewN | apply below_drew1) | exact HB.out))
                (case side2 => exact HR1.out)
                (case side3 => exact HC1.out)
                (case side4 => exact HR2.out)
                (case side5 => exact HC2.out)
                (case side6 => exact Kd.R_tight rfl HO_3.out)
                (case side7 => exact Kd.R_tight rfl HO_4.out)
                rintro e w46 ⟨rfl, hy0, hy1, hb, hkp⟩
                refine ⟨_, rfl, ?_⟩
                have n0_ := Aside0.mk (Kd.R_reok rfl hy0 (fun k_ e_ => HO_3.out.1 k_ e_))
                have n1_ := Aside0.mk (Kd.R_reok rfl hy1 (fun k_ e_ => HO_4.out.1 k_ e_))
                have n2_ := Aside0.mk (Kept.then_ (S := (fun k_ => P3_ k_ ∨ P4_ k_)) (by repeat (first | (with_reducible first | exact HK.out | apply Kept.alloc | apply Kept.drewN | apply Kept.drew) | exact HK.out)) hkp (fun k_ hs_ => Or.elim hs_ (fun e_ => (fun e_ => (HO_3.out.1 k_ e_.symm)) e_) (fun e_ => (fun e_ => (HO_4.out.1 k_ e_.symm)) e_)))
                have n3_ := Aside0.mk (hb)
                clear HO_3
                clear HO_4
                clear HK
                clear HB
                have HO_3 := n0_
                have hl_HO_3 := Aside0.mk (Kd.R_reads' HO_3.out).1
                have HO_4 := n1_
                have hl_HO_4 := Aside0.mk (Kd.R_reads' HO_4.out).1
                have HK := n2_
                have hq24_0 := cell_kept HG1_.out HK.out HN1_.out
                have hq24_1 := cell_kept HG2_.out HK.out HN2_.out
                have hq24_2 := cell_kept HG3_.out HK.out HN3_.out
                have hq24_3 := cell_kept HG4_.out HK.out HN4_.out
                have hq24_4 := cell_kept HG5_.out HK.out HN5_.out
                have HB := n3_
                clear n0_ n1_ n2_ n3_
                (try clear hb)
                (try clear hkp)
                (try clear hy0)
                (try clear hy1)
                refine hK.out _ _ ?_
                clear hK K
                refine norm_ (a' := ?_) ?_ ?_
                rotate_left
                ·
                 show Act.put _ (some 48) _ = _
                 simp only [Act.put, List.setIfInBounds_toArray, List.set_cons_zero, List.set_cons_succ, i64_w, i32_w]
                 rfl
                refine pure_ (i := 12) (N := some 49) (v := ?_) (a' := ?_) #[true, true, true, true, true, true, true, true, true, true, true, true, true] rfl rfl (any_of HT_.out (by kernel_rfl)) (fun _ _ _ h => h) (Or.inl ⟨by rfl, ?_⟩) ?_ ?_
                rotate_left
                ·
                 intro w'
                 go_simp
                 with_reducible rfl
                rotate_left
                ·
                 simp only [Act.put, List.setIfInBounds_toArray, List.set_cons_zero, List.set_cons_succ, i64_w, i32_w]
                 rfl
                refine done_ (done_of HT_.out (by kernel_rfl)) ?_
                have hq25_0 := cell_kept HG1_.out HK.out HN1_.out
                have hq25_1 := cell_kept HG2_.out HK.out HN2_.out
                have hq25_2 := cell_kept HG3_.out HK.out HN3_.out
                have hq25_3 := cell_kept HG4_.out HK.out HN4_.out
                have hq25_4 := cell_kept HG5_.out HK.out HN5_.out
                try go_wp2
                go_roundg kj10
                case measure => have := HK1.out; have := HJ10.out; omega
                case rel => exact ⟨(t498), (t499), (wrap64 (x15_1 + 1)), (by first | rfl | (simp; done) | (simp [*]; done)), H', ⟨by have := HK1.out; have := HJ10.out; omega⟩, ⟨by (with_reducible repeat (first | apply Kd.R_alloc | apply Kd.R_drewN | apply Kd.R_drew)); exact HO_3.out⟩, ⟨by (with_reducible repeat (first | apply Kd.R_alloc | apply Kd.R_drewN | apply Kd.R_drew)); exact HO_4.out⟩, ⟨by repeat (first | (with_reducible first | exact HK.out | apply Kept.alloc | apply Kept.drewN | apply Kept.drew) | exact HK.out)⟩, ⟨by repeat (first | (with_reducible first | exact HB.out | apply below_alloc | apply pw_below_drewN | apply below_drew1) | exact HB.out)⟩⟩
             ·
              rw [if_neg c23] at H
              exact absurd H (by simp)
            ·
             rw [if_neg c21] at H
             exact absurd H (by simp)
           ·
            rw [if_neg c20] at H
            exact absurd H (by simp)
       ·
        rw [if_neg c10] at H
        exact absurd H (by simp)
      ·
       rw [if_neg c9] at H
       exact absurd H (by simp)
     ·
      rw [if_neg c8] at H
      have c8b0 : decide (x15_1 < ((rd_L3 l1 a0).length : Int)) = false := decide_eq_false c8
      clear c8
      simp only [Option.some.injEq, Prod.mk.injEq] at H
      obtain ⟨rfl, rfl, rfl⟩ := H
      have hq26_0 := cell_kept HG1_.out HK.out HN1_.out
      have hq26_1 := cell_kept HG2_.out HK.out HN2_.out
      have hq26_2 := cell_kept HG3_.out HK.out HN3_.out
      have hq26_3 := cell_kept HG4_.out HK.out HN4_.out
      have hq26_4 := cell_kept HG5_.out HK.out HN5_.out
      go_wp2
      go_ret
      exact ⟨by first | rfl | (simp [errW_none, errW_some] <;> rfl) | (simp [*, errW_none, errW_some] <;> rfl), by (with_reducible repeat (first | apply Kd.R_alloc | apply Kd.R_drewN | apply Kd.R_drew)); exact HO_3.out, by (with_reducible repeat (first | apply Kd.R_alloc | apply Kd.R_drewN | apply Kd.R_drew)); exact HO_4.out, by repeat (first | (with_reducible first | exact HB.out | apply below_alloc | apply pw_below_drewN | apply below_drew1) | exact HB.out), by repeat (first | (with_reducible first | exact HK.out | apply Kept.alloc | apply Kept.drewN | apply Kept.drew) | exact HK.out)⟩
  ·
   rw [if_neg c7] at H
   exact absurd H (by simp)
 ·
  rw [if_neg c6] at H
  exact absurd H (by simp)
end Go.Proofs.Ytbmflpflmjfabaa.PAll
