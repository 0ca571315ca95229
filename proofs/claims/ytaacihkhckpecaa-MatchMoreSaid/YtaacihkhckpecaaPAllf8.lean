-- Written by wip/tools/handprint.py: walks of the functions that the law reaches; Lean checks them.
import Derived.Test.YtaacihkhckpecaaPAllx0
import Derived.Test.YtaacihkhckpecaaPAllf11
import Derived.Test.YtaacihkhckpecaaPAllf15
namespace Go.Proofs.Ytaacihkhckpecaa.PAll
open Go.RowKit Go.Proofs.YtaacihkhckpecaaW.PrintWords Go.Proofs.YtaacihkhckpecaaW.PrintLast Go.Proofs.YtaacihkhckpecaaW.PrintMore
attribute [local go_sem] max2_int min2_int max_two min_two max_three min_three max_four min_four   -- for this text's walks alone
set_option linter.unusedVariables false
set_option linter.unusedSimpArgs false

/-! ### dancestudiolaw10_MatchMore: function 8 -/
mutual
def dancestudiolaw10_MatchMore.j0 : Nat → List (List Bool) → Int → Int → Int → Bool → Option (Bool)
 | 0, _, _, _, _, _ => none
 | k + 1, x0, x1, x2, x7, x41 => if x41 = true then ((dancestudiolaw10_awake.f k).bind fun t472 => (some t472)) else (dancestudiolaw10_MatchMore.l0 k x0 x1 x2 x7 (([] : List (List Bool))) 0)
def dancestudiolaw10_MatchMore.l0 : Nat → List (List Bool) → Int → Int → Int → List (List Bool) → Int → Option (Bool)
 | 0, _, _, _, _, _, _ => none
 | k + 1, x0, x1, x2, x7, x9, x10 => if x10 < (x0.length : Int) then ((some (([] : List Bool) : List Bool)).bind fun y476 => (if 0 ≤ x10 then (if y476.length + (rd_L1 x0 x10).length < 140737488355328 then (if x9.length < 5864062014805 then (dancestudiolaw10_MatchMore.l0 k x0 x1 x2 x7 (x9 ++ [(y476 ++ (rd_L1 x0 x10))]) (wrap64 (x10 + 1))) else (none)) else (none)) else (none))) else (if 0 ≤ x1 then (if x1 < (x9.length : Int) then (if 0 ≤ x2 then (if x2 < ((rd_L1 x9 x1).length : Int) then ((match_Size.f k (x9.set (x1 : Int).toNat ((rd_L1 x9 x1).set (x2 : Int).toNat true))).bind fun bt490 => (if bt490.2 = 0 then (if bt490.1 = x7 then ((dancestudiolaw10_awake.f k).bind fun t492 => (some t492)) else (if bt490.1 = (wrap64 (x7 + 1)) then (if x1 < (x0.length : Int) then (if x2 < ((rd_L1 x0 x1).length : Int) then (if (rdOf false (rd_L1 x0 x1) x2 = true) then (none) else ((dancestudiolaw10_awake.f k).bind fun t495 => (some t495))) else (none)) else (none)) else (none))) else (none))) else (none)) else (none)) else (none)) else (none))
end
def dancestudiolaw10_MatchMore.f (k : Nat) (l0 : List (List Bool)) (a1 : Int) (a2 : Int) : Option (Bool) := (match_Size.f k l0).bind fun bt469 => (if bt469.2 = 0 then (if a1 < 0 then (dancestudiolaw10_MatchMore.j0 k l0 a1 a2 bt469.1 true) else (if a1 ≥ (l0.length : Int) then (dancestudiolaw10_MatchMore.j0 k l0 a1 a2 bt469.1 true) else (if a2 < 0 then (dancestudiolaw10_MatchMore.j0 k l0 a1 a2 bt469.1 true) else (if 0 ≤ a1 then (if a1 < (l0.length : Int) then (dancestudiolaw10_MatchMore.j0 k l0 a1 a2 bt469.1 (decide (a2 ≥ ((rd_L1 l0 a1).length : Int)))) else (none)) else (none))))) else (dancestudiolaw10_MatchMore.j0 k l0 a1 a2 bt469.1 true))
theorem dancestudiolaw10_MatchMore.mono_l : ∀ k, (∀ y0 y1 y2 y3 y4, LeO (dancestudiolaw10_MatchMore.j0 k y0 y1 y2 y3 y4) (dancestudiolaw10_MatchMore.j0 (k + 1) y0 y1 y2 y3 y4)) ∧ (∀ y0 y1 y2 y3 y4 y5, LeO (dancestudiolaw10_MatchMore.l0 k y0 y1 y2 y3 y4 y5) (dancestudiolaw10_MatchMore.l0 (k + 1) y0 y1 y2 y3 y4 y5))
 | 0 => ⟨fun _ _ _ _ _ r h => by simp [dancestudiolaw10_MatchMore.j0] at h, fun _ _ _ _ _ _ r h => by simp [dancestudiolaw10_MatchMore.l0] at h⟩
 | k + 1 => by
  obtain ⟨ih0, ih1⟩ := dancestudiolaw10_MatchMore.mono_l k
  refine ⟨?_, ?_⟩
  ·
   intro y0 y1 y2 y3 y4
   unfold dancestudiolaw10_MatchMore.j0
   repeat' first
   | (with_reducible exact ih0 _ _ _ _ _)
   | (with_reducible exact ih1 _ _ _ _ _ _)
   | (with_reducible exact dancestudiolaw10_awake.mono _)
   | (with_reducible exact match_Size.mono _ _)
   | (with_reducible exact LeO.refl _)
   | (with_reducible exact LeO.none _)
   | (with_reducible refine LeO.ite ?_ ?_)
   | (with_reducible refine LeO.bind ?_ (fun _ => ?_))
   | exact ih0 _ _ _ _ _
   | exact ih1 _ _ _ _ _ _
   | exact dancestudiolaw10_awake.mono _
   | exact match_Size.mono _ _
   | exact LeO.none _
   | refine LeO.ite ?_ ?_
   | refine LeO.bind ?_ (fun _ => ?_)
  ·
   intro y0 y1 y2 y3 y4 y5
   unfold dancestudiolaw10_MatchMore.l0
   repeat' first
   | (with_reducible exact ih0 _ _ _ _ _)
   | (with_reducible exact ih1 _ _ _ _ _ _)
   | (with_reducible exact dancestudiolaw10_awake.mono _)
   | (with_reducible exact match_Size.mono _ _)
   | (with_reducible exact LeO.refl _)
   | (with_reducible exact LeO.none _)
   | (with_reducible refine LeO.ite ?_ ?_)
   | (with_reducible refine LeO.bind ?_ (fun _ => ?_))
   | exact ih0 _ _ _ _ _
   | exact ih1 _ _ _ _ _ _
   | exact dancestudiolaw10_awake.mono _
   | exact match_Size.mono _ _
   | exact LeO.none _
   | refine LeO.ite ?_ ?_
   | refine LeO.bind ?_ (fun _ => ?_)
theorem dancestudiolaw10_MatchMore.mono : ∀ a0 a1 a2 k, LeO (dancestudiolaw10_MatchMore.f k a0 a1 a2) (dancestudiolaw10_MatchMore.f (k + 1) a0 a1 a2) := by
 intro a0 a1 a2 k
 obtain ⟨ih0, ih1⟩ := dancestudiolaw10_MatchMore.mono_l k
 unfold dancestudiolaw10_MatchMore.f
 repeat' first
   | (with_reducible exact ih0 _ _ _ _ _)
   | (with_reducible exact ih1 _ _ _ _ _ _)
   | (with_reducible exact dancestudiolaw10_awake.mono _)
   | (with_reducible exact match_Size.mono _ _)
   | (with_reducible exact LeO.refl _)
   | (with_reducible exact LeO.none _)
   | (with_reducible refine LeO.ite ?_ ?_)
   | (with_reducible refine LeO.bind ?_ (fun _ => ?_))
   | exact ih0 _ _ _ _ _
   | exact ih1 _ _ _ _ _ _
   | exact dancestudiolaw10_awake.mono _
   | exact match_Size.mono _ _
   | exact LeO.none _
   | refine LeO.ite ?_ ?_
   | refine LeO.bind ?_ (fun _ => ?_)
set_option maxHeartbeats 8000000 in
set_option maxRecDepth 100000 in
theorem dancestudiolaw10_MatchMore.calls (k : Nat) (A0 : Option Addr) (c0 : Nat) (l0 : List (List Bool)) (a1 : Int) (a2 : Int) (r : Bool) (w : World) (hr0 : Kd.C (Kd.slice 4 Kd.bool) w A0 l0.length l0) (hc0 : l0.length ≤ c0) (h : dancestudiolaw10_MatchMore.f k l0 a1 a2 = some r) :
  Calls Try.prog 8 #[.slice A0 l0.length c0, .int .i64 a1, .int .i64 a2] w fun e w' => e = .returned (.bool r) ∧ Below w.heap.size w w' := by
 have HR0 := Aside0.mk hr0
 have HC0 := Aside0.mk hc0
 clear hr0 hc0
 have HB := Aside0.mk (Below.refl w.heap.size w)
 have H : ((match_Size.f k l0).bind fun bt469 => (if bt469.2 = 0 then (if a1 < 0 then (dancestudiolaw10_MatchMore.j0 k l0 a1 a2 bt469.1 true) else (if a1 ≥ (l0.length : Int) then (dancestudiolaw10_MatchMore.j0 k l0 a1 a2 bt469.1 true) else (if a2 < 0 then (dancestudiolaw10_MatchMore.j0 k l0 a1 a2 bt469.1 true) else (if 0 ≤ a1 then (if a1 < (l0.length : Int) then (dancestudiolaw10_MatchMore.j0 k l0 a1 a2 bt469.1 (decide (a2 ≥ ((rd_L1 l0 a1).length : Int)))) else (none)) else (none))))) else (dancestudiolaw10_MatchMore.j0 k l0 a1 a2 bt469.1 true))) = some r := h
 clear h
 replace H := Option.bind_eq_some_iff.mp H
 obtain ⟨⟨t469, t470⟩, A40, H⟩ := H
 replace H : (if t470 = 0 then (if a1 < 0 then (dancestudiolaw10_MatchMore.j0 k l0 a1 a2 t469 true) else (if a1 ≥ (l0.length : Int) then (dancestudiolaw10_MatchMore.j0 k l0 a1 a2 t469 true) else (if a2 < 0 then (dancestudiolaw10_MatchMore.j0 k l0 a1 a2 t469 true) else (if 0 ≤ a1 then (if a1 < (l0.length : Int) then (dancestudiolaw10_MatchMore.j0 k l0 a1 a2 t469 (decide (a2 ≥ ((rd_L1 l0 a1).length : Int)))) else (none)) else (none))))) else (dancestudiolaw10_MatchMore.j0 k l0 a1 a2 t469 true)) = some r := H
 have A4 := Aside0.mk A40
 clear A40
 have HC5 := Aside0.mk H
 clear H
 go_enter Try.func8, Try.ntmps8
 go_upto_region 2 with (first | ((with_reducible refine gate_callee (f := 11) rfl ?_); refine goesL_ (some 14) rfl rfl Try.func11 (by kernel_rfl) rfl #[.slice A0 l0.length c0] rfl (by (try simp only [List.map_toArray, List.map_cons, List.map_nil]); first | done | rfl | (simp only [List.length_drop, List.length_take]; rfl)) ?_; (with_reducible refine (match_Size.calls k _ _ l0 t469 t470 _ ?side1 ?side2 A4.out).mono ?_); (case side1 => repeat (first | exact HR0.out | (with_reducible refine Kd.C_alloc ?_ _) | (with_reducible refine Kd.C_drewN ?_ _) | (with_reducible refine Kd.C_drew ?_))); (case side2 => exact HC0.out); rintro e w6 ⟨rfl, hb⟩; refine ⟨_, rfl, ?_⟩; have n0_ := Aside0.mk (below_step (by repeat (first | (with_reducible first | exact HB.out | apply below_alloc | apply pw_below_drewN | apply below_drew1) | exact HB.out)) hb); clear HB; have HB := n0_; clear n0_; (try clear hb); (try clear hb2); (try clear hk); (try clear hi)))
 (try simp only [Act.put, List.setIfInBounds_toArray, List.set_cons_zero, List.set_cons_succ])
 go_cut [41] (fun v41 wc => ∃ (kq : Nat) (x41_4 : Bool), v41 = .bool x41_4 ∧ Aside0 (dancestudiolaw10_MatchMore.j0 kq l0 a1 a2 t469 x41_4 = some r) ∧ Aside0 (kq ≤ k) ∧ Aside0 (Below w.heap.size w wc))
 case first =>
  have H := HC5.out
  clear HC5
  by_cases c7 : t470 = 0
  ·
   rw [if_pos c7] at H
   have c7b0 : (t470 == 0) = true := beq_iff_eq.mpr c7
   have c7b1 : (t470 != 0) = false := bne_eq_false_iff_eq.mpr c7
   clear c7
   (first | rw [c7b0] | (simp only [i64_w, i32_w]; rw [c7b0]) | skip)
   by_cases c8 : a1 < 0
   ·
    rw [if_pos c8] at H
    have c8b0 : decide (a1 < 0) = true := decide_eq_true c8
    clear c8
    have H' := Aside0.mk H
    clear H
    go_wp2
    go_meet
    case rel => exact ⟨_, (true), (by first | rfl | (simp; done) | (simp [*]; done)), H', ⟨by first | omega | exact Nat.le_refl _⟩, ⟨by repeat (first | (with_reducible first | exact HB.out | apply below_alloc | apply pw_below_drewN | apply below_drew1) | exact HB.out)⟩⟩
   ·
    rw [if_neg c8] at H
    have c8b0 : decide (a1 < 0) = false := decide_eq_false c8
    clear c8
    by_cases c9 : a1 ≥ (l0.length : Int)
    ·
     rw [if_pos c9] at H
     have c9b0 : decide ((l0.length : Int) ≤ a1) = true := decide_eq_true c9
     clear c9
     have H' := Aside0.mk H
     clear H
     go_wp2
     go_meet
     case rel => exact ⟨_, (true), (by first | rfl | (simp; done) | (simp [*]; done)), H', ⟨by first | omega | exact Nat.le_refl _⟩, ⟨by repeat (first | (with_reducible first | exact HB.out | apply below_alloc | apply pw_below_drewN | apply below_drew1) | exact HB.out)⟩⟩
    ·
     rw [if_neg c9] at H
     have c9b0 : decide ((l0.length : Int) ≤ a1) = false := decide_eq_false c9
     clear c9
     by_cases c10 : a2 < 0
     ·
      rw [if_pos c10] at H
      have c10b0 : decide (a2 < 0) = true := decide_eq_true c10
      clear c10
      have H' := Aside0.mk H
      clear H
      go_wp2
      go_meet
      case rel => exact ⟨_, (true), (by first | rfl | (simp; done) | (simp [*]; done)), H', ⟨by first | omega | exact Nat.le_refl _⟩, ⟨by repeat (first | (with_reducible first | exact HB.out | apply below_alloc | apply pw_below_drewN | apply below_drew1) | exact HB.out)⟩⟩
     ·
      rw [if_neg c10] at H
      have c10b0 : decide (a2 < 0) = false := decide_eq_false c10
      clear c10
      by_cases c11 : 0 ≤ a1
      ·
       rw [if_pos c11] at H
       have c11b0 : decide (0 ≤ a1) = true := decide_eq_true c11
       clear c11
       by_cases c12 : a1 < (l0.length : Int)
       ·
        rw [if_pos c12] at H
        have c12b0 : decide (a1 < (l0.length : Int)) = true := decide_eq_true c12
        clear c12
        have H' := Aside0.mk H
        clear H
        have p471 : 0 ≤ (a1 : Int) := of_decide_eq_true (by first | (with_reducible assumption) | assumption)
        have q471 : a1 < (l0.length : Int) := of_decide_eq_true (by first | (with_reducible assumption) | assumption)
        obtain ⟨ad471, A471_0, c471_0, e471, hx471_0, hl471_0, hi471_0⟩ := at_L1 HR0.out a1 p471 q471
        cases e471
        replace hx471_0 := (HB.out.cell (World.block_lt_of_cell? w _ hx471_0)).trans hx471_0
        have HR471_0 := Aside0.mk hi471_0
        have HC471_0 := Aside0.mk hl471_0
        clear hi471_0 hl471_0
        replace p471 := eq_true p471
        replace q471 := eq_true q471
        go_wp2
        go_meet
        case rel => exact ⟨_, (decide (a2 ≥ ((rd_L1 l0 a1).length : Int))), (by first | rfl | (simp; done) | (simp [*]; done)), H', ⟨by first | omega | exact Nat.le_refl _⟩, ⟨by repeat (first | (with_reducible first | exact HB.out | apply below_alloc | apply pw_below_drewN | apply below_drew1) | exact HB.out)⟩⟩
       ·
        rw [if_neg c12] at H
        exact absurd H (by simp)
      ·
       rw [if_neg c11] at H
       exact absurd H (by simp)
  ·
   rw [if_neg c7] at H
   have c7b0 : (t470 == 0) = false := beq_eq_false_iff_ne.mpr c7
   have c7b1 : (t470 != 0) = true := bne_iff_ne.mpr c7
   (first | rw [c7b0] | (simp only [i64_w, i32_w]; rw [c7b0]) | skip)
   have H' := Aside0.mk H
   clear H
   go_wp2
   go_meet
   case rel => exact ⟨_, (true), (by first | rfl | (simp; done) | (simp [*]; done)), H', ⟨by first | omega | exact Nat.le_refl _⟩, ⟨by repeat (first | (with_reducible first | exact HB.out | apply below_alloc | apply pw_below_drewN | apply below_drew1) | exact HB.out)⟩⟩
 case rest =>
  clear HC5
  try clear c1
  try clear p2
  try clear c4
  try clear p4
  try clear q4
  try clear hx4
  try clear c7
  try clear c7b0
  try clear c7b1
  try clear c8
  try clear c8b0
  try clear c9
  try clear c9b0
  try clear c10
  try clear c10b0
  try clear c11
  try clear c11b0
  try clear c12
  try clear c12b0
  try clear hx471_0
  try clear p471
  try clear q471
  obtain ⟨kq, x41_4, rfl, HA, HJ4, HB⟩ := hcut
  cases kq with
  | zero => exact absurd HA.out (by simp [dancestudiolaw10_MatchMore.j0])
  | succ kj4 =>
   have H := HA.out
   clear HA
   simp only [dancestudiolaw10_MatchMore.j0] at H
   by_cases c13 : x41_4 = true
   ·
    subst c13
    have H1 : ((dancestudiolaw10_awake.f kj4).bind fun t472 => (some t472)) = some r := by rw [if_pos rfl] at H; exact H
    clear H
    have H := H1
    clear H1
    replace H := Option.bind_eq_some_iff.mp H
    obtain ⟨t472, A140, H⟩ := H
    replace H : (some t472) = some r := H
    have A14 := Aside0.mk A140
    clear A140
    obtain rfl := Option.some.inj H
    go_wp2_with (first | ((with_reducible refine gate_callee (f := 15) rfl ?_); refine goesL_ (some 42) rfl rfl Try.func15 (by kernel_rfl) rfl #[] rfl (by (try simp only [List.map_toArray, List.map_cons, List.map_nil]); first | done | rfl | (simp only [List.length_drop, List.length_take]; rfl)) ?_; (with_reducible refine (dancestudiolaw10_awake.calls kj4  t472 _ A14.out).mono ?_); rintro e w15 ⟨rfl, hb⟩; refine ⟨_, rfl, ?_⟩; have n0_ := Aside0.mk (below_step (by repeat (first | (with_reducible first | exact HB.out | apply below_alloc | apply pw_below_drewN | apply below_drew1) | exact HB.out)) hb); clear HB; have HB := n0_; clear n0_; (try clear hb); (try clear hb2); (try clear hk); (try clear hi)))
    go_ret
    exact ⟨by first | rfl | (simp [errW_none, errW_some] <;> rfl) | (simp [*, errW_none, errW_some] <;> rfl), by repeat (first | (with_reducible first | exact HB.out | apply below_alloc | apply pw_below_drewN | apply below_drew1) | exact HB.out)⟩
   ·
    replace c13 := Bool.eq_false_iff.mpr c13
    subst c13
    have H1 : (dancestudiolaw10_MatchMore.l0 kj4 l0 a1 a2 t469 (([] : List (List Bool))) 0) = some r := by rw [if_neg (show ¬ (false = true) by decide)] at H; exact H
    clear H
    have H := H1
    clear H1
    obtain ⟨y473, hy473⟩ : ∃ y_ : List (List Bool), y_ = (([] : List (List Bool))) := ⟨_, rfl⟩
    replace H : (dancestudiolaw10_MatchMore.l0 kj4 l0 a1 a2 t469 y473 0) = some r := by first | (rw [hy473]; with_reducible exact H) | (have H2_ := (Option.bind_some _ _).symm.trans H; rw [hy473]; with_reducible exact H2_) | (have H2_ := (Option.bind_some _ _).symm.trans H; with_reducible exact H2_) | with_reducible exact H | (rw [hy473]; exact H) | exact H
    have Ny473 := Aside0.mk hy473
    clear hy473
    have H' := Aside0.mk H
    clear H
    go_wp2_with (first | ((with_reducible refine gate_dst (N := 43) rfl ?_); (try (refine gate_guard (by rfl) ?_; dsimp only)); refine Kd.S_lit (Kd.slice 4 Kd.bool) _ 38 ?hg (N := 43) ?hd (xs := ([] : List (List Bool))) (inner := []) (ok := fun _ => True) (okp := fun _ => True) ?hr ?hp (fun _ hk => hk) trivial (Below.refl _ _) (Nat.le_refl _) (by simp) ?_; (case hd => rfl); (case hg => rfl); (case hr => first | (go_simp; done) | (go_simp; rfl)); (case hp => exact (Reps.none _ _)); intro v474 w16 ho17 hb hg_ hnew_; clear hg_ hnew_; (first | rw [← Ny473.out] at ho17 | (simp only [Int.reduceToNat] at ho17; rw [← Ny473.out] at ho17)); have n0_ := Aside0.mk (Kd.S_lower ho17 (below_size (by repeat (first | (with_reducible first | exact HB.out | apply below_alloc | apply pw_below_drewN | apply below_drew1) | exact HB.out)))); have n1_ := Aside0.mk (below_step (by repeat (first | (with_reducible first | exact HB.out | apply below_alloc | apply pw_below_drewN | apply below_drew1) | exact HB.out)) hb); clear HB; have HO475 := n0_; have HB := n1_; clear n0_ n1_; clear hb ho17))
    go_loopg [9, 10] kj4 (fun kq v9 v10 w' => ∃ (x9_2 : List (List Bool)) (x10_2 : Int), v10 = .int .i64 x10_2 ∧ Aside0 (dancestudiolaw10_MatchMore.l0 kq l0 a1 a2 t469 x9_2 x10_2 = some r) ∧ Aside0 (kq ≤ kj4) ∧ Aside0 (Kd.S (Kd.slice 4 Kd.bool) 38 w' w.heap.size (fun _ => True) v9 x9_2) ∧ Aside0 (Below w.heap.size w w'))
    case atStart => exact ⟨(y473), (0), (by first | rfl | (simp; done) | (simp [*]; done)), H', ⟨Nat.le_refl _⟩, ⟨by (with_reducible repeat (first | apply Kd.S_alloc | apply Kd.S_drewN | apply Kd.S_drew)); exact HO475.out⟩, ⟨by repeat (first | (with_reducible first | exact HB.out | apply below_alloc | apply pw_below_drewN | apply below_drew1) | exact HB.out)⟩⟩
    case round =>
     clear H'
     try clear c1
     try clear p2
     try clear c4
     try clear p4
     try clear q4
     try clear hx4
     try clear c7
     try clear c7b0
     try clear c7b1
     try clear c8
     try clear c8b0
     try clear c9
     try clear c9b0
     try clear c10
     try clear c10b0
     try clear c11
     try clear c11b0
     try clear c12
     try clear c12b0
     try clear c13
     try clear c15
     try clear hx471_0
     try clear p2
     try clear p4
     try clear p471
     try clear q4
     try clear q471
     obtain ⟨x9_2, x10_2, rfl, HA, HK2, HO_9, HB⟩ := hrel
     cases gk with
     | zero => exact absurd HA.out (by simp [dancestudiolaw10_MatchMore.l0])
     | succ k2 =>
      have H := HA.out
      clear HA
      simp only [dancestudiolaw10_MatchMore.l0] at H
      by_cases c18 : x10_2 < (l0.length : Int)
      ·
       rw [if_pos c18] at H
       have c18b0 : decide (x10_2 < (l0.length : Int)) = true := decide_eq_true c18
       clear c18
       obtain ⟨y476, hy476⟩ : ∃ y_ : List Bool, y_ = (([] : List Bool)) := ⟨_, rfl⟩
       replace H : (if 0 ≤ x10_2 then (if y476.length + (rd_L1 l0 x10_2).length < 140737488355328 then (if x9_2.length < 5864062014805 then (dancestudiolaw10_MatchMore.l0 k2 l0 a1 a2 t469 (x9_2 ++ [(y476 ++ (rd_L1 l0 x10_2))]) (wrap64 (x10_2 + 1))) else (none)) else (none)) else (none)) = some r := by first | (rw [hy476]; with_reducible exact H) | (have H2_ := (Option.bind_some _ _).symm.trans H; rw [hy476]; with_reducible exact H2_) | (have H2_ := (Option.bind_some _ _).symm.trans H; with_reducible exact H2_) | with_reducible exact H | (rw [hy476]; exact H) | exact H
       have Ny476 := Aside0.mk hy476
       clear hy476
       by_cases c19 : 0 ≤ x10_2
       ·
        rw [if_pos c19] at H
        have c19b0 : decide (0 ≤ x10_2) = true := decide_eq_true c19
        clear c19
        by_cases c20 : y476.length + (rd_L1 l0 x10_2).length < 140737488355328
        ·
         rw [if_pos c20] at H
         have LMc20 := Aside0.mk c20
         clear c20
         obtain ⟨y480, hy480⟩ : ∃ y_ : List Bool, y_ = (y476 ++ (rd_L1 l0 x10_2)) := ⟨_, rfl⟩
         replace H : (if x9_2.length < 5864062014805 then (dancestudiolaw10_MatchMore.l0 k2 l0 a1 a2 t469 (x9_2 ++ [y480]) (wrap64 (x10_2 + 1))) else (none)) = some r := by first | (rw [hy480]; with_reducible exact H) | (have H2_ := (Option.bind_some _ _).symm.trans H; rw [hy480]; with_reducible exact H2_) | (have H2_ := (Option.bind_some _ _).symm.trans H; with_reducible exact H2_) | with_reducible exact H | (rw [hy480]; exact H) | exact H
         have Ny480 := Aside0.mk hy480
         clear hy480
         by_cases c21 : x9_2.length < 5864062014805
         ·
          rw [if_pos c21] at H
          have LMc21 := Aside0.mk c21
          clear c21
          obtain ⟨y483, hy483⟩ : ∃ y_ : List (List Bool), y_ = (x9_2 ++ [y480]) := ⟨_, rfl⟩
          replace H : (dancestudiolaw10_MatchMore.l0 k2 l0 a1 a2 t469 y483 (wrap64 (x10_2 + 1))) = some r := by first | (rw [hy483]; with_reducible exact H) | (have H2_ := (Option.bind_some _ _).symm.trans H; rw [hy483]; with_reducible exact H2_) | (have H2_ := (Option.bind_some _ _).symm.trans H; with_reducible exact H2_) | with_reducible exact H | (rw [hy483]; exact H) | exact H
          have Ny483 := Aside0.mk hy483
          clear hy483
          have H' := Aside0.mk H
          clear H
          go_wp2_with (first | ((with_reducible refine gate_dst (N := 51) rfl ?_); (try (refine gate_guard (by rfl) ?_; dsimp only)); refine Kd.R_lit Kd.bool _ 4 ?hg (N := 51) ?hd (xs := ([] : List Bool)) (inner := []) (ok := fun _ => True) (okp := fun _ => True) ?hr ?hp (fun _ hk => hk) trivial (Below.refl _ _) (Nat.le_refl _) (by simp) ?_; (case hd => rfl); (case hg => rfl); (case hr => first | (go_simp; done) | (go_simp; rfl)); (case hp => exact (Reps.none _ _)); intro v477 w22 ho23 hb hg_ hnew_; clear hg_ hnew_; (first | rw [← Ny476.out] at ho23 | (simp only [Int.reduceToNat] at ho23; rw [← Ny476.out] at ho23)); have n0_ := Aside0.mk (Kd.S_elder' (by (with_reducible repeat (first | apply Kd.S_alloc | apply Kd.S_drewN | apply Kd.S_drew)); exact HO_9.out) (Kd.R_base ho23) hb); have n1_ := Aside0.mk (Kd.R_lower ho23 (below_size (by repeat (first | (with_reducible first | exact HB.out | apply below_alloc | apply pw_below_drewN | apply below_drew1) | exact HB.out)))); have n2_ := Aside0.mk (below_step (by repeat (first | (with_reducible first | exact HB.out | apply below_alloc | apply pw_below_drewN | apply below_drew1) | exact HB.out)) hb); clear HO_9; clear HB; have HO_9 := n0_; have HO478 := n1_; have HB := n2_; clear n0_ n1_ n2_; clear hb ho23; have p479 : 0 ≤ (x10_2 : Int) := of_decide_eq_true (by first | (with_reducible assumption) | assumption); have q479 : x10_2 < (l0.length : Int) := of_decide_eq_true (by first | (with_reducible assumption) | assumption); obtain ⟨ad479, A479_0, c479_0, e479, hx479_0, hl479_0, hi479_0⟩ := at_L1 HR0.out x10_2 p479 q479; cases e479; replace hx479_0 := (HB.out.cell (World.block_lt_of_cell? w _ hx479_0)).trans hx479_0; have HR479_0 := Aside0.mk hi479_0; have HC479_0 := Aside0.mk hl479_0; clear hi479_0 hl479_0; replace p479 := eq_true p479; replace q479 := eq_true q479) | ((with_reducible refine gate_builtin (b := .append) (xs := #[.tmp 51, .tmp 55]) rfl ?_); (try (refine gate_guard (by rfl) ?_; dsimp only)); at_builtin; refine Kd.R_append_rows Kd.bool (w0 := w) w.heap.size rfl (.tmp 51) (.tmp 55) 38 4 (.bool false) 1 rfl Try.underlying38 info4 rfl (by decide) (by omega) v477 y476 (rd_L1 l0 x10_2) _ _ _ (fun _ => True) (fun _ => False) rfl rfl ?aO ?aR (fun _ _ h => h) (fun _ h => h.elim) ?aF ?aB ?aS ?aL ?_; (case aR => repeat (first | exact (Kd.C_below HR479_0.out HB.out) | (with_reducible refine Kd.C_alloc ?_ _) | (with_reducible refine Kd.C_drewN ?_ _) | (with_reducible refine Kd.C_drew ?_))); (case aB => exact (by repeat (first | (with_reducible first | exact HB.out | apply below_alloc | apply pw_below_drewN | apply below_drew1) | exact HB.out))); (case aF => exact (fun _ _ => trivial)); (case aO => exact (by (with_reducible repeat (first | apply Kd.R_alloc | apply Kd.R_drewN | apply Kd.R_drew)); exact HO478.out)); (case aS => exact (below_size (by repeat (first | (with_reducible first | exact HB.out | apply below_alloc | apply pw_below_drewN | apply below_drew1) | exact HB.out)))); (case aL => have := LMc20.out; omega); intro v481 w24 ho hb hg hat; rw [← Ny480.out] at ho; have n0_ := Aside0.mk (Kd.S_after (ok := (fun _ => True)) (by (with_reducible repeat (first | apply Kd.S_alloc | apply Kd.S_drewN | apply Kd.S_drew)); exact HO_9.out) hg hat); have n1_ := Aside0.mk (hb); have n2_ := Aside0.mk (ho); clear HO_9; clear HB; clear HO478; have HO_9 := n0_; have HB := n1_; have HO482 := n2_; clear n0_ n1_ n2_; clear ho hb hg hat; obtain ⟨Ao26, co26, eo26⟩ := Kd.R_slice HO482.out; subst eo26) | ((with_reducible refine gate_builtin (b := .append) (xs := #[.tmp 50, .tmp 57]) rfl ?_); (try (refine gate_guard (by rfl) ?_; dsimp only)); at_builtin; refine Kd.S_append (Kd.slice 4 Kd.bool) (w0 := w) w.heap.size rfl (.tmp 50) (.tmp 57) 22 38 (.slice none 0 0) 24 rfl Try.underlying22 info38 rfl (by decide) (by omega) u9 x9_2 y480 [.slice Ao26 y480.length co26] (fun _ => True) (fun k_ => some k_ = (.slice Ao26 y480.length co26 : Value).ownBlock) rfl rfl ?aP (fun k_ hk_ => ((Kd.R_mono (ok' := fun k_ => ((fun _ => True)) k_ ∧ some k_ ≠ (u9 : Value).ownBlock) (Kd.R_apart' (HO482.out) (Kd.S_typed HO_9.out) (by decide)) (fun k_ hk => ⟨trivial, hk.2⟩))).1 k_ hk_.symm) ?aF ?aO ?aB ?aS ?aL ?_; (case aP => exact Kd.M_row (Kd.R_mono (Kd.R_tight rfl (Kd.R_mono (ok' := fun k_ => ((fun _ => True)) k_ ∧ some k_ ≠ (u9 : Value).ownBlock) (Kd.R_apart' (HO482.out) (Kd.S_typed HO_9.out) (by decide)) (fun k_ hk => ⟨trivial, hk.2⟩))) (fun _ h_ => h_))); (case aB => exact (by repeat (first | (with_reducible first | exact HB.out | apply below_alloc | apply pw_below_drewN | apply below_drew1) | exact HB.out))); (case aF => exact (fun _ _ => trivial)); (case aO => exact (by (with_reducible repeat (first | apply Kd.S_alloc | apply Kd.S_drewN | apply Kd.S_drew)); exact Kd.S_mono HO_9.out (fun k_ hk => ⟨trivial, fun e_ => hk.2 e_⟩))); (case aS => exact (below_size (by repeat (first | (with_reducible first | exact HB.out | apply below_alloc | apply pw_below_drewN | apply below_drew1) | exact HB.out)))); (case aL => have := LMc21.out; omega); intro v484 w25 ho hb hg hat; rw [← Ny483.out] at ho; have n0_ := Aside0.mk (hb); have n1_ := Aside0.mk (ho); clear HB; clear HO_9; clear HO482; have HB := n0_; have HO485 := n1_; clear n0_ n1_; clear ho hb hg hat))
          go_roundg k2
          case measure => have := HJ4.out; have := HK2.out; omega
          case rel => exact ⟨(y483), (wrap64 (x10_2 + 1)), (by first | rfl | (simp; done) | (simp [*]; done)), H', ⟨by have := HJ4.out; have := HK2.out; omega⟩, ⟨by (with_reducible repeat (first | apply Kd.S_alloc | apply Kd.S_drewN | apply Kd.S_drew)); exact HO485.out⟩, ⟨by repeat (first | (with_reducible first | exact HB.out | apply below_alloc | apply pw_below_drewN | apply below_drew1) | exact HB.out)⟩⟩
         ·
          rw [if_neg c21] at H
          exact absurd H (by simp)
        ·
         rw [if_neg c20] at H
         exact absurd H (by simp)
       ·
        rw [if_neg c19] at H
        exact absurd H (by simp)
      ·
       rw [if_neg c18] at H
       have c18b0 : decide (x10_2 < (l0.length : Int)) = false := decide_eq_false c18
       clear c18
       by_cases c27 : 0 ≤ a1
       ·
        rw [if_pos c27] at H
        have c27b0 : decide (0 ≤ a1) = true := decide_eq_true c27
        clear c27
        by_cases c28 : a1 < (x9_2.length : Int)
        ·
         rw [if_pos c28] at H
         have c28b0 : decide (a1 < (x9_2.length : Int)) = true := decide_eq_true c28
         clear c28
         by_cases c29 : 0 ≤ a2
         ·
          rw [if_pos c29] at H
          have c29b0 : decide (0 ≤ a2) = true := decide_eq_true c29
          clear c29
          by_cases c30 : a2 < ((rd_L1 x9_2 a1).length : Int)
          ·
           rw [if_pos c30] at H
           have c30b0 : decide (a2 < ((rd_L1 x9_2 a1).length : Int)) = true := decide_eq_true c30
           clear c30
           obtain ⟨y487, hy487⟩ : ∃ y_ : List Bool, y_ = ((rd_L1 x9_2 a1).set (a2 : Int).toNat true) := ⟨_, rfl⟩
           replace H : ((match_Size.f k2 (x9_2.set (a1 : Int).toNat y487)).bind fun bt490 => (if bt490.2 = 0 then (if bt490.1 = t469 then ((dancestudiolaw10_awake.f k2).bind fun t492 => (some t492)) else (if bt490.1 = (wrap64 (t469 + 1)) then (if a1 < (l0.length : Int) then (if a2 < ((rd_L1 l0 a1).length : Int) then (if (rdOf false (rd_L1 l0 a1) a2 = true) then (none) else ((dancestudiolaw10_awake.f k2).bind fun t495 => (some t495))) else (none)) else (none)) else (none))) else (none))) = some r := by first | (rw [hy487]; with_reducible exact H) | (have H2_ := (Option.bind_some _ _).symm.trans H; rw [hy487]; with_reducible exact H2_) | (have H2_ := (Option.bind_some _ _).symm.trans H; with_reducible exact H2_) | with_reducible exact H | (rw [hy487]; exact H) | exact H
           have Ny487 := Aside0.mk hy487
           clear hy487
           obtain ⟨y489, hy489⟩ : ∃ y_ : List (List Bool), y_ = (x9_2.set (a1 : Int).toNat y487) := ⟨_, rfl⟩
           replace H : ((match_Size.f k2 y489).bind fun bt490 => (if bt490.2 = 0 then (if bt490.1 = t469 then ((dancestudiolaw10_awake.f k2).bind fun t492 => (some t492)) else (if bt490.1 = (wrap64 (t469 + 1)) then (if a1 < (l0.length : Int) then (if a2 < ((rd_L1 l0 a1).length : Int) then (if (rdOf false (rd_L1 l0 a1) a2 = true) then (none) else ((dancestudiolaw10_awake.f k2).bind fun t495 => (some t495))) else (none)) else (none)) else (none))) else (none))) = some r := by first | (rw [hy489]; with_reducible exact H) | (have H2_ := (Option.bind_some _ _).symm.trans H; rw [hy489]; with_reducible exact H2_) | (have H2_ := (Option.bind_some _ _).symm.trans H; with_reducible exact H2_) | with_reducible exact H | (rw [hy489]; exact H) | exact H
           have Ny489 := Aside0.mk hy489
           clear hy489
           replace H := Option.bind_eq_some_iff.mp H
           obtain ⟨⟨t490, t491⟩, A320, H⟩ := H
           replace H : (if t491 = 0 then (if t490 = t469 then ((dancestudiolaw10_awake.f k2).bind fun t492 => (some t492)) else (if t490 = (wrap64 (t469 + 1)) then (if a1 < (l0.length : Int) then (if a2 < ((rd_L1 l0 a1).length : Int) then (if (rdOf false (rd_L1 l0 a1) a2 = true) then (none) else ((dancestudiolaw10_awake.f k2).bind fun t495 => (some t495))) else (none)) else (none)) else (none))) else (none)) = some r := H
           have A32 := Aside0.mk A320
           clear A320
           by_cases c33 : t491 = 0
           ·
            rw [if_pos c33] at H
            have c33b0 : (t491 == 0) = true := beq_iff_eq.mpr c33
            have c33b1 : (t491 != 0) = false := bne_eq_false_iff_eq.mpr c33
            clear c33
            by_cases c34 : t490 = t469
            ·
             rw [if_pos c34] at H
             have c34b0 : (t490 == t469) = true := beq_iff_eq.mpr c34
             have c34b1 : (t490 != t469) = false := bne_eq_false_iff_eq.mpr c34
             clear c34
             replace H := Option.bind_eq_some_iff.mp H
             obtain ⟨t492, A350, H⟩ := H
             replace H : (some t492) = some r := H
             have A35 := Aside0.mk A350
             clear A350
             obtain rfl := Option.some.inj H
             obtain ⟨Ao36, co36, eo36⟩ := Kd.S_slice HO_9.out
             subst eo36
             have p486 : 0 ≤ (a1 : Int) := of_decide_eq_true (by first | (with_reducible assumption) | assumption)
             have q486 : a1 < (x9_2.length : Int) := of_decide_eq_true (by first | (with_reducible assumption) | assumption)
             obtain ⟨ad486, A486_0, c486_0, e486, hx486_0, hl486_0, hi486_0⟩ := at_L1 (Kd.S_reads' HO_9.out).2.2 a1 p486 q486
             cases e486
             obtain ⟨ce486, hce486, hMe486, hcc486⟩ := Kd.S_get HO_9.out [] a1 p486 (by first | exact q486 | exact of_decide_eq_true (by first | (with_reducible assumption) | assumption) | (have e_ := (Kd.S_reads' HO_9.out).1; omega))
             obtain ⟨ve486_0, rfl, ge486_0⟩ := hMe486
             have hv486_0 := hcc486 0 _ rfl
             rw [Nat.add_zero, show ((Kd.slice 4 Kd.bool)).sz = 1 from rfl, Nat.mul_one] at hv486_0
             replace hv486_0 := Option.some.inj (hv486_0.symm.trans hx486_0)
             rw [hv486_0] at ge486_0
             have HL486_0 := Aside0.mk (show Kd.R Kd.bool 4 _ _ _ _ (rd_L1 x9_2 a1) from ge486_0)
             clear hv486_0 ge486_0
             have HX486_0 := Aside0.mk hx486_0
             clear hcc486 hce486
             have HR486_0 := Aside0.mk hi486_0
             have HC486_0 := Aside0.mk hl486_0
             clear hi486_0 hl486_0
             replace p486 := eq_true p486
             replace q486 := eq_true q486
             have p31 : 0 ≤ (a2 : Int) := of_decide_eq_true (by first | (with_reducible assumption) | assumption)
             have q31 : (a2 : Int) < (((rd_L1 x9_2 a1).length : Int) : Int) := of_decide_eq_true (by first | (with_reducible assumption) | assumption)
             obtain ⟨go31, co31, eo31, gb31, gl31, cl31, HG31⟩ := Kd.R_form HL486_0.out (by omega)
             (first | cases eo31 | (injection eo31 with ea_ en_ ec_; (first | subst ea_ | (injection ea_ with ea_; subst ea_)); subst ec_; clear en_))
             have GB31 := Aside0.mk gb31
             have GG31 := Aside0.mk HG31
             clear gb31 gl31 HG31
             obtain ⟨hx31_0, hf31_0⟩ := Kd.R_celln false HL486_0.out (a2 : Int) p31 q31
             replace p31 := eq_true p31
             replace q31 := eq_true q31
             have hq37 : (a1 : Int) < (x9_2.length : Int) := (by have h_ : (a1 : Int) < ((x9_2.length : Int) : Int) := of_decide_eq_true (by first | (with_reducible assumption) | assumption); first | exact h_ | (have e_ := (Kd.S_reads' HO_9.out).1; omega) | simpa only [List.length_set, List.length_set] using h_)
             obtain ⟨oki37, ce37, hcl37, hM37, hcc37, hok37, hbk37⟩ := Kd.S_borrow HO_9.out [] (a1 : Int) (of_decide_eq_true (by first | (with_reducible assumption) | assumption)) hq37
             obtain ⟨ve37_0, rfl, ge37_0⟩ := hM37
             have hv37 := hcc37 0 _ rfl
             rw [Nat.add_zero, show ((Kd.slice 4 Kd.bool)).sz = 1 from rfl, Nat.mul_one] at hv37
             replace hv37 := Option.some.inj (hv37.symm.trans HX486_0.out)
             subst hv37
             clear hcc37 hcl37
             replace ge37_0 := (show Kd.R Kd.bool 4 _ _ _ _ (rd_L1 x9_2 a1) from ge37_0)
             have HP37 := Kd.R_putg ge37_0 (a2 : Int) true
             go_wp2_with (first | ((with_reducible refine gate_store (t := 4) (p := 64) rfl ?_); refine store_event (t := 4) (p := 64) (v := ?vo_w38) (w1 := (wr.setCell ⟨go31, (a2 : Int).toNat, none⟩ (.bool true))) ?hg ?ho ?hn ?hr ?_; (case ho => rfl); (case hg => rfl); (case hn => rfl); (case hr => first | (go_simp; done) | (go_simp; rfl)); intro w38 hw; have hg : wr.grownBy w38 (some go31) := (by rw [hw]; exact HP37.2); have hz_ : Kd.R Kd.bool 4 w38 w.heap.size oki37 (.slice (some ⟨go31, 0, none⟩) (rd_L1 x9_2 a1).length c486_0) y487 := (by rw [hw, Ny487.out]; exact HP37.1); have hp_ : Kd.S (Kd.slice 4 Kd.bool) 38 w38 w.heap.size (fun _ => True) (.slice (some ad486) x9_2.length co36) y489 := (by rw [Ny489.out]; exact hbk37 hg (fun k_ e_ => by injection e_ with e_; subst e_; exact ge37_0.1 _ rfl) (Kd.M_row hz_)); have hm_ := Kd.R_mono hz_ hok37; clear HP37 hbk37; have n0_ := Aside0.mk (hp_); have n1_ := Aside0.mk ((by rw [hw]; exact below_set (HB.out) GB31.out : Below w.heap.size w w38)); have n2_ := Aside0.mk (hm_); have n3_ := Aside0.mk ((Kd.R_reads' hm_).2.1); clear HO_9; clear HB; clear HL486_0; have HO_9 := n0_; have HB := n1_; have HL496 := n2_; have HC488 := n3_; clear n0_ n1_ n2_ n3_; clear hg hw hp_ hz_ hm_ hok37) | ((with_reducible refine gate_callee (f := 11) rfl ?_); refine goesL_ (some 67) rfl rfl Try.func11 (by kernel_rfl) rfl #[.slice (some ad486) y489.length co36] rfl (by (try simp only [List.map_toArray, List.map_cons, List.map_nil]); first | done | (rw [show y489.length = x9_2.length from (Kd.S_reads' HO_9.out).1.symm] <;> rfl) | rfl | (simp only [List.length_drop, List.length_take]; rfl)) ?_; (with_reducible refine (match_Size.calls k2 _ _ y489 t490 t491 _ ?side1 ?side2 A32.out).mono ?_); (case side1 => repeat (first | exact (Kd.S_reads' HO_9.out).2.2 | (with_reducible refine Kd.C_alloc ?_ _) | (with_reducible refine Kd.C_drewN ?_ _) | (with_reducible refine Kd.C_drew ?_))); (case side2 => rw [show y489.length = x9_2.length from (Kd.S_reads' HO_9.out).1.symm]; exact (Kd.S_reads' HO_9.out).2.1); rintro e w39 ⟨rfl, hb⟩; refine ⟨_, rfl, ?_⟩; have n0_ := Aside0.mk (Kd.S_below (by (with_reducible repeat (first | apply Kd.S_alloc | apply Kd.S_drewN | apply Kd.S_drew)); exact HO_9.out) hb); have n1_ := Aside0.mk (Kd.R_below (by (with_reducible repeat (first | apply Kd.R_alloc | apply Kd.R_drewN | apply Kd.R_drew)); exact HL496.out) hb); have n2_ := Aside0.mk (below_step (by repeat (first | (with_reducible first | exact HB.out | apply below_alloc | apply pw_below_drewN | apply below_drew1) | exact HB.out)) hb); clear HO_9; clear HL496; clear HB; have HO_9 := n0_; have HL496 := n1_; have HB := n2_; clear n0_ n1_ n2_; (try clear hb); (try clear hb2); (try clear hk); (try clear hi)) | (go_at_call 15; (with_reducible refine (dancestudiolaw10_awake.calls k2  t492 _ A35.out).mono ?_); rintro e w40 ⟨rfl, hb⟩; have n0_ := Aside0.mk (Kd.S_below (by (with_reducible repeat (first | apply Kd.S_alloc | apply Kd.S_drewN | apply Kd.S_drew)); exact HO_9.out) hb); have n1_ := Aside0.mk (Kd.R_below (by (with_reducible repeat (first | apply Kd.R_alloc | apply Kd.R_drewN | apply Kd.R_drew)); exact HL496.out) hb); have n2_ := Aside0.mk (below_step (by repeat (first | (with_reducible first | exact HB.out | apply below_alloc | apply pw_below_drewN | apply below_drew1) | exact HB.out)) hb); clear HO_9; clear HL496; clear HB; have HO_9 := n0_; have HL496 := n1_; have HB := n2_; clear n0_ n1_ n2_; (try clear hb); (try clear hb2); (try clear hk); (try clear hi)))
             go_ret
             exact ⟨by first | rfl | (simp [errW_none, errW_some] <;> rfl) | (simp [*, errW_none, errW_some] <;> rfl), by repeat (first | (with_reducible first | exact HB.out | apply below_alloc | apply pw_below_drewN | apply below_drew1) | exact HB.out)⟩
            ·
             rw [if_neg c34] at H
             have c34b0 : (t490 == t469) = false := beq_eq_false_iff_ne.mpr c34
             have c34b1 : (t490 != t469) = true := bne_iff_ne.mpr c34
             by_cases c41 : t490 = (wrap64 (t469 + 1))
             ·
              rw [if_pos c41] at H
              have c41b0 : (t490 == (wrap64 (t469 + 1))) = true := beq_iff_eq.mpr c41
              have c41b1 : (t490 != (wrap64 (t469 + 1))) = false := bne_eq_false_iff_eq.mpr c41
              clear c41
              by_cases c42 : a1 < (l0.length : Int)
              ·
               rw [if_pos c42] at H
               have c42b0 : decide (a1 < (l0.length : Int)) = true := decide_eq_true c42
               clear c42
               by_cases c43 : a2 < ((rd_L1 l0 a1).length : Int)
               ·
                rw [if_pos c43] at H
                have c43b0 : decide (a2 < ((rd_L1 l0 a1).length : Int)) = true := decide_eq_true c43
                clear c43
                obtain ⟨bq44, hbq44⟩ : ∃ b_ : Bool, b_ = (rdOf false (rd_L1 l0 a1) a2) := ⟨_, rfl⟩
                replace H : (if (bq44 = true) then (none) else ((dancestudiolaw10_awake.f k2).bind fun t495 => (some t495))) = some r := by rw [← hbq44] at H; exact H
                have Nbq44 := Aside0.mk hbq44
                clear hbq44
                by_cases c45 : (bq44 = true)
                ·
                 subst c45
                 have H1 : (none) = some r := by rw [if_pos rfl] at H; exact H
                 clear H
                 have H := H1
                 clear H1
                 exact absurd H (by simp)
                ·
                 replace c45 := Bool.eq_false_iff.mpr c45
                 subst c45
                 have H1 : ((dancestudiolaw10_awake.f k2).bind fun t495 => (some t495)) = some r := by rw [if_neg (show ¬ (false = true) by decide)] at H; exact H
                 clear H
                 have H := H1
                 clear H1
                 replace H := Option.bind_eq_some_iff.mp H
                 obtain ⟨t495, A460, H⟩ := H
                 replace H : (some t495) = some r := H
                 have A46 := Aside0.mk A460
                 clear A460
                 obtain rfl := Option.some.inj H
                 obtain ⟨Ao47, co47, eo47⟩ := Kd.S_slice HO_9.out
                 subst eo47
                 have p486 : 0 ≤ (a1 : Int) := of_decide_eq_true (by first | (with_reducible assumption) | assumption)
                 have q486 : a1 < (x9_2.length : Int) := of_decide_eq_true (by first | (with_reducible assumption) | assumption)
                 obtain ⟨ad486, A486_0, c486_0, e486, hx486_0, hl486_0, hi486_0⟩ := at_L1 (Kd.S_reads' HO_9.out).2.2 a1 p486 q486
                 cases e486
                 obtain ⟨ce486, hce486, hMe486, hcc486⟩ := Kd.S_get HO_9.out [] a1 p486 (by first | exact q486 | exact of_decide_eq_true (by first | (with_reducible assumption) | assumption) | (have e_ := (Kd.S_reads' HO_9.out).1; omega))
                 obtain ⟨ve486_0, rfl, ge486_0⟩ := hMe486
                 have hv486_0 := hcc486 0 _ rfl
                 rw [Nat.add_zero, show ((Kd.slice 4 Kd.bool)).sz = 1 from rfl, Nat.mul_one] at hv486_0
                 replace hv486_0 := Option.some.inj (hv486_0.symm.trans hx486_0)
                 rw [hv486_0] at ge486_0
                 have HL486_0 := Aside0.mk (show Kd.R Kd.bool 4 _ _ _ _ (rd_L1 x9_2 a1) from ge486_0)
                 clear hv486_0 ge486_0
                 have HX486_0 := Aside0.mk hx486_0
                 clear hcc486 hce486
                 have HR486_0 := Aside0.mk hi486_0
                 have HC486_0 := Aside0.mk hl486_0
                 clear hi486_0 hl486_0
                 replace p486 := eq_true p486
                 replace q486 := eq_true q486
                 have p31 : 0 ≤ (a2 : Int) := of_decide_eq_true (by first | (with_reducible assumption) | assumption)
                 have q31 : (a2 : Int) < (((rd_L1 x9_2 a1).length : Int) : Int) := of_decide_eq_true (by first | (with_reducible assumption) | assumption)
                 obtain ⟨go31, co31, eo31, gb31, gl31, cl31, HG31⟩ := Kd.R_form HL486_0.out (by omega)
                 (first | cases eo31 | (injection eo31 with ea_ en_ ec_; (first | subst ea_ | (injection ea_ with ea_; subst ea_)); subst ec_; clear en_))
                 have GB31 := Aside0.mk gb31
                 have GG31 := Aside0.mk HG31
                 clear gb31 gl31 HG31
                 obtain ⟨hx31_0, hf31_0⟩ := Kd.R_celln false HL486_0.out (a2 : Int) p31 q31
                 replace p31 := eq_true p31
                 replace q31 := eq_true q31
                 have hq48 : (a1 : Int) < (x9_2.length : Int) := (by have h_ : (a1 : Int) < ((x9_2.length : Int) : Int) := of_decide_eq_true (by first | (with_reducible assumption) | assumption); first | exact h_ | (have e_ := (Kd.S_reads' HO_9.out).1; omega) | simpa only [List.length_set, List.length_set] using h_)
                 obtain ⟨oki48, ce48, hcl48, hM48, hcc48, hok48, hbk48⟩ := Kd.S_borrow HO_9.out [] (a1 : Int) (of_decide_eq_true (by first | (with_reducible assumption) | assumption)) hq48
                 obtain ⟨ve48_0, rfl, ge48_0⟩ := hM48
                 have hv48 := hcc48 0 _ rfl
                 rw [Nat.add_zero, show ((Kd.slice 4 Kd.bool)).sz = 1 from rfl, Nat.mul_one] at hv48
                 replace hv48 := Option.some.inj (hv48.symm.trans HX486_0.out)
                 subst hv48
                 clear hcc48 hcl48
                 replace ge48_0 := (show Kd.R Kd.bool 4 _ _ _ _ (rd_L1 x9_2 a1) from ge48_0)
                 have HP48 := Kd.R_putg ge48_0 (a2 : Int) true
                 go_wp2_with (first | ((with_reducible refine gate_store (t := 4) (p := 64) rfl ?_); refine store_event (t := 4) (p := 64) (v := ?vo_w49) (w1 := (wr.setCell ⟨go31, (a2 : Int).toNat, none⟩ (.bool true))) ?hg ?ho ?hn ?hr ?_; (case ho => rfl); (case hg => rfl); (case hn => rfl); (case hr => first | (go_simp; done) | (go_simp; rfl)); intro w49 hw; have hg : wr.grownBy w49 (some go31) := (by rw [hw]; exact HP48.2); have hz_ : Kd.R Kd.bool 4 w49 w.heap.size oki48 (.slice (some ⟨go31, 0, none⟩) (rd_L1 x9_2 a1).length c486_0) y487 := (by rw [hw, Ny487.out]; exact HP48.1); have hp_ : Kd.S (Kd.slice 4 Kd.bool) 38 w49 w.heap.size (fun _ => True) (.slice (some ad486) x9_2.length co47) y489 := (by rw [Ny489.out]; exact hbk48 hg (fun k_ e_ => by injection e_ with e_; subst e_; exact ge48_0.1 _ rfl) (Kd.M_row hz_)); have hm_ := Kd.R_mono hz_ hok48; clear HP48 hbk48; have n0_ := Aside0.mk (hp_); have n1_ := Aside0.mk ((by rw [hw]; exact below_set (HB.out) GB31.out : Below w.heap.size w w49)); have n2_ := Aside0.mk (hm_); have n3_ := Aside0.mk ((Kd.R_reads' hm_).2.1); clear HO_9; clear HB; clear HL486_0; have HO_9 := n0_; have HB := n1_; have HL497 := n2_; have HC488 := n3_; clear n0_ n1_ n2_ n3_; clear hg hw hp_ hz_ hm_ hok48) | ((with_reducible refine gate_callee (f := 11) rfl ?_); refine goesL_ (some 67) rfl rfl Try.func11 (by kernel_rfl) rfl #[.slice (some ad486) y489.length co47] rfl (by (try simp only [List.map_toArray, List.map_cons, List.map_nil]); first | done | (rw [show y489.length = x9_2.length from (Kd.S_reads' HO_9.out).1.symm] <;> rfl) | rfl | (simp only [List.length_drop, List.length_take]; rfl)) ?_; (with_reducible refine (match_Size.calls k2 _ _ y489 t490 t491 _ ?side1 ?side2 A32.out).mono ?_); (case side1 => repeat (first | exact (Kd.S_reads' HO_9.out).2.2 | (with_reducible refine Kd.C_alloc ?_ _) | (with_reducible refine Kd.C_drewN ?_ _) | (with_reducible refine Kd.C_drew ?_))); (case side2 => rw [show y489.length = x9_2.length from (Kd.S_reads' HO_9.out).1.symm]; exact (Kd.S_reads' HO_9.out).2.1); rintro e w50 ⟨rfl, hb⟩; refine ⟨_, rfl, ?_⟩; have n0_ := Aside0.mk (Kd.S_below (by (with_reducible repeat (first | apply Kd.S_alloc | apply Kd.S_drewN | apply Kd.S_drew)); exact HO_9.out) hb); have n1_ := Aside0.mk (Kd.R_below (by (with_reducible repeat (first | apply Kd.R_alloc | apply Kd.R_drewN | apply Kd.R_drew)); exact HL497.out) hb); have n2_ := Aside0.mk (below_step (by repeat (first | (with_reducible first | exact HB.out | apply below_alloc | apply pw_below_drewN | apply below_drew1) | exact HB.out)) hb); clear HO_9; clear HL497; clear HB; have HO_9 := n0_; have HL497 := n1_; have HB := n2_; clear n0_ n1_ n2_; (try clear hb); (try clear hb2); (try clear hk); (try clear hi); have p493 : 0 ≤ (a1 : Int) := of_decide_eq_true (by first | (with_reducible assumption) | assumption); have q493 : a1 < (l0.length : Int) := of_decide_eq_true (by first | (with_reducible assumption) | assumption); obtain ⟨ad493, A493_0, c493_0, e493, hx493_0, hl493_0, hi493_0⟩ := at_L1 HR0.out a1 p493 q493; cases e493; replace hx493_0 := (HB.out.cell (World.block_lt_of_cell? w _ hx493_0)).trans hx493_0; have HR493_0 := Aside0.mk hi493_0; have HC493_0 := Aside0.mk hl493_0; clear hi493_0 hl493_0; replace p493 := eq_true p493; replace q493 := eq_true q493; have p494 : 0 ≤ (a2 : Int) := of_decide_eq_true (by first | (with_reducible assumption) | assumption); have q494 : a2 < ((rd_L1 l0 a1).length : Int) := of_decide_eq_true (by first | (with_reducible assumption) | assumption); obtain ⟨ad494, e494, hx494_0⟩ := Kd.at_bool HR493_0.out a2 p494 q494; (try rw [← Nbq44.out] at hx494_0); cases e494; replace hx494_0 := (HB.out.cell (World.block_lt_of_cell? w _ hx494_0)).trans hx494_0; replace p494 := eq_true p494; replace q494 := eq_true q494) | (go_at_call 15; (with_reducible refine (dancestudiolaw10_awake.calls k2  t495 _ A46.out).mono ?_); rintro e w51 ⟨rfl, hb⟩; have n0_ := Aside0.mk (Kd.S_below (by (with_reducible repeat (first | apply Kd.S_alloc | apply Kd.S_drewN | apply Kd.S_drew)); exact HO_9.out) hb); have n1_ := Aside0.mk (Kd.R_below (by (with_reducible repeat (first | apply Kd.R_alloc | apply Kd.R_drewN | apply Kd.R_drew)); exact HL497.out) hb); have n2_ := Aside0.mk (below_step (by repeat (first | (with_reducible first | exact HB.out | apply below_alloc | apply pw_below_drewN | apply below_drew1) | exact HB.out)) hb); clear HO_9; clear HL497; clear HB; have HO_9 := n0_; have HL497 := n1_; have HB := n2_; clear n0_ n1_ n2_; (try clear hb); (try clear hb2); (try clear hk); (try clear hi)))
                 go_ret
                 exact ⟨by first | rfl | (simp [errW_none, errW_some] <;> rfl) | (simp [*, errW_none, errW_some] <;> rfl), by repeat (first | (with_reducible first | exact HB.out | apply below_alloc | apply pw_below_drewN | apply below_drew1) | exact HB.out)⟩
               ·
                rw [if_neg c43] at H
                exact absurd H (by simp)
              ·
               rw [if_neg c42] at H
               exact absurd H (by simp)
             ·
              rw [if_neg c41] at H
              exact absurd H (by simp)
           ·
            rw [if_neg c33] at H
            exact absurd H (by simp)
          ·
           rw [if_neg c30] at H
           exact absurd H (by simp)
         ·
          rw [if_neg c29] at H
          exact absurd H (by simp)
        ·
         rw [if_neg c28] at H
         exact absurd H (by simp)
       ·
        rw [if_neg c27] at H
        exact absurd H (by simp)
end Go.Proofs.Ytaacihkhckpecaa.PAll
