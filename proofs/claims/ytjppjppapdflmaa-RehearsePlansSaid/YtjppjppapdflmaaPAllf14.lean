-- Written by wip/tools/handprint.py: walks of the functions that the law reaches; Lean checks them.
import Derived.Test.YtjppjppapdflmaaRMi
import Derived.Test.YtjppjppapdflmaaPAllx0
import Derived.Test.YtjppjppapdflmaaRRf
namespace Go.Proofs.Ytjppjppapdflmaa.PAll
open Go.RowKit Go.Proofs.YtjppjppapdflmaaW.PrintWords Go.Proofs.YtjppjppapdflmaaW.PrintLast Go.Proofs.YtjppjppapdflmaaW.PrintMore
attribute [local go_sem] max2_int min2_int max_two min_two max_three min_three max_four min_four   -- for this text's walks alone
set_option linter.unusedVariables false
set_option linter.unusedSimpArgs false

/-! ### dancestudioref50_Check: function 14 -/
mutual
def dancestudioref50_Check.j0 : Nat → Bool → List (S53) → List (S55) → List (S59) → Int → Option (Int)
 | 0, _, _, _, _, _ => none
 | k + 1, x15, x148000, x148001, x148002, x148003 => if x15 = true then (some 1) else (if (x148000.length : Int) > 10 then (some 3) else (dancestudioref50_Check.l0 k 0 x148000 x148001 x148002 x148003))
def dancestudioref50_Check.l0 : Nat → Int → List (S53) → List (S55) → List (S59) → Int → Option (Int)
 | 0, _, _, _, _, _ => none
 | k + 1, x3, x148000, x148001, x148002, x148003 => if x3 < (x148000.length : Int) then (if 0 ≤ x3 then ((dancestudioref50_scene.f k ((rd_T53 x148000 x3).f0) ((rd_T53 x148000 x3).f1) ((rd_T53 x148000 x3).f2) x148003).bind fun t149 => (if t149 = 0 then (dancestudioref50_Check.l0 k (wrap64 (x3 + 1)) x148000 x148001 x148002 x148003) else (some t149))) else (none)) else (if (x148001.length : Int) < 1 then (dancestudioref50_Check.j2 k true x148000 x148001 x148002 x148003) else (dancestudioref50_Check.j2 k (decide ((x148001.length : Int) > 4)) x148000 x148001 x148002 x148003))
def dancestudioref50_Check.j2 : Nat → Bool → List (S53) → List (S55) → List (S59) → Int → Option (Int)
 | 0, _, _, _, _, _ => none
 | k + 1, x47, x148000, x148001, x148002, x148003 => if x47 = true then (some 41) else (dancestudioref50_Check.l1 k 0 x148000 x148001 x148002 x148003)
def dancestudioref50_Check.l1 : Nat → Int → List (S53) → List (S55) → List (S59) → Int → Option (Int)
 | 0, _, _, _, _, _ => none
 | k + 1, x5, x148000, x148001, x148002, x148003 => if x5 < (x148001.length : Int) then (if 0 ≤ x5 then (if ((rd_T55 x148001 x5).f0) < 1 then (some 41) else (if ((rd_T55 x148001 x5).f0) > 24 then (some 41) else (dancestudioref50_Check.l1 k (wrap64 (x5 + 1)) x148000 x148001 x148002 x148003))) else (none)) else (if (x148002.length : Int) > 512 then (some 3) else (dancestudioref50_Check.l2 k 0 x148000 x148001 x148002 x148003))
def dancestudioref50_Check.l2 : Nat → Int → List (S53) → List (S55) → List (S59) → Int → Option (Int)
 | 0, _, _, _, _, _ => none
 | k + 1, x6, x148000, x148001, x148002, x148003 => if x6 < (x148002.length : Int) then (if 0 ≤ x6 then (if ((rd_T59 x148002 x6).f0) < 0 then (some 42) else (if ((rd_T59 x148002 x6).f0) ≥ 24 then (some 42) else (if ((rd_T59 x148002 x6).f1.f0) < 0 then (some 42) else (if ((rd_T59 x148002 x6).f1.f0) > ((rd_T59 x148002 x6).f1.f1) then (some 42) else (if ((rd_T59 x148002 x6).f1.f1) > x148003 then (some 42) else (dancestudioref50_Check.l2 k (wrap64 (x6 + 1)) x148000 x148001 x148002 x148003)))))) else (none)) else (some 0)
end
def dancestudioref50_Check.f (k : Nat) (l0_0 : List (S53)) (l0_1 : List (S55)) (l0_2 : List (S59)) (a0_3 : Int) : Option (Int) := if a0_3 < 1 then (dancestudioref50_Check.j0 k true l0_0 l0_1 l0_2 a0_3) else (dancestudioref50_Check.j0 k (decide (a0_3 > 32)) l0_0 l0_1 l0_2 a0_3)
def dancestudioref50_Check.T8 : Bool × List (List Nat × List Nat) := (true, [([], []), ([0], [0]), ([], []), ([1, 2], [1, 2]), ([3], [3]), ([], []), ([5], [5]), ([4, 6], [4, 6]), ([7, 7, 0, 1, 2, 3, 4, 5, 6, 7], [7])])
def dancestudioref50_Check.B8 : List Nat := [0, 1, 0, 7, 15, 0, 32, 127, 255]
theorem dancestudioref50_Check.tab8 : rtab .any (opsOf Try.f14 8) = dancestudioref50_Check.T8 := by kernel_rfl
theorem dancestudioref50_Check.bits8 : waitsOk dancestudioref50_Check.T8.2 dancestudioref50_Check.B8 = true := by kernel_rfl
set_option maxHeartbeats 8000000 in
set_option maxRecDepth 100000 in
theorem dancestudioref50_Check.calls (k : Nat) (A0_0 : Option Addr) (c0_0 : Nat) (l0_0 : List (S53)) (A0_1 : Option Addr) (c0_1 : Nat) (l0_1 : List (S55)) (A0_2 : Option Addr) (c0_2 : Nat) (l0_2 : List (S59)) (a0_3 : Int) (r : Int) (w : World) (hr0_0 : Kd.C k53 w A0_0 l0_0.length l0_0) (hc0_0 : l0_0.length ≤ c0_0) (hr0_1 : Kd.C k55 w A0_1 l0_1.length l0_1) (hc0_1 : l0_1.length ≤ c0_1) (hr0_2 : Kd.C k59 w A0_2 l0_2.length l0_2) (hc0_2 : l0_2.length ≤ c0_2) (h : dancestudioref50_Check.f k l0_0 l0_1 l0_2 a0_3 = some r) :
  Calls Try.prog 14 #[.agg #[.slice A0_0 l0_0.length c0_0, .slice A0_1 l0_1.length c0_1, .slice A0_2 l0_2.length c0_2, .int .i64 a0_3]] w fun e w' => e = .returned (.int .i64 r) ∧ Below w.heap.size w w' := by
 have hu30 := Try.underlying26
 have hu53 := Try.underlying53
 have hu59 := Try.underlying59
 have HR0_0 := Aside0.mk hr0_0
 have HC0_0 := Aside0.mk hc0_0
 clear hr0_0 hc0_0
 have HR0_1 := Aside0.mk hr0_1
 have HC0_1 := Aside0.mk hc0_1
 clear hr0_1 hc0_1
 have HR0_2 := Aside0.mk hr0_2
 have HC0_2 := Aside0.mk hc0_2
 clear hr0_2 hc0_2
 have HB := Aside0.mk (Below.refl w.heap.size w)
 have H := h
 unfold dancestudioref50_Check.f at H
 clear h
 have HC2 := Aside0.mk H
 clear H
 go_enter Try.func14, Try.ntmps14
 go_upto_region 1 with (first | ((with_reducible refine gate_dst (N := 1) rfl ?_); (try (refine gate_guard (by rfl) ?_; dsimp only)); refine box_event rfl (N := 1) rfl (cs := #[.slice A0_0 l0_0.length c0_0, .slice A0_1 l0_1.length c0_1, .slice A0_2 l0_2.length c0_2, .int .i64 a0_3]) (t := 26) (by first | (go_simp; done) | (go_simp; rfl)) ?_; intro gb1 hg w3 hbox hb; have BK1 := Aside0.mk hbox; have GW1 := mGw HB hg; have GE1 := GW1; replace HB := mSt HB hb; clear hb hbox hg))
 (try simp only [Act.put, List.setIfInBounds_toArray, List.set_cons_zero, List.set_cons_succ])
 go_cut [15] (fun v15 wc => ∃ (kq : Nat) (x15_1 : Bool), v15 = .bool x15_1 ∧ Aside0 (dancestudioref50_Check.j0 kq x15_1 l0_0 l0_1 l0_2 a0_3 = some r) ∧ Aside0 (kq ≤ k) ∧ Aside0 (wc.heap[gb1]? = some (.cells #[(.slice A0_0 l0_0.length c0_0), (.slice A0_1 l0_1.length c0_1), (.slice A0_2 l0_2.length c0_2), .int .i64 a0_3] 26 (0, 0))) ∧ Aside0 (Below w.heap.size w wc))
 case first =>
  have H := HC2.out
  clear HC2
  by_cases c4 : a0_3 < 1
  rotate_left
  ·
   rw [if_neg c4] at H
   have c4b0 := decide_eq_false c4
   clear c4
   (first | rw [c4b0] | (simp only [i64_w, i32_w]; rw [c4b0]) | skip)
   have H' := Aside0.mk H
   clear H
   have hcz6 := blk_cell BK1.out; have hfz6 := blk_frozen BK1.out
   go_wp2
   go_meet
   case rel => exact ⟨_, (decide (a0_3 > 32)), rfl, H', ⟨by first | omega | exact Nat.le_refl _⟩, ⟨BK1.out⟩, ⟨HB.out⟩⟩
  rw [if_pos c4] at H
  have c4b0 := decide_eq_true c4
  clear c4
  (first | rw [c4b0] | (simp only [i64_w, i32_w]; rw [c4b0]) | skip)
  have H' := Aside0.mk H
  clear H
  have hcz5 := blk_cell BK1.out; have hfz5 := blk_frozen BK1.out
  go_wp2
  go_meet
  case rel => exact ⟨_, (true), rfl, H', ⟨by first | omega | exact Nat.le_refl _⟩, ⟨BK1.out⟩, ⟨HB.out⟩⟩
 case rest =>
  clear HC2; try clear c1; try clear p2; try clear c4; try clear c4b0; try clear hcz5_0; try clear hcz5_1; try clear hcz5_2; try clear hcz5_3; try clear hcz6_0; try clear hcz6_1; try clear hcz6_2; try clear hcz6_3; try clear hfz5_0; try clear hfz5_1; try clear hfz5_2; try clear hfz5_3; try clear hfz6_0; try clear hfz6_1; try clear hfz6_2; try clear hfz6_3
  obtain ⟨kq, x15_1, rfl, HA, HJ1, BK1, HB⟩ := hcut
  cases kq with
  | zero => exact absurd HA.out (by simp [dancestudioref50_Check.j0])
  | succ kj1 =>
   have H := HA.out
   clear HA
   simp only [dancestudioref50_Check.j0] at H
   by_cases c7 : x15_1 = true
   ·
    subst c7
    rw [if_pos rfl] at H
    obtain rfl := Option.some.inj H
    go_wp2
    go_ret
    exact ⟨rfl, HB.out⟩
   replace c7 := Bool.eq_false_iff.mpr c7
   subst c7
   rw [if_neg (show ¬ (false = true) by decide)] at H
   by_cases c8 : (l0_0.length : Int) > 10
   ·
    rw [if_pos c8] at H
    have c8b0 := decide_eq_true c8
    have c8b1 : decide (10 < l0_0.length) = true := decide_eq_true (by omega)
    clear c8
    obtain rfl := Option.some.inj H
    have hcz9 := blk_cell BK1.out; have hfz9 := blk_frozen BK1.out
    go_wp2
    go_ret
    exact ⟨rfl, HB.out⟩
   rw [if_neg c8] at H
   have c8b0 := decide_eq_false c8
   have c8b1 : decide (10 < l0_0.length) = false := decide_eq_false (by omega)
   clear c8
   have H' := Aside0.mk H
   clear H
   have hcz10 := blk_cell BK1.out; have hfz10 := blk_frozen BK1.out
   go_wp2
   go_loopg [3] kj1 (fun kq v3 w' => ∃ (x3_2 : Int), v3 = .int .i64 x3_2 ∧ Aside0 (dancestudioref50_Check.l0 kq x3_2 l0_0 l0_1 l0_2 a0_3 = some r) ∧ Aside0 (kq ≤ kj1) ∧ Aside0 (w'.heap[gb1]? = some (.cells #[(.slice A0_0 l0_0.length c0_0), (.slice A0_1 l0_1.length c0_1), (.slice A0_2 l0_2.length c0_2), .int .i64 a0_3] 26 (0, 0))) ∧ Aside0 (Below w.heap.size w w'))
   case atStart => exact ⟨(0), rfl, H', ⟨Nat.le_refl _⟩, ⟨BK1.out⟩, ⟨HB.out⟩⟩
   case round =>
    clear H'
    try clear c1; try clear p2; try clear c4; try clear c4b0; try clear c7; try clear c8; try clear c8b0; try clear c8b1; try clear hcz10_0; try clear hcz10_1; try clear hcz10_2; try clear hcz10_3; try clear hcz5_0; try clear hcz5_1; try clear hcz5_2; try clear hcz5_3; try clear hcz6_0; try clear hcz6_1; try clear hcz6_2; try clear hcz6_3; try clear hcz9_0; try clear hcz9_1; try clear hcz9_2; try clear hcz9_3; try clear hfz10_0; try clear hfz10_1; try clear hfz10_2; try clear hfz10_3; try clear hfz5_0; try clear hfz5_1; try clear hfz5_2; try clear hfz5_3; try clear hfz6_0; try clear hfz6_1; try clear hfz6_2; try clear hfz6_3; try clear hfz9_0; try clear hfz9_1; try clear hfz9_2; try clear hfz9_3
    obtain ⟨x3_2, rfl, HA, HK2, BK1, HB⟩ := hrel
    cases gk with
    | zero => exact absurd HA.out (by simp [dancestudioref50_Check.l0])
    | succ k2 =>
     have H := HA.out
     clear HA
     simp only [dancestudioref50_Check.l0] at H
     by_cases c11 : x3_2 < (l0_0.length : Int)
     ·
      rw [if_pos c11] at H
      have c11b0 := decide_eq_true c11
      clear c11
      obtain ⟨c12, H⟩ : (0 ≤ x3_2) ∧ _ := mIf H
      have c12b0 := decide_eq_true c12
      clear c12
      replace H := Option.bind_eq_some_iff.mp H
      obtain ⟨t149, A130, H⟩ := H
      try dsimp only at H
      have A13 := Aside0.mk A130
      clear A130
      by_cases c14 : t149 = 0
      rotate_left
      ·
       rw [if_neg c14] at H
       have c14b0 := beq_eq_false_iff_ne.mpr c14
       have c14b1 := bne_iff_ne.mpr c14
       obtain rfl := Option.some.inj H
       have hcz18 := blk_cell BK1.out; have hfz18 := blk_frozen BK1.out
       try go_wp2
       replace BK1 := Aside0.mk (blk_drew BK1.out); replace HB := Aside0.mk (below_drew1 HB.out)
       have p148 : 0 ≤ (x3_2 : Int) := of_decide_eq_true (by assumption)
       have q148 : x3_2 < (l0_0.length : Int) := of_decide_eq_true (by assumption)
       obtain ⟨ad148, A148_2, c148_2, e148, hx148_0, hx148_1, hx148_2, hl148_2, hi148_2⟩ := at_T53 HR0_0.out x3_2 p148 q148
       have hw148_2 := hx148_2
       have hw148_1 := hx148_1
       have hw148_0 := hx148_0
       cases e148
       replace hx148_0 := mHx HB hx148_0
       replace hx148_1 := mHx HB hx148_1
       replace hx148_2 := mHx HB hx148_2
       have HR148_2 := Aside0.mk hi148_2
       have HC148_2 := Aside0.mk hl148_2
       clear hi148_2 hl148_2
       replace p148 := eq_true p148
       replace q148 := eq_true q148
       refine start_ (n := 9) (S := fun w' => w'.cell? ⟨gb1, 0, none⟩ = some (.slice (some ad148) l0_0.length c0_0) ∧ w'.cell? ⟨gb1, 1, none⟩ = some (.slice A0_1 l0_1.length c0_1) ∧ w'.cell? ⟨gb1, 2, none⟩ = some (.slice A0_2 l0_2.length c0_2) ∧ w'.cell? ⟨gb1, 3, none⟩ = some (.int .i64 a0_3) ∧ w'.cell? (ad148.add ((x3_2).toNat * 3)) = some (.string ((rd_T53 l0_0 x3_2).f0)) ∧ w'.cell? ⟨(ad148.add ((x3_2).toNat * 3)).block, (ad148.add ((x3_2).toNat * 3)).off + 1, none⟩ = some (.int .i64 ((rd_T53 l0_0 x3_2).f1)) ∧ w'.cell? ⟨(ad148.add ((x3_2).toNat * 3)).block, (ad148.add ((x3_2).toNat * 3)).off + 2, none⟩ = some (.slice A148_2 ((rd_T53 l0_0 x3_2).f2).length c148_2)) (ds := []) #[false, false, false, false, false, false, false, false, false] (by kernel_rfl) rfl rfl ⟨(blk_cell BK1.out 0).trans rfl, (blk_cell BK1.out 1).trans rfl, (blk_cell BK1.out 2).trans rfl, (blk_cell BK1.out 3).trans rfl, ((HB.out.cell (World.block_lt_of_cell? w _ hw148_0)).trans hw148_0), ((HB.out.cell (World.block_lt_of_cell? w _ hw148_1)).trans hw148_1), ((HB.out.cell (World.block_lt_of_cell? w _ hw148_2)).trans hw148_2)⟩ (fun hHeld => ?_); refine with_tabW dancestudioref50_Check.tab8 dancestudioref50_Check.bits8 (fun HT_ HW_ => ?_)
       generalize wr.drew = w19 at BK1 HB HR148_2 hx148_0 hx148_1 hx148_2 hHeld ⊢
       refine pM 0 27 HT_ ?_
       refine pM 2 29 HT_ ?_
       refine pM 5 32 HT_ ?_
       refine tM 1 28 rfl HT_ HW_ (by rintro w' ⟨s0, s1, s2, s3, s4, s5, s6⟩; go_simp; with_reducible rfl) hHeld ?_
       refine pM 3 30 HT_ ?_
       refine tM 4 31 rfl HT_ HW_ (by rintro w' ⟨s0, s1, s2, s3, s4, s5, s6⟩; go_simp; with_reducible rfl) hHeld ?_
       refine tM 6 33 rfl HT_ HW_ (by rintro w' ⟨s0, s1, s2, s3, s4, s5, s6⟩; go_simp; with_reducible rfl) hHeld ?_
       refine one_ (i := 7) (N := some 34) #[true, true, true, true, true, true, true, true, false] rfl rfl (one_of HT_.out (by kernel_rfl)) (by decide) (fun K hK => ?_)
       refine goes_ Try.func29 (by kernel_rfl) rfl #[.agg #[.string ((rd_T53 l0_0 x3_2).f0), .int .i64 ((rd_T53 l0_0 x3_2).f1), .slice A148_2 ((rd_T53 l0_0 x3_2).f2).length c148_2], .int .i64 a0_3] (by rfl) rfl rfl (by (try simp only [List.map_toArray, List.map_cons, List.map_nil]); first | done | rfl | (simp only [List.length_drop, List.length_take]; rfl)) ?_
       with_reducible refine (dancestudioref50_scene.calls k2 ((rd_T53 l0_0 x3_2).f0) ((rd_T53 l0_0 x3_2).f1) _ _ ((rd_T53 l0_0 x3_2).f2) a0_3 t149 _ ?side1 ?side2 A13.out).mono ?_
       (case side1 => exact Kd.C_below HR148_2.out HB.out)
       (case side2 => exact HC148_2.out)
       rintro e w20 ⟨rfl, hb⟩
       refine ⟨_, rfl, ?_⟩
       replace BK1 := mBb BK1 hb; replace HB := mSt HB hb
       (try clear hb)
       (try clear hb2)
       (try clear hk)
       (try clear hi)
       refine hK.out _ _ ⟨blk_cell BK1.out 0, blk_cell BK1.out 1, blk_cell BK1.out 2, blk_cell BK1.out 3, ((HB.out.cell (World.block_lt_of_cell? w _ hw148_0)).trans hw148_0), ((HB.out.cell (World.block_lt_of_cell? w _ hw148_1)).trans hw148_1), ((HB.out.cell (World.block_lt_of_cell? w _ hw148_2)).trans hw148_2)⟩ (fun hHeld => ?_)
       clear hK K
       refine norm_ (by show Act.put _ (some 34) _ = _; simp only [mP]; rfl) ?_
       refine pM 8 4 HT_ ?_
       refine done_ (done_of HT_.out (by kernel_rfl)) ?_
       try go_wp2
       go_ret
       exact ⟨rfl, HB.out⟩
      rw [if_pos c14] at H
      have c14b0 := beq_iff_eq.mpr c14
      have c14b1 := bne_eq_false_iff_eq.mpr c14
      clear c14
      have H' := Aside0.mk H
      clear H
      have hcz15 := blk_cell BK1.out; have hfz15 := blk_frozen BK1.out
      try go_wp2
      replace BK1 := Aside0.mk (blk_drew BK1.out); replace HB := Aside0.mk (below_drew1 HB.out)
      have p148 : 0 ≤ (x3_2 : Int) := of_decide_eq_true (by assumption)
      have q148 : x3_2 < (l0_0.length : Int) := of_decide_eq_true (by assumption)
      obtain ⟨ad148, A148_2, c148_2, e148, hx148_0, hx148_1, hx148_2, hl148_2, hi148_2⟩ := at_T53 HR0_0.out x3_2 p148 q148
      have hw148_2 := hx148_2
      have hw148_1 := hx148_1
      have hw148_0 := hx148_0
      cases e148
      replace hx148_0 := mHx HB hx148_0
      replace hx148_1 := mHx HB hx148_1
      replace hx148_2 := mHx HB hx148_2
      have HR148_2 := Aside0.mk hi148_2
      have HC148_2 := Aside0.mk hl148_2
      clear hi148_2 hl148_2
      replace p148 := eq_true p148
      replace q148 := eq_true q148
      refine start_ (n := 9) (S := fun w' => w'.cell? ⟨gb1, 0, none⟩ = some (.slice (some ad148) l0_0.length c0_0) ∧ w'.cell? ⟨gb1, 1, none⟩ = some (.slice A0_1 l0_1.length c0_1) ∧ w'.cell? ⟨gb1, 2, none⟩ = some (.slice A0_2 l0_2.length c0_2) ∧ w'.cell? ⟨gb1, 3, none⟩ = some (.int .i64 a0_3) ∧ w'.cell? (ad148.add ((x3_2).toNat * 3)) = some (.string ((rd_T53 l0_0 x3_2).f0)) ∧ w'.cell? ⟨(ad148.add ((x3_2).toNat * 3)).block, (ad148.add ((x3_2).toNat * 3)).off + 1, none⟩ = some (.int .i64 ((rd_T53 l0_0 x3_2).f1)) ∧ w'.cell? ⟨(ad148.add ((x3_2).toNat * 3)).block, (ad148.add ((x3_2).toNat * 3)).off + 2, none⟩ = some (.slice A148_2 ((rd_T53 l0_0 x3_2).f2).length c148_2)) (ds := []) #[false, false, false, false, false, false, false, false, false] (by kernel_rfl) rfl rfl ⟨(blk_cell BK1.out 0).trans rfl, (blk_cell BK1.out 1).trans rfl, (blk_cell BK1.out 2).trans rfl, (blk_cell BK1.out 3).trans rfl, ((HB.out.cell (World.block_lt_of_cell? w _ hw148_0)).trans hw148_0), ((HB.out.cell (World.block_lt_of_cell? w _ hw148_1)).trans hw148_1), ((HB.out.cell (World.block_lt_of_cell? w _ hw148_2)).trans hw148_2)⟩ (fun hHeld => ?_); refine with_tabW dancestudioref50_Check.tab8 dancestudioref50_Check.bits8 (fun HT_ HW_ => ?_)
      generalize wr.drew = w16 at BK1 HB HR148_2 hx148_0 hx148_1 hx148_2 hHeld ⊢
      refine pM 0 27 HT_ ?_
      refine pM 2 29 HT_ ?_
      refine pM 5 32 HT_ ?_
      refine tM 1 28 rfl HT_ HW_ (by rintro w' ⟨s0, s1, s2, s3, s4, s5, s6⟩; go_simp; with_reducible rfl) hHeld ?_
      refine pM 3 30 HT_ ?_
      refine tM 4 31 rfl HT_ HW_ (by rintro w' ⟨s0, s1, s2, s3, s4, s5, s6⟩; go_simp; with_reducible rfl) hHeld ?_
      refine tM 6 33 rfl HT_ HW_ (by rintro w' ⟨s0, s1, s2, s3, s4, s5, s6⟩; go_simp; with_reducible rfl) hHeld ?_
      refine one_ (i := 7) (N := some 34) #[true, true, true, true, true, true, true, true, false] rfl rfl (one_of HT_.out (by kernel_rfl)) (by decide) (fun K hK => ?_)
      refine goes_ Try.func29 (by kernel_rfl) rfl #[.agg #[.string ((rd_T53 l0_0 x3_2).f0), .int .i64 ((rd_T53 l0_0 x3_2).f1), .slice A148_2 ((rd_T53 l0_0 x3_2).f2).length c148_2], .int .i64 a0_3] (by rfl) rfl rfl (by (try simp only [List.map_toArray, List.map_cons, List.map_nil]); first | done | rfl | (simp only [List.length_drop, List.length_take]; rfl)) ?_
      with_reducible refine (dancestudioref50_scene.calls k2 ((rd_T53 l0_0 x3_2).f0) ((rd_T53 l0_0 x3_2).f1) _ _ ((rd_T53 l0_0 x3_2).f2) a0_3 t149 _ ?side1 ?side2 A13.out).mono ?_
      (case side1 => exact Kd.C_below HR148_2.out HB.out)
      (case side2 => exact HC148_2.out)
      rintro e w17 ⟨rfl, hb⟩
      refine ⟨_, rfl, ?_⟩
      replace BK1 := mBb BK1 hb; replace HB := mSt HB hb
      (try clear hb)
      (try clear hb2)
      (try clear hk)
      (try clear hi)
      refine hK.out _ _ ⟨blk_cell BK1.out 0, blk_cell BK1.out 1, blk_cell BK1.out 2, blk_cell BK1.out 3, ((HB.out.cell (World.block_lt_of_cell? w _ hw148_0)).trans hw148_0), ((HB.out.cell (World.block_lt_of_cell? w _ hw148_1)).trans hw148_1), ((HB.out.cell (World.block_lt_of_cell? w _ hw148_2)).trans hw148_2)⟩ (fun hHeld => ?_)
      clear hK K
      refine norm_ (by show Act.put _ (some 34) _ = _; simp only [mP]; rfl) ?_
      refine pM 8 4 HT_ ?_
      refine done_ (done_of HT_.out (by kernel_rfl)) ?_
      try go_wp2
      go_roundg k2
      case measure => have := HJ1.out; have := HK2.out; omega
      case rel => exact ⟨(wrap64 (x3_2 + 1)), rfl, H', ⟨by have := HJ1.out; have := HK2.out; omega⟩, ⟨BK1.out⟩, ⟨HB.out⟩⟩
     rw [if_neg c11] at H
     have c11b0 := decide_eq_false c11
     clear c11
     have HC21 := Aside0.mk H
     clear H
     have hcz22 := blk_cell BK1.out; have hfz22 := blk_frozen BK1.out
     go_upto_region 11 with (fail)
     go_cut [47] (fun v47 wc => ∃ (kq : Nat) (x47_20 : Bool), v47 = .bool x47_20 ∧ Aside0 (dancestudioref50_Check.j2 kq x47_20 l0_0 l0_1 l0_2 a0_3 = some r) ∧ Aside0 (kq ≤ k2) ∧ Aside0 (wc.heap[gb1]? = some (.cells #[(.slice A0_0 l0_0.length c0_0), (.slice A0_1 l0_1.length c0_1), (.slice A0_2 l0_2.length c0_2), .int .i64 a0_3] 26 (0, 0))) ∧ Aside0 (Below w.heap.size w wc))
     case first =>
      have H := HC21.out
      clear HC21
      by_cases c23 : (l0_1.length : Int) < 1
      rotate_left
      ·
       rw [if_neg c23] at H
       have c23b0 := decide_eq_false c23
       have c23b1 : decide (l0_1.length < 1) = false := decide_eq_false (by omega)
       clear c23
       (first | rw [c23b0] | (simp only [i64_w, i32_w]; rw [c23b0]) | skip)
       have H' := Aside0.mk H
       clear H
       have hcz25 := blk_cell BK1.out; have hfz25 := blk_frozen BK1.out
       go_wp2
       go_meet
       case rel => exact ⟨_, (decide ((l0_1.length : Int) > 4)), rfl, H', ⟨by have := HJ1.out; have := HK2.out; first | omega | exact Nat.le_refl _⟩, ⟨BK1.out⟩, ⟨HB.out⟩⟩
      rw [if_pos c23] at H
      have c23b0 := decide_eq_true c23
      have c23b1 : decide (l0_1.length < 1) = true := decide_eq_true (by omega)
      clear c23
      (first | rw [c23b0] | (simp only [i64_w, i32_w]; rw [c23b0]) | skip)
      have H' := Aside0.mk H
      clear H
      have hcz24 := blk_cell BK1.out; have hfz24 := blk_frozen BK1.out
      go_wp2
      go_meet
      case rel => exact ⟨_, (true), rfl, H', ⟨by have := HJ1.out; have := HK2.out; first | omega | exact Nat.le_refl _⟩, ⟨BK1.out⟩, ⟨HB.out⟩⟩
     case rest =>
      clear HC21; try clear c1; try clear p1; try clear q1; try clear hx1; try clear c2; try clear p2; try clear c4; try clear c4b0; try clear p6; try clear c7; try clear c8; try clear c8b0; try clear c8b1; try clear c11; try clear c11b0; try clear c12; try clear c12b0; try clear c14; try clear c14b0; try clear c14b1; try clear p14; try clear q14; try clear hx14; try clear c23; try clear c23b0; try clear c23b1; try clear hcz10_0; try clear hcz10_1; try clear hcz10_2; try clear hcz10_3; try clear hcz15_0; try clear hcz15_1; try clear hcz15_2; try clear hcz15_3; try clear hcz18_0; try clear hcz18_1; try clear hcz18_2; try clear hcz18_3; try clear hcz22_0; try clear hcz22_1; try clear hcz22_2; try clear hcz22_3; try clear hcz24_0; try clear hcz24_1; try clear hcz24_2; try clear hcz24_3; try clear hcz25_0; try clear hcz25_1; try clear hcz25_2; try clear hcz25_3; try clear hcz5_0; try clear hcz5_1; try clear hcz5_2; try clear hcz5_3; try clear hcz6_0; try clear hcz6_1; try clear hcz6_2; try clear hcz6_3; try clear hcz9_0; try clear hcz9_1; try clear hcz9_2; try clear hcz9_3; try clear hfz10_0; try clear hfz10_1; try clear hfz10_2; try clear hfz10_3; try clear hfz15_0; try clear hfz15_1; try clear hfz15_2; try clear hfz15_3; try clear hfz18_0; try clear hfz18_1; try clear hfz18_2; try clear hfz18_3; try clear hfz22_0; try clear hfz22_1; try clear hfz22_2; try clear hfz22_3; try clear hfz24_0; try clear hfz24_1; try clear hfz24_2; try clear hfz24_3; try clear hfz25_0; try clear hfz25_1; try clear hfz25_2; try clear hfz25_3; try clear hfz5_0; try clear hfz5_1; try clear hfz5_2; try clear hfz5_3; try clear hfz6_0; try clear hfz6_1; try clear hfz6_2; try clear hfz6_3; try clear hfz9_0; try clear hfz9_1; try clear hfz9_2; try clear hfz9_3; try clear hx148_0; try clear hx148_1; try clear hx148_2; try clear p148; try clear q148
      obtain ⟨kq, x47_20, rfl, HA, HJ20, BK1, HB⟩ := hcut
      cases kq with
      | zero => exact absurd HA.out (by simp [dancestudioref50_Check.j2])
      | succ kj20 =>
       have H := HA.out
       clear HA
       simp only [dancestudioref50_Check.j2] at H
       by_cases c26 : x47_20 = true
       ·
        subst c26
        rw [if_pos rfl] at H
        obtain rfl := Option.some.inj H
        go_wp2
        go_ret
        exact ⟨rfl, HB.out⟩
       replace c26 := Bool.eq_false_iff.mpr c26
       subst c26
       rw [if_neg (show ¬ (false = true) by decide)] at H
       have H' := Aside0.mk H
       clear H
       go_wp2
       go_loopg [5] kj20 (fun kq v5 w' => ∃ (x5_4 : Int), v5 = .int .i64 x5_4 ∧ Aside0 (dancestudioref50_Check.l1 kq x5_4 l0_0 l0_1 l0_2 a0_3 = some r) ∧ Aside0 (kq ≤ kj20) ∧ Aside0 (w'.heap[gb1]? = some (.cells #[(.slice A0_0 l0_0.length c0_0), (.slice A0_1 l0_1.length c0_1), (.slice A0_2 l0_2.length c0_2), .int .i64 a0_3] 26 (0, 0))) ∧ Aside0 (Below w.heap.size w w'))
       case atStart => exact ⟨(0), rfl, H', ⟨Nat.le_refl _⟩, ⟨BK1.out⟩, ⟨HB.out⟩⟩
       case round =>
        clear H'
        try clear c1; try clear p1; try clear q1; try clear hx1; try clear c2; try clear p2; try clear c4; try clear c4b0; try clear p6; try clear c7; try clear c8; try clear c8b0; try clear c8b1; try clear c11; try clear c11b0; try clear c12; try clear c12b0; try clear c14; try clear c14b0; try clear c14b1; try clear p14; try clear q14; try clear hx14; try clear c23; try clear c23b0; try clear c23b1; try clear c26; try clear hcz10_0; try clear hcz10_1; try clear hcz10_2; try clear hcz10_3; try clear hcz15_0; try clear hcz15_1; try clear hcz15_2; try clear hcz15_3; try clear hcz18_0; try clear hcz18_1; try clear hcz18_2; try clear hcz18_3; try clear hcz22_0; try clear hcz22_1; try clear hcz22_2; try clear hcz22_3; try clear hcz24_0; try clear hcz24_1; try clear hcz24_2; try clear hcz24_3; try clear hcz25_0; try clear hcz25_1; try clear hcz25_2; try clear hcz25_3; try clear hcz5_0; try clear hcz5_1; try clear hcz5_2; try clear hcz5_3; try clear hcz6_0; try clear hcz6_1; try clear hcz6_2; try clear hcz6_3; try clear hcz9_0; try clear hcz9_1; try clear hcz9_2; try clear hcz9_3; try clear hfz10_0; try clear hfz10_1; try clear hfz10_2; try clear hfz10_3; try clear hfz15_0; try clear hfz15_1; try clear hfz15_2; try clear hfz15_3; try clear hfz18_0; try clear hfz18_1; try clear hfz18_2; try clear hfz18_3; try clear hfz22_0; try clear hfz22_1; try clear hfz22_2; try clear hfz22_3; try clear hfz24_0; try clear hfz24_1; try clear hfz24_2; try clear hfz24_3; try clear hfz25_0; try clear hfz25_1; try clear hfz25_2; try clear hfz25_3; try clear hfz5_0; try clear hfz5_1; try clear hfz5_2; try clear hfz5_3; try clear hfz6_0; try clear hfz6_1; try clear hfz6_2; try clear hfz6_3; try clear hfz9_0; try clear hfz9_1; try clear hfz9_2; try clear hfz9_3; try clear hx148_0; try clear hx148_1; try clear hx148_2; try clear p148; try clear q148
        obtain ⟨x5_4, rfl, HA, HK4, BK1, HB⟩ := hrel
        cases gk with
        | zero => exact absurd HA.out (by simp [dancestudioref50_Check.l1])
        | succ k4 =>
         have H := HA.out
         clear HA
         simp only [dancestudioref50_Check.l1] at H
         by_cases c27 : x5_4 < (l0_1.length : Int)
         ·
          rw [if_pos c27] at H
          have c27b0 := decide_eq_true c27
          clear c27
          obtain ⟨c28, H⟩ : (0 ≤ x5_4) ∧ _ := mIf H
          have c28b0 := decide_eq_true c28
          clear c28
          by_cases c29 : ((rd_T55 l0_1 x5_4).f0) < 1
          ·
           rw [if_pos c29] at H
           have c29b0 := decide_eq_true c29
           clear c29
           obtain rfl := Option.some.inj H
           have hcz30 := blk_cell BK1.out; have hfz30 := blk_frozen BK1.out
           have p150 : 0 ≤ (x5_4 : Int) := of_decide_eq_true (by assumption)
           have q150 : x5_4 < (l0_1.length : Int) := of_decide_eq_true (by assumption)
           obtain ⟨ad150, e150, hx150_0⟩ := at_T55 HR0_1.out x5_4 p150 q150
           cases e150
           replace hx150_0 := mHx HB hx150_0
           replace p150 := eq_true p150
           replace q150 := eq_true q150
           go_wp2
           go_ret
           exact ⟨rfl, HB.out⟩
          rw [if_neg c29] at H
          have c29b0 := decide_eq_false c29
          clear c29
          by_cases c31 : ((rd_T55 l0_1 x5_4).f0) > 24
          ·
           rw [if_pos c31] at H
           have c31b0 := decide_eq_true c31
           clear c31
           obtain rfl := Option.some.inj H
           have hcz32 := blk_cell BK1.out; have hfz32 := blk_frozen BK1.out
           have p150 : 0 ≤ (x5_4 : Int) := of_decide_eq_true (by assumption)
           have q150 : x5_4 < (l0_1.length : Int) := of_decide_eq_true (by assumption)
           obtain ⟨ad150, e150, hx150_0⟩ := at_T55 HR0_1.out x5_4 p150 q150
           cases e150
           replace hx150_0 := mHx HB hx150_0
           replace p150 := eq_true p150
           replace q150 := eq_true q150
           have p151 : 0 ≤ (x5_4 : Int) := of_decide_eq_true (by assumption)
           have q151 : x5_4 < (l0_1.length : Int) := of_decide_eq_true (by assumption)
           obtain ⟨ad151, e151, hx151_0⟩ := at_T55 HR0_1.out x5_4 p151 q151
           obtain rfl : ad150 = ad151 := (by injection e151)
           replace hx151_0 := mHx HB hx151_0
           replace p151 := eq_true p151
           replace q151 := eq_true q151
           go_wp2
           go_ret
           exact ⟨rfl, HB.out⟩
          rw [if_neg c31] at H
          have c31b0 := decide_eq_false c31
          clear c31
          have H' := Aside0.mk H
          clear H
          have hcz33 := blk_cell BK1.out; have hfz33 := blk_frozen BK1.out
          have p150 : 0 ≤ (x5_4 : Int) := of_decide_eq_true (by assumption)
          have q150 : x5_4 < (l0_1.length : Int) := of_decide_eq_true (by assumption)
          obtain ⟨ad150, e150, hx150_0⟩ := at_T55 HR0_1.out x5_4 p150 q150
          cases e150
          replace hx150_0 := mHx HB hx150_0
          replace p150 := eq_true p150
          replace q150 := eq_true q150
          have p151 : 0 ≤ (x5_4 : Int) := of_decide_eq_true (by assumption)
          have q151 : x5_4 < (l0_1.length : Int) := of_decide_eq_true (by assumption)
          obtain ⟨ad151, e151, hx151_0⟩ := at_T55 HR0_1.out x5_4 p151 q151
          obtain rfl : ad150 = ad151 := (by injection e151)
          replace hx151_0 := mHx HB hx151_0
          replace p151 := eq_true p151
          replace q151 := eq_true q151
          go_wp2
          go_roundg k4
          case measure => have := HJ1.out; have := HK2.out; have := HJ20.out; have := HK4.out; omega
          case rel => exact ⟨(wrap64 (x5_4 + 1)), rfl, H', ⟨by have := HJ1.out; have := HK2.out; have := HJ20.out; have := HK4.out; omega⟩, ⟨BK1.out⟩, ⟨HB.out⟩⟩
         rw [if_neg c27] at H
         have c27b0 := decide_eq_false c27
         clear c27
         by_cases c34 : (l0_2.length : Int) > 512
         ·
          rw [if_pos c34] at H
          have c34b0 := decide_eq_true c34
          have c34b1 : decide (512 < l0_2.length) = true := decide_eq_true (by omega)
          clear c34
          obtain rfl := Option.some.inj H
          have hcz35 := blk_cell BK1.out; have hfz35 := blk_frozen BK1.out
          go_wp2
          go_ret
          exact ⟨rfl, HB.out⟩
         rw [if_neg c34] at H
         have c34b0 := decide_eq_false c34
         have c34b1 : decide (512 < l0_2.length) = false := decide_eq_false (by omega)
         clear c34
         have H' := Aside0.mk H
         clear H
         have hcz36 := blk_cell BK1.out; have hfz36 := blk_frozen BK1.out
         go_wp2
         go_loopg [6] k4 (fun kq v6 w' => ∃ (x6_5 : Int), v6 = .int .i64 x6_5 ∧ Aside0 (dancestudioref50_Check.l2 kq x6_5 l0_0 l0_1 l0_2 a0_3 = some r) ∧ Aside0 (kq ≤ k4) ∧ Aside0 (w'.heap[gb1]? = some (.cells #[(.slice A0_0 l0_0.length c0_0), (.slice A0_1 l0_1.length c0_1), (.slice A0_2 l0_2.length c0_2), .int .i64 a0_3] 26 (0, 0))) ∧ Aside0 (Below w.heap.size w w'))
         case atStart => exact ⟨(0), rfl, H', ⟨Nat.le_refl _⟩, ⟨BK1.out⟩, ⟨HB.out⟩⟩
         case round =>
          clear H'
          clear c27b0 c34b0 c34b1
          obtain ⟨x6_5, rfl, HA, HK5, BK1, HB⟩ := hrel
          cases gk with
          | zero => exact absurd HA.out (by simp [dancestudioref50_Check.l2])
          | succ k5 =>
           have H := HA.out
           clear HA
           simp only [dancestudioref50_Check.l2] at H
           by_cases c37 : x6_5 < (l0_2.length : Int)
           rotate_left
           ·
            rw [if_neg c37] at H
            have c37b0 := decide_eq_false c37
            clear c37
            obtain rfl := Option.some.inj H
            have hcz70 := blk_cell BK1.out; have hfz70 := blk_frozen BK1.out
            go_wp2
            go_ret
            exact ⟨rfl, HB.out⟩
           rw [if_pos c37] at H
           have c37b0 := decide_eq_true c37
           clear c37
           obtain ⟨c38, H⟩ : (0 ≤ x6_5) ∧ _ := mIf H
           have c38b0 := decide_eq_true c38
           clear c38
           by_cases c39 : ((rd_T59 l0_2 x6_5).f0) < 0
           ·
            rw [if_pos c39] at H
            have c39b0 := decide_eq_true c39
            clear c39
            obtain rfl := Option.some.inj H
            have hcz40 := blk_cell BK1.out; have hfz40 := blk_frozen BK1.out
            have p152 : 0 ≤ (x6_5 : Int) := of_decide_eq_true (by assumption)
            have q152 : x6_5 < (l0_2.length : Int) := of_decide_eq_true (by assumption)
            obtain ⟨ad152, e152, hx152_0, hx152_1, hx152_2⟩ := at_T59 HR0_2.out x6_5 p152 q152
            cases e152
            replace hx152_0 := mHx HB hx152_0
            replace hx152_1 := mHx HB hx152_1
            replace hx152_2 := mHx HB hx152_2
            replace p152 := eq_true p152
            replace q152 := eq_true q152
            go_wp2_with (first | ((with_reducible refine gate_dst (N := 7) rfl ?_); (try (refine gate_guard (by rfl) ?_; dsimp only)); refine box_event rfl (N := 7) rfl (cs := #[.int .i64 0, .int .i64 0, .int .i64 0]) (t := 59) (by first | (go_simp; done) | (go_simp; rfl)) ?_; intro gb2 hg w41 hbox hb; have BK2 := Aside0.mk hbox; have GW2 := mGw HB hg; have GE2 := GW2; replace HB := mSt HB hb; have NB1_2 := mNe BK1 hg; have NB2_1 := mSy NB1_2; replace BK1 := mBb BK1 hb; clear hb hbox hg; have hnb42 := NB2_1.out; have hnc42 := NB1_2.out; have hcz43 := blk_cell BK2.out; have hfz43 := blk_frozen BK2.out))
            go_ret
            exact ⟨rfl, hO HB⟩
           rw [if_neg c39] at H
           have c39b0 := decide_eq_false c39
           clear c39
           by_cases c44 : ((rd_T59 l0_2 x6_5).f0) ≥ 24
           ·
            rw [if_pos c44] at H
            have c44b0 := decide_eq_true c44
            clear c44
            obtain rfl := Option.some.inj H
            have hcz45 := blk_cell BK1.out; have hfz45 := blk_frozen BK1.out
            have p152 : 0 ≤ (x6_5 : Int) := of_decide_eq_true (by assumption)
            have q152 : x6_5 < (l0_2.length : Int) := of_decide_eq_true (by assumption)
            obtain ⟨ad152, e152, hx152_0, hx152_1, hx152_2⟩ := at_T59 HR0_2.out x6_5 p152 q152
            cases e152
            replace hx152_0 := mHx HB hx152_0
            replace hx152_1 := mHx HB hx152_1
            replace hx152_2 := mHx HB hx152_2
            replace p152 := eq_true p152
            replace q152 := eq_true q152
            go_wp2_with (first | ((with_reducible refine gate_dst (N := 7) rfl ?_); (try (refine gate_guard (by rfl) ?_; dsimp only)); refine box_event rfl (N := 7) rfl (cs := #[.int .i64 0, .int .i64 0, .int .i64 0]) (t := 59) (by first | (go_simp; done) | (go_simp; rfl)) ?_; intro gb2 hg w46 hbox hb; have BK2 := Aside0.mk hbox; have GW2 := mGw HB hg; have GE2 := GW2; replace HB := mSt HB hb; have NB1_2 := mNe BK1 hg; have NB2_1 := mSy NB1_2; replace BK1 := mBb BK1 hb; clear hb hbox hg; have hnb47 := NB2_1.out; have hnc47 := NB1_2.out; have hcz48 := blk_cell BK2.out; have hfz48 := blk_frozen BK2.out))
            go_ret
            exact ⟨rfl, hO HB⟩
           rw [if_neg c44] at H
           have c44b0 := decide_eq_false c44
           clear c44
           by_cases c49 : ((rd_T59 l0_2 x6_5).f1.f0) < 0
           ·
            rw [if_pos c49] at H
            have c49b0 := decide_eq_true c49
            clear c49
            obtain rfl := Option.some.inj H
            have hcz50 := blk_cell BK1.out; have hfz50 := blk_frozen BK1.out
            have p152 : 0 ≤ (x6_5 : Int) := of_decide_eq_true (by assumption)
            have q152 : x6_5 < (l0_2.length : Int) := of_decide_eq_true (by assumption)
            obtain ⟨ad152, e152, hx152_0, hx152_1, hx152_2⟩ := at_T59 HR0_2.out x6_5 p152 q152
            cases e152
            replace hx152_0 := mHx HB hx152_0
            replace hx152_1 := mHx HB hx152_1
            replace hx152_2 := mHx HB hx152_2
            replace p152 := eq_true p152
            replace q152 := eq_true q152
            go_wp2_with (first | ((with_reducible refine gate_dst (N := 7) rfl ?_); (try (refine gate_guard (by rfl) ?_; dsimp only)); refine box_event rfl (N := 7) rfl (cs := #[.int .i64 0, .int .i64 0, .int .i64 0]) (t := 59) (by first | (go_simp; done) | (go_simp; rfl)) ?_; intro gb2 hg w51 hbox hb; have BK2 := Aside0.mk hbox; have GW2 := mGw HB hg; have GE2 := GW2; replace HB := mSt HB hb; have NB1_2 := mNe BK1 hg; have NB2_1 := mSy NB1_2; replace BK1 := mBb BK1 hb; clear hb hbox hg; have hnb52 := NB2_1.out; have hnc52 := NB1_2.out; have hcz53 := blk_cell BK2.out; have hfz53 := blk_frozen BK2.out))
            go_ret
            exact ⟨rfl, hO HB⟩
           rw [if_neg c49] at H
           have c49b0 := decide_eq_false c49
           clear c49
           by_cases c54 : ((rd_T59 l0_2 x6_5).f1.f0) > ((rd_T59 l0_2 x6_5).f1.f1)
           ·
            rw [if_pos c54] at H
            have c54b0 := decide_eq_true c54
            clear c54
            obtain rfl := Option.some.inj H
            have hcz55 := blk_cell BK1.out; have hfz55 := blk_frozen BK1.out
            have p152 : 0 ≤ (x6_5 : Int) := of_decide_eq_true (by assumption)
            have q152 : x6_5 < (l0_2.length : Int) := of_decide_eq_true (by assumption)
            obtain ⟨ad152, e152, hx152_0, hx152_1, hx152_2⟩ := at_T59 HR0_2.out x6_5 p152 q152
            cases e152
            replace hx152_0 := mHx HB hx152_0
            replace hx152_1 := mHx HB hx152_1
            replace hx152_2 := mHx HB hx152_2
            replace p152 := eq_true p152
            replace q152 := eq_true q152
            go_wp2_with (first | ((with_reducible refine gate_dst (N := 7) rfl ?_); (try (refine gate_guard (by rfl) ?_; dsimp only)); refine box_event rfl (N := 7) rfl (cs := #[.int .i64 0, .int .i64 0, .int .i64 0]) (t := 59) (by first | (go_simp; done) | (go_simp; rfl)) ?_; intro gb2 hg w56 hbox hb; have BK2 := Aside0.mk hbox; have GW2 := mGw HB hg; have GE2 := GW2; replace HB := mSt HB hb; have NB1_2 := mNe BK1 hg; have NB2_1 := mSy NB1_2; replace BK1 := mBb BK1 hb; clear hb hbox hg; have hnb57 := NB2_1.out; have hnc57 := NB1_2.out; have hcz58 := blk_cell BK2.out; have hfz58 := blk_frozen BK2.out))
            go_ret
            exact ⟨rfl, hO HB⟩
           rw [if_neg c54] at H
           have c54b0 := decide_eq_false c54
           clear c54
           by_cases c59 : ((rd_T59 l0_2 x6_5).f1.f1) > a0_3
           ·
            rw [if_pos c59] at H
            have c59b0 := decide_eq_true c59
            clear c59
            obtain rfl := Option.some.inj H
            have hcz60 := blk_cell BK1.out; have hfz60 := blk_frozen BK1.out
            have p152 : 0 ≤ (x6_5 : Int) := of_decide_eq_true (by assumption)
            have q152 : x6_5 < (l0_2.length : Int) := of_decide_eq_true (by assumption)
            obtain ⟨ad152, e152, hx152_0, hx152_1, hx152_2⟩ := at_T59 HR0_2.out x6_5 p152 q152
            cases e152
            replace hx152_0 := mHx HB hx152_0
            replace hx152_1 := mHx HB hx152_1
            replace hx152_2 := mHx HB hx152_2
            replace p152 := eq_true p152
            replace q152 := eq_true q152
            go_wp2_with (first | ((with_reducible refine gate_dst (N := 7) rfl ?_); (try (refine gate_guard (by rfl) ?_; dsimp only)); refine box_event rfl (N := 7) rfl (cs := #[.int .i64 0, .int .i64 0, .int .i64 0]) (t := 59) (by first | (go_simp; done) | (go_simp; rfl)) ?_; intro gb2 hg w61 hbox hb; have BK2 := Aside0.mk hbox; have GW2 := mGw HB hg; have GE2 := GW2; replace HB := mSt HB hb; have NB1_2 := mNe BK1 hg; have NB2_1 := mSy NB1_2; replace BK1 := mBb BK1 hb; clear hb hbox hg; have hnb62 := NB2_1.out; have hnc62 := NB1_2.out; have hcz63 := blk_cell BK2.out; have hfz63 := blk_frozen BK2.out; have hcz64 := blk_cell BK1.out; have hfz64 := blk_frozen BK1.out))
            go_ret
            exact ⟨rfl, hO HB⟩
           rw [if_neg c59] at H
           have c59b0 := decide_eq_false c59
           clear c59
           have H' := Aside0.mk H
           clear H
           have hcz65 := blk_cell BK1.out; have hfz65 := blk_frozen BK1.out
           have p152 : 0 ≤ (x6_5 : Int) := of_decide_eq_true (by assumption)
           have q152 : x6_5 < (l0_2.length : Int) := of_decide_eq_true (by assumption)
           obtain ⟨ad152, e152, hx152_0, hx152_1, hx152_2⟩ := at_T59 HR0_2.out x6_5 p152 q152
           cases e152
           replace hx152_0 := mHx HB hx152_0
           replace hx152_1 := mHx HB hx152_1
           replace hx152_2 := mHx HB hx152_2
           replace p152 := eq_true p152
           replace q152 := eq_true q152
           go_wp2_with (first | ((with_reducible refine gate_dst (N := 7) rfl ?_); (try (refine gate_guard (by rfl) ?_; dsimp only)); refine box_event rfl (N := 7) rfl (cs := #[.int .i64 0, .int .i64 0, .int .i64 0]) (t := 59) (by first | (go_simp; done) | (go_simp; rfl)) ?_; intro gb2 hg w66 hbox hb; have BK2 := Aside0.mk hbox; have GW2 := mGw HB hg; have GE2 := GW2; replace HB := mSt HB hb; have NB1_2 := mNe BK1 hg; have NB2_1 := mSy NB1_2; replace BK1 := mBb BK1 hb; clear hb hbox hg; have hnb67 := NB2_1.out; have hnc67 := NB1_2.out; have hcz68 := blk_cell BK2.out; have hfz68 := blk_frozen BK2.out; have hcz69 := blk_cell BK1.out; have hfz69 := blk_frozen BK1.out))
           go_roundg k5
           case measure => have := HJ1.out; have := HK2.out; have := HJ20.out; have := HK4.out; have := HK5.out; omega
           case rel => exact ⟨(wrap64 (x6_5 + 1)), rfl, H', ⟨by have := HJ1.out; have := HK2.out; have := HJ20.out; have := HK4.out; have := HK5.out; omega⟩, ⟨by refine blk_far ?_ NB1_2.out _; refine blk_far ?_ NB1_2.out _; refine blk_far ?_ NB1_2.out _; exact BK1.out⟩, ⟨hO HB⟩⟩
end Go.Proofs.Ytjppjppapdflmaa.PAll
