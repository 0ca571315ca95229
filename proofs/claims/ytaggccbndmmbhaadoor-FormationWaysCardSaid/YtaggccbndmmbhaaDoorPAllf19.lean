-- Written by wip/tools/handprint.py: walks of the functions that the law reaches; Lean checks them.
import Derived.Test.YtaggccbndmmbhaaDoorBase
import Derived.Test.YtaggccbndmmbhaaDoorPAllf16
import Derived.Test.YtaggccbndmmbhaaDoorPAllf38
namespace Go.Proofs.YtaggccbndmmbhaaDoor.PAll
open Go.RowKit Go.Proofs.YtaggccbndmmbhaaDoorW.PrintWords Go.Proofs.YtaggccbndmmbhaaDoorW.PrintLast Go.Proofs.YtaggccbndmmbhaaDoorW.PrintMore
attribute [local go_sem] max2_int min2_int max_two min_two max_three min_three max_four min_four   -- for this text's walks alone
set_option linter.unusedVariables false
set_option linter.unusedSimpArgs false
attribute [local go_sem high] eqA55

/-! ### dancestudioref45_Ways: function 19 -/
def dancestudioref45_Ways.l0 : Nat → List (S52) → Int → List Int → List (S55) → Int → ByteArray → List (S52) → Option ((List (S55)) × Int)
 | 0, _, _, _, _, _, _, _ => none
 | k + 1, x1, x2, x8, x11, x12, x584000, x584001 => if x12 < (x1.length : Int) then (if 0 ≤ x12 then (if x12 < (x8.length : Int) then (if 0 ≤ (rd x8 x12) then (if (rd x8 x12) < (x584001.length : Int) then (if x11.length < 3518437208883 then (dancestudioref45_Ways.l0 k x1 x2 x8 (x11 ++ [(⟨(⟨(rd_T52 x1 x12).f0, (rd_T52 x1 x12).f1⟩ : S52), (⟨(rd_T52 x584001 (rd x8 x12)).f0, (rd_T52 x584001 (rd x8 x12)).f1⟩ : S52), x2⟩ : S55)]) (wrap64 (x12 + 1)) x584000 x584001) else (none)) else (none)) else (none)) else (none)) else (none)) else (some (x11, 0))
def dancestudioref45_Ways.f (k : Nat) (a0_0 : ByteArray) (l0_1 : List (S52)) (l1 : List (S52)) (a2 : Int) : Option ((List (S55)) × Int) := (dancestudioref45_Fit.f k a0_0 l0_1 l1).bind fun bt584 => (if bt584.2.2 = 0 then ((dancestudioref03_Radius.f a2).bind fun t589 => (if t589 = true then (dancestudioref45_Ways.l0 k l1 a2 bt584.1 ([] : List (S55)) 0 a0_0 l0_1) else (some (([] : List (S55)), 1)))) else (some (([] : List (S55)), bt584.2.2)))
def dancestudioref45_Ways.T10 : Bool × List (List Nat × List Nat) := (true, [([], []), ([], []), ([], []), ([1, 2], [1, 2]), ([3], [3]), ([], []), ([5], [5]), ([], []), ([], []), ([7, 8], [7, 8]), ([9], [9]), ([6, 10], [6, 10]), ([11], [11]), ([], []), ([4, 12, 13], [4, 12, 13]), ([14], [14]), ([0, 15], [0, 15]), ([16, 16, 0, 1, 2, 3, 4, 5, 6, 7, 8, 9, 10, 11, 12, 13, 14, 15, 16], [0, 16])])
def dancestudioref45_Ways.B10 : List Nat := [0, 0, 0, 6, 14, 0, 32, 0, 0, 384, 896, 2016, 4064, 0, 16382, 32766, 65535, 131071]
theorem dancestudioref45_Ways.tab10 : rtab .any (opsOf Tryd.f19 10) = dancestudioref45_Ways.T10 := by kernel_rfl
theorem dancestudioref45_Ways.bits10 : waitsOk dancestudioref45_Ways.T10.2 dancestudioref45_Ways.B10 = true := by kernel_rfl
set_option maxHeartbeats 8000000 in
set_option maxRecDepth 100000 in
theorem dancestudioref45_Ways.calls (k : Nat) (a0_0 : ByteArray) (A0_1 : Option Addr) (c0_1 : Nat) (l0_1 : List (S52)) (A1 : Option Addr) (c1 : Nat) (l1 : List (S52)) (a2 : Int) (r1 : List (S55)) (r2 : Int) (w : World) (hr0_1 : Kd.C k52 w A0_1 l0_1.length l0_1) (hc0_1 : l0_1.length ≤ c0_1) (hr1 : Kd.C k52 w A1 l1.length l1) (hc1 : l1.length ≤ c1) (h : dancestudioref45_Ways.f k a0_0 l0_1 l1 a2 = some (r1, r2)) :
  Calls Tryd.prog 19 #[.agg #[.string a0_0, .slice A0_1 l0_1.length c0_1], .slice A1 l1.length c1, .int .i64 a2] w fun e w' => ∃ v0_ : Value, e = .returned (.tuple #[v0_, .int .i64 r2]) ∧ Kd.R k55 55 w' w.heap.size (fun _ => True) v0_ r1 ∧ Below w.heap.size w w' := by
 have hu24 := Tryd.underlying24
 have hu52 := Tryd.underlying52
 have hu55 := Tryd.underlying55
 have HR0_1 := Aside0.mk hr0_1
 have HC0_1 := Aside0.mk hc0_1
 clear hr0_1 hc0_1
 have HR1 := Aside0.mk hr1
 have HC1 := Aside0.mk hc1
 clear hr1 hc1
 have HB := Aside0.mk (Below.refl w.heap.size w)
 have H := h
 unfold dancestudioref45_Ways.f at H
 clear h
 replace H := Option.bind_eq_some_iff.mp H
 obtain ⟨⟨t584, t587, t588⟩, A40, H⟩ := H
 try dsimp only at H
 have A4 := Aside0.mk A40
 clear A40
 by_cases c5 : t588 = 0
 rotate_left
 ·
  rw [if_neg c5] at H
  have c5b0 := beq_eq_false_iff_ne.mpr c5
  have c5b1 := bne_iff_ne.mpr c5
  simp only [Option.some.injEq, Prod.mk.injEq] at H
  obtain ⟨rfl, rfl⟩ := H
  go_enter Tryd.func19, Tryd.ntmps19
  go_wp2_with (first | ((with_reducible refine gate_dst (N := 3) rfl ?_); refine box_event rfl (N := 3) rfl (cs := #[.string a0_0, .slice A0_1 l0_1.length c0_1]) (t := 24) (by first | (go_simp; done) | (go_simp; rfl)) ?_; intro gb1 hg w23 hbox hb; have BK1 := Aside0.mk hbox; have GW1 := mGw HB hg; have GE1 := GW1; replace HB := mSt HB hb; clear hb hbox hg; have hcz24 := blk_cell BK1.out; have hfz24 := blk_frozen BK1.out) | ((with_reducible refine gate_callee (f := 16) rfl ?_); refine goesL_ (some 16) rfl rfl Tryd.func16 (by kernel_rfl) rfl #[.agg #[.string a0_0, .slice A0_1 l0_1.length c0_1], .slice A1 l1.length c1] rfl (mA2 rfl rfl) ?_; (with_reducible refine (dancestudioref45_Fit.calls k a0_0 _ _ l0_1 _ _ l1 t584 t587 t588 _ (Kd.C_below HR0_1.out HB.out) HC0_1.out (Kd.C_below HR1.out HB.out) HC1.out A4.out).mono ?_); rintro e w25 ⟨v585, rfl, ho0, hb⟩; refine ⟨_, rfl, ?_⟩; have HO586 := Aside0.mk (Kd.R_lower ho0 (below_size HB.out)); replace BK1 := mBb BK1 hb; replace HB := mSt HB hb; (try clear hb); (try clear ho0)))
  go_ret2
  exact ⟨_, rfl, by first | exact Kd.R_nil _ _ _ _ _ | exact Kd.N_nil _ _ _ _ _ | exact Kd.V_nil _ _ _ _ _ | exact Kd.Q_nil _ _ _ _ _ | exact Kd.S_nil _ _ _ _ _, HB.out⟩
 rw [if_pos c5] at H
 have c5b0 := beq_iff_eq.mpr c5
 have c5b1 := bne_eq_false_iff_eq.mpr c5
 clear c5
 replace H := Option.bind_eq_some_iff.mp H
 obtain ⟨t589, A60, H⟩ := H
 try dsimp only at H
 have A6 := Aside0.mk A60
 clear A60
 by_cases c7 : t589 = true
 rotate_left
 ·
  replace c7 := Bool.eq_false_iff.mpr c7
  subst c7
  rw [if_neg (show ¬ (false = true) by decide)] at H
  simp only [Option.some.injEq, Prod.mk.injEq] at H
  obtain ⟨rfl, rfl⟩ := H
  go_enter Tryd.func19, Tryd.ntmps19
  go_wp2_with (first | ((with_reducible refine gate_dst (N := 3) rfl ?_); refine box_event rfl (N := 3) rfl (cs := #[.string a0_0, .slice A0_1 l0_1.length c0_1]) (t := 24) (by first | (go_simp; done) | (go_simp; rfl)) ?_; intro gb1 hg w20 hbox hb; have BK1 := Aside0.mk hbox; have GW1 := mGw HB hg; have GE1 := GW1; replace HB := mSt HB hb; clear hb hbox hg; have hcz21 := blk_cell BK1.out; have hfz21 := blk_frozen BK1.out) | ((with_reducible refine gate_callee (f := 16) rfl ?_); refine goesL_ (some 16) rfl rfl Tryd.func16 (by kernel_rfl) rfl #[.agg #[.string a0_0, .slice A0_1 l0_1.length c0_1], .slice A1 l1.length c1] rfl (mA2 rfl rfl) ?_; (with_reducible refine (dancestudioref45_Fit.calls k a0_0 _ _ l0_1 _ _ l1 t584 t587 t588 _ (Kd.C_below HR0_1.out HB.out) HC0_1.out (Kd.C_below HR1.out HB.out) HC1.out A4.out).mono ?_); rintro e w22 ⟨v585, rfl, ho0, hb⟩; refine ⟨_, rfl, ?_⟩; have HO586 := Aside0.mk (Kd.R_lower ho0 (below_size HB.out)); replace BK1 := mBb BK1 hb; replace HB := mSt HB hb; (try clear hb); (try clear ho0)) | ((with_reducible refine gate_callee (f := 38) rfl ?_); refine goesL_ (some 24) rfl rfl Tryd.func38 (by kernel_rfl) rfl #[.int .i64 a2] rfl (mA1 rfl) ?_; (with_reducible refine (dancestudioref03_Radius.calls a2 false _ A6.out).mono ?_); rintro e w' ⟨rfl, ⟨nd, rfl⟩⟩; refine ⟨_, rfl, ?_⟩))
  go_ret2
  exact ⟨_, rfl, by first | exact Kd.R_nil _ _ _ _ _ | exact Kd.N_nil _ _ _ _ _ | exact Kd.V_nil _ _ _ _ _ | exact Kd.Q_nil _ _ _ _ _ | exact Kd.S_nil _ _ _ _ _, hO HB⟩
 subst c7
 rw [if_pos rfl] at H
 have H' := Aside0.mk H
 clear H
 go_enter Tryd.func19, Tryd.ntmps19
 go_wp2_with (first | ((with_reducible refine gate_dst (N := 3) rfl ?_); refine box_event rfl (N := 3) rfl (cs := #[.string a0_0, .slice A0_1 l0_1.length c0_1]) (t := 24) (by first | (go_simp; done) | (go_simp; rfl)) ?_; intro gb1 hg w8 hbox hb; have BK1 := Aside0.mk hbox; have GW1 := mGw HB hg; have GE1 := GW1; replace HB := mSt HB hb; clear hb hbox hg; have hcz9 := blk_cell BK1.out; have hfz9 := blk_frozen BK1.out) | ((with_reducible refine gate_callee (f := 16) rfl ?_); refine goesL_ (some 16) rfl rfl Tryd.func16 (by kernel_rfl) rfl #[.agg #[.string a0_0, .slice A0_1 l0_1.length c0_1], .slice A1 l1.length c1] rfl (mA2 rfl rfl) ?_; (with_reducible refine (dancestudioref45_Fit.calls k a0_0 _ _ l0_1 _ _ l1 t584 t587 t588 _ (Kd.C_below HR0_1.out HB.out) HC0_1.out (Kd.C_below HR1.out HB.out) HC1.out A4.out).mono ?_); rintro e w10 ⟨v585, rfl, ho0, hb⟩; refine ⟨_, rfl, ?_⟩; have HO586 := Aside0.mk (Kd.R_lower ho0 (below_size HB.out)); replace BK1 := mBb BK1 hb; replace HB := mSt HB hb; (try clear hb); (try clear ho0)) | ((with_reducible refine gate_callee (f := 38) rfl ?_); refine goesL_ (some 24) rfl rfl Tryd.func38 (by kernel_rfl) rfl #[.int .i64 a2] rfl (mA1 rfl) ?_; (with_reducible refine (dancestudioref03_Radius.calls a2 true _ A6.out).mono ?_); rintro e w' ⟨rfl, ⟨nd, rfl⟩⟩; refine ⟨_, rfl, ?_⟩))
 go_loopg [11, 12] k (fun kq v11 v12 w' => ∃ (x11_1 : List (S55)) (x12_1 : Int), v12 = .int .i64 x12_1 ∧ Aside0 (dancestudioref45_Ways.l0 kq l1 a2 t584 x11_1 x12_1 a0_0 l0_1 = some (r1, r2)) ∧ Aside0 (kq ≤ k) ∧ Aside0 (Kd.R (Kd.int .i64) 3 w' w.heap.size (fun _ => True) v585 t584) ∧ Aside0 (Kd.R k55 55 w' w.heap.size (fun _ => True) v11 x11_1) ∧ Aside0 (w'.heap[gb1]? = some (.cells #[.string a0_0, (.slice A0_1 l0_1.length c0_1)] 24 (0, 0))) ∧ Aside0 (Below w.heap.size w w'))
 case atStart => exact ⟨(([] : List (S55))), (0), rfl, H', ⟨Nat.le_refl _⟩, HO586, ⟨by first | exact Kd.R_nil _ _ _ _ _ | exact Kd.N_nil _ _ _ _ _ | exact Kd.V_nil _ _ _ _ _ | exact Kd.Q_nil _ _ _ _ _ | exact Kd.S_nil _ _ _ _ _⟩, ⟨BK1.out⟩, ⟨hO HB⟩⟩
 case round =>
  clear H'
  try clear c1; try clear p2; try clear c3; try clear c5; try clear c5b0; try clear c5b1; try clear c7; try clear hcz9_0; try clear hcz9_1; try clear hfz9_0; try clear hfz9_1
  obtain ⟨x11_1, x12_1, rfl, HA, HK1, HO_8, HO_11, BK1, HB⟩ := hrel
  cases gk with
  | zero => exact absurd HA.out (by simp [dancestudioref45_Ways.l0])
  | succ k1 =>
   have H := HA.out
   clear HA
   simp only [dancestudioref45_Ways.l0] at H
   by_cases c11 : x12_1 < (l1.length : Int)
   rotate_left
   ·
    rw [if_neg c11] at H
    have c11b0 := decide_eq_false c11
    clear c11
    simp only [Option.some.injEq, Prod.mk.injEq] at H
    obtain ⟨rfl, rfl⟩ := H
    go_wp2
    go_ret2
    exact ⟨_, rfl, by exact HO_11.out, HB.out⟩
   rw [if_pos c11] at H
   have c11b0 := decide_eq_true c11
   clear c11
   obtain ⟨c12, H⟩ : (0 ≤ x12_1) ∧ _ := mIf H
   have c12b0 := decide_eq_true c12
   clear c12
   obtain ⟨c13, H⟩ : (x12_1 < (t584.length : Int)) ∧ _ := mIf H
   have c13b0 := decide_eq_true c13
   clear c13
   obtain ⟨c14, H⟩ : (0 ≤ (rd t584 x12_1)) ∧ _ := mIf H
   have c14b0 := decide_eq_true c14
   clear c14
   obtain ⟨c15, H⟩ : ((rd t584 x12_1) < (l0_1.length : Int)) ∧ _ := mIf H
   have c15b0 := decide_eq_true c15
   clear c15
   obtain ⟨c16, H⟩ : (x11_1.length < 3518437208883) ∧ _ := mIf H
   have LMc16 := Aside0.mk c16
   clear c16
   obtain ⟨y593, hy593⟩ : ∃ y_ : List (S55), y_ = (x11_1 ++ [(⟨(⟨(rd_T52 l1 x12_1).f0, (rd_T52 l1 x12_1).f1⟩ : S52), (⟨(rd_T52 l0_1 (rd t584 x12_1)).f0, (rd_T52 l0_1 (rd t584 x12_1)).f1⟩ : S52), a2⟩ : S55)]) := ⟨_, rfl⟩
   rw [← hy593] at H
   have Ny593 := Aside0.mk hy593
   clear hy593
   have H' := Aside0.mk H
   clear H
   try go_wp2
   replace HO_8 := Aside0.mk (Kd.R_drew HO_8.out); replace HO_11 := Aside0.mk (Kd.R_drew HO_11.out); replace BK1 := Aside0.mk (blk_drew BK1.out); replace HB := Aside0.mk (below_drew1 HB.out)
   have p590 : 0 ≤ (x12_1 : Int) := of_decide_eq_true (by assumption)
   have q590 : x12_1 < (l1.length : Int) := of_decide_eq_true (by assumption)
   obtain ⟨ad590, e590, hx590_0, hx590_1⟩ := at_T52 HR1.out x12_1 p590 q590
   have hw590_1 := hx590_1
   have hw590_0 := hx590_0
   cases e590
   replace hx590_0 := mHx HB hx590_0
   replace hx590_1 := mHx HB hx590_1
   replace p590 := eq_true p590
   replace q590 := eq_true q590
   obtain ⟨Ao18, co18, eo18⟩ := Kd.R_slice HO_8.out
   subst eo18
   have p591 : 0 ≤ (x12_1 : Int) := of_decide_eq_true (by assumption)
   have q591 : x12_1 < (t584.length : Int) := of_decide_eq_true (by assumption)
   obtain ⟨ad591, e591, hx591_0⟩ := Kd.at_int (Kd.R_reads' HO_8.out).2.2 x12_1 p591 q591
   cases e591
   replace p591 := eq_true p591
   replace q591 := eq_true q591
   have p592 : 0 ≤ ((rd t584 x12_1) : Int) := of_decide_eq_true (by assumption)
   have q592 : (rd t584 x12_1) < (l0_1.length : Int) := of_decide_eq_true (by assumption)
   obtain ⟨ad592, e592, hx592_0, hx592_1⟩ := at_T52 HR0_1.out (rd t584 x12_1) p592 q592
   have hw592_1 := hx592_1
   have hw592_0 := hx592_0
   cases e592
   replace hx592_0 := mHx HB hx592_0
   replace hx592_1 := mHx HB hx592_1
   replace p592 := eq_true p592
   replace q592 := eq_true q592
   refine start_ (n := 18) (S := fun w' => w'.cell? ⟨gb1, 0, none⟩ = some (.string a0_0) ∧ w'.cell? ⟨gb1, 1, none⟩ = some (.slice (some ad592) l0_1.length c0_1) ∧ w'.cell? (ad590.add ((x12_1).toNat * 2)) = some (.int .i64 ((rd_T52 l1 x12_1).f0)) ∧ w'.cell? ⟨(ad590.add ((x12_1).toNat * 2)).block, (ad590.add ((x12_1).toNat * 2)).off + 1, none⟩ = some (.int .i64 ((rd_T52 l1 x12_1).f1)) ∧ w'.cell? (ad591.add (x12_1).toNat) = some (.int .i64 (rd t584 x12_1)) ∧ w'.cell? (ad592.add (((rd t584 x12_1)).toNat * 2)) = some (.int .i64 ((rd_T52 l0_1 (rd t584 x12_1)).f0)) ∧ w'.cell? ⟨(ad592.add (((rd t584 x12_1)).toNat * 2)).block, (ad592.add (((rd t584 x12_1)).toNat * 2)).off + 1, none⟩ = some (.int .i64 ((rd_T52 l0_1 (rd t584 x12_1)).f1))) (ds := [15, 16]) #[false, false, false, false, false, false, false, false, false, false, false, false, false, false, false, false, false, false] (by kernel_rfl) rfl rfl ⟨(blk_cell BK1.out 0).trans rfl, (blk_cell BK1.out 1).trans rfl, ((HB.out.cell (World.block_lt_of_cell? w _ hw590_0)).trans hw590_0), ((HB.out.cell (World.block_lt_of_cell? w _ hw590_1)).trans hw590_1), hx591_0, ((HB.out.cell (World.block_lt_of_cell? w _ hw592_0)).trans hw592_0), ((HB.out.cell (World.block_lt_of_cell? w _ hw592_1)).trans hw592_1)⟩ (fun hHeld => ?_); refine with_tabW dancestudioref45_Ways.tab10 dancestudioref45_Ways.bits10 (fun HT_ HW_ => ?_)
   generalize wr.drew = w17 at HO_8 HO_11 BK1 HB hx590_0 hx590_1 hx591_0 hx592_0 hx592_1 hHeld ⊢
   refine pM 0 32 HT_ ?_
   refine pM 1 33 HT_ ?_
   refine pM 2 34 HT_ ?_
   refine pM 3 35 HT_ ?_
   refine pM 5 37 HT_ ?_
   refine pM 7 39 HT_ ?_
   refine pM 8 40 HT_ ?_
   refine pM 9 41 HT_ ?_
   refine pM 13 45 HT_ ?_
   refine tM 4 36 rfl HT_ HW_ (by rintro w' ⟨s0, s1, s2, s3, s4, s5, s6⟩; go_simp; with_reducible rfl) hHeld ?_
   refine tM 6 38 rfl HT_ HW_ (by rintro w' ⟨s0, s1, s2, s3, s4, s5, s6⟩; go_simp; with_reducible rfl) hHeld ?_
   refine tM 10 42 rfl HT_ HW_ (by rintro w' ⟨s0, s1, s2, s3, s4, s5, s6⟩; go_simp; with_reducible rfl) hHeld ?_
   refine pM 11 43 HT_ ?_
   refine tM 12 44 rfl HT_ HW_ (by rintro w' ⟨s0, s1, s2, s3, s4, s5, s6⟩; go_simp; with_reducible rfl) hHeld ?_
   refine pM 14 46 HT_ ?_
   refine last_ (i := 15) (N := some 47) #[true, true, true, true, true, true, true, true, true, true, true, true, true, true, true, true, false, false] rfl rfl (one_of HT_.out (by kernel_rfl)) (by decide) (fun K hK => ?_)
   refine value_ (w1 := ?_) (v := ?_) (by rfl) rfl ?_ ?_
   rotate_left 2
   ·
    go_simp
    constructor
    ·
     rfl
    ·
     rfl
   refine hK.out _ _ ?_
   clear hK K
   refine norm_ (by show Act.put _ (some 47) _ = _; simp only [mP]; rfl) ?_
   refine last_ (i := 16) (N := some 48) #[true, true, true, true, true, true, true, true, true, true, true, true, true, true, true, true, true, false] rfl rfl (one_of HT_.out (by kernel_rfl)) (by decide) (fun K hK => ?_)
   refine Kd.R_append_step k55 (w0 := w) w.heap.size (by rfl) (.tmp 32) (.tmp 47) 34 55 (.agg #[(.int .i64 0), (.int .i64 0), (.int .i64 0), (.int .i64 0), (.int .i64 0)]) 40 rfl Tryd.underlying34 info55 rfl (by decide) (by omega) u11 x11_1 (⟨(⟨(rd_T52 l1 x12_1).f0, (rd_T52 l1 x12_1).f1⟩ : S52), (⟨(rd_T52 l0_1 (rd t584 x12_1)).f0, (rd_T52 l0_1 (rd t584 x12_1)).f1⟩ : S52), a2⟩ : S55) [.int .i64 ((rd_T52 l1 x12_1).f0), .int .i64 ((rd_T52 l1 x12_1).f1), .int .i64 ((rd_T52 l0_1 (rd t584 x12_1)).f0), .int .i64 ((rd_T52 l0_1 (rd t584 x12_1)).f1), .int .i64 a2] (fun _ => True) (fun _ => False) rfl rfl ?aP (fun _ hk => hk.elim) ?aF ?aO ?aB ?aS ?aL ?_
   (case aP => exact k55_mkM _ _ _ (⟨(⟨(rd_T52 l1 x12_1).f0, (rd_T52 l1 x12_1).f1⟩ : S52), (⟨(rd_T52 l0_1 (rd t584 x12_1)).f0, (rd_T52 l0_1 (rd t584 x12_1)).f1⟩ : S52), a2⟩ : S55))
   (case aB => exact HB.out)
   (case aF => exact (fun _ _ => trivial))
   (case aO => exact HO_11.out)
   (case aS => exact (below_size HB.out))
   (case aL => have := LMc16.out; omega)
   intro v594 w19 ho hb hg hat
   rw [← Ny593.out] at ho
   replace HO_8 := Aside0.mk (Kd.R_over' HO_8.out (Kd.R_typed HO_11.out) (by decide) hg); replace BK1 := Aside0.mk (blk_grown (g := gb1) (o := .cells #[.string a0_0, .slice (some ad592) l0_1.length c0_1] 24 (0, 0)) BK1.out hg (Kd.R_ne HO_11.out BK1.out (by decide))); replace HB := Aside0.mk hb; have HO595 := Aside0.mk ho; clear HO_11
   clear ho hb hg hat
   refine hK.out _ _ ?_
   clear hK K
   refine norm_ (by show Act.put _ (some 48) _ = _; simp only [mP]; rfl) ?_
   refine pM 17 11 HT_ ?_
   refine done_ (done_of HT_.out (by kernel_rfl)) ?_
   try go_wp2
   go_roundg k1
   case measure => have := HK1.out; omega
   case rel => exact ⟨(y593), (wrap64 (x12_1 + 1)), rfl, H', ⟨by have := HK1.out; omega⟩, HO_8, HO595, ⟨BK1.out⟩, ⟨HB.out⟩⟩
end Go.Proofs.YtaggccbndmmbhaaDoor.PAll
