-- Written by wip/tools/handprint.py: walks of the functions that the law reaches; Lean checks them.
import Derived.Test.YtaggccbndmmbhaaDoorBase
import Derived.Test.YtaggccbndmmbhaaDoorPAllf15
namespace Go.Proofs.YtaggccbndmmbhaaDoor.PAll
open Go.RowKit Go.Proofs.YtaggccbndmmbhaaDoorW.PrintWords Go.Proofs.YtaggccbndmmbhaaDoorW.PrintLast Go.Proofs.YtaggccbndmmbhaaDoorW.PrintMore
attribute [local go_sem] max2_int min2_int max_two min_two max_three min_three max_four min_four   -- for this text's walks alone
set_option linter.unusedVariables false
set_option linter.unusedSimpArgs false

/-! ### formation_Ways: function 18 -/
mutual
def formation_Ways.j0 : Nat → List (S52) → Int → List Int → Bool → ByteArray → List (S52) → Option ((List (S55)) × Int)
 | 0, _, _, _, _, _, _ => none
 | k + 1, x1, x2, x8, x29, x281000, x281001 => if x29 = true then (some (([] : List (S55)), 1)) else (formation_Ways.l0 k x1 x2 ([] : List (S55)) x8 (x8.length : Int) 0 x281000 x281001)
def formation_Ways.l0 : Nat → List (S52) → Int → List (S55) → List Int → Int → Int → ByteArray → List (S52) → Option ((List (S55)) × Int)
 | 0, _, _, _, _, _, _, _, _ => none
 | k + 1, x1, x2, x11, x30, x31, x32, x281000, x281001 => if x32 < x31 then (if 0 ≤ x32 then (if x32 < (x30.length : Int) then (if x32 < (x1.length : Int) then (if 0 ≤ (rd x30 x32) then (if (rd x30 x32) < (x281001.length : Int) then (if x11.length < 3518437208883 then (formation_Ways.l0 k x1 x2 (x11 ++ [(⟨(⟨(rd_T52 x1 x32).f0, (rd_T52 x1 x32).f1⟩ : S52), (⟨(rd_T52 x281001 (rd x30 x32)).f0, (rd_T52 x281001 (rd x30 x32)).f1⟩ : S52), x2⟩ : S55)]) x30 x31 (wrap64 (x32 + 1)) x281000 x281001) else (none)) else (none)) else (none)) else (none)) else (none)) else (none)) else (some (x11, 0))
end
def formation_Ways.f (k : Nat) (a0_0 : ByteArray) (l0_1 : List (S52)) (l1 : List (S52)) (a2 : Int) : Option ((List (S55)) × Int) := (formation_Fit.f k a0_0 l0_1 l1).bind fun bt281 => (if bt281.2.2 = 0 then (if a2 < 0 then (formation_Ways.j0 k l1 a2 bt281.1 true a0_0 l0_1) else (formation_Ways.j0 k l1 a2 bt281.1 (decide (a2 > 32768)) a0_0 l0_1)) else (some (([] : List (S55)), bt281.2.2)))
def formation_Ways.T10 : Bool × List (List Nat × List Nat) := (true, [([], []), ([], []), ([], []), ([1, 2], [1, 2]), ([3], [3]), ([], []), ([5], [5]), ([], []), ([6, 7], [6, 7]), ([8], [8]), ([], []), ([4, 9, 10], [4, 9, 10]), ([11], [11]), ([0, 12], [0, 12]), ([13, 13, 0, 1, 2, 3, 4, 5, 6, 7, 8, 9, 10, 11, 12, 13], [0, 13])])
def formation_Ways.B10 : List Nat := [0, 0, 0, 6, 14, 0, 32, 0, 224, 480, 0, 2046, 4094, 8191, 16383]
theorem formation_Ways.tab10 : rtab .any (opsOf Tryd.f18 10) = formation_Ways.T10 := by kernel_rfl
theorem formation_Ways.bits10 : waitsOk formation_Ways.T10.2 formation_Ways.B10 = true := by kernel_rfl
set_option maxHeartbeats 8000000 in
set_option maxRecDepth 100000 in
theorem formation_Ways.calls (k : Nat) (a0_0 : ByteArray) (A0_1 : Option Addr) (c0_1 : Nat) (l0_1 : List (S52)) (A1 : Option Addr) (c1 : Nat) (l1 : List (S52)) (a2 : Int) (r1 : List (S55)) (r2 : Int) (w : World) (hr0_1 : Kd.C k52 w A0_1 l0_1.length l0_1) (hc0_1 : l0_1.length ≤ c0_1) (hr1 : Kd.C k52 w A1 l1.length l1) (hc1 : l1.length ≤ c1) (hmx : Mx w) (h : formation_Ways.f k a0_0 l0_1 l1 a2 = some (r1, r2)) :
  Calls Tryd.prog 18 #[.agg #[.string a0_0, .slice A0_1 l0_1.length c0_1], .slice A1 l1.length c1, .int .i64 a2] w fun e w' => ∃ v0_ : Value, e = .returned (.tuple #[v0_, .int .i64 r2]) ∧ Kd.R k55 55 w' w.heap.size (fun _ => True) v0_ r1 ∧ Below w.heap.size w w' := by
 have HMX_ := Aside0.mk hmx
 clear hmx
 have hu24 := Tryd.underlying24
 have hu52 := Tryd.underlying52
 have hu55 := Tryd.underlying55
 have HR0_1 := Aside0.mk hr0_1
 have HC0_1 := Aside0.mk hc0_1
 clear hr0_1 hc0_1
 have HR1 := Aside0.mk hr1
 have HC1 := Aside0.mk hc1
 clear hr1 hc1
 have HB := Aside0.mk (Below.refl w.heap.size w)
 have H := h
 unfold formation_Ways.f at H
 clear h
 replace H := Option.bind_eq_some_iff.mp H
 obtain ⟨⟨t281, t284, t285⟩, A40, H⟩ := H
 try dsimp only at H
 have A4 := Aside0.mk A40
 clear A40
 by_cases c5 : t285 = 0
 rotate_left
 ·
  rw [if_neg c5] at H
  have c5b0 := beq_eq_false_iff_ne.mpr c5
  have c5b1 := bne_iff_ne.mpr c5
  simp only [Option.some.injEq, Prod.mk.injEq] at H
  obtain ⟨rfl, rfl⟩ := H
  go_enter Tryd.func18, Tryd.ntmps18
  go_wp2_with (first | ((with_reducible refine gate_dst (N := 3) rfl ?_); refine box_event rfl (N := 3) rfl (cs := #[.string a0_0, .slice A0_1 l0_1.length c0_1]) (t := 24) (by first | (go_simp; done) | (go_simp; rfl)) ?_; intro gb1 hg w22 hbox hb; have BK1 := Aside0.mk hbox; have GW1 := mGw HB hg; have GE1 := GW1; replace HB := mSt HB hb; clear hb hbox hg; have hcz23 := blk_cell BK1.out; have hfz23 := blk_frozen BK1.out) | ((with_reducible refine gate_callee (f := 15) rfl ?_); refine goesL_ (some 17) rfl rfl Tryd.func15 (by kernel_rfl) rfl #[.agg #[.string a0_0, .slice A0_1 l0_1.length c0_1], .slice A1 l1.length c1] rfl (mA2 rfl rfl) ?_; (with_reducible refine (formation_Fit.calls k a0_0 _ _ l0_1 _ _ l1 t281 t284 t285 _ (Kd.C_below HR0_1.out HB.out) HC0_1.out (Kd.C_below HR1.out HB.out) HC1.out (Mx.below HMX_.out HB.out) A4.out).mono ?_); rintro e w24 ⟨v282, rfl, ho0, hb⟩; refine ⟨_, rfl, ?_⟩; have HO283 := Aside0.mk (Kd.R_lower ho0 (below_size HB.out)); replace BK1 := mBb BK1 hb; replace HB := mSt HB hb; (try clear hb); (try clear ho0)))
  go_ret2
  exact ⟨_, rfl, by first | exact Kd.R_nil _ _ _ _ _ | exact Kd.N_nil _ _ _ _ _ | exact Kd.V_nil _ _ _ _ _ | exact Kd.Q_nil _ _ _ _ _ | exact Kd.S_nil _ _ _ _ _, HB.out⟩
 rw [if_pos c5] at H
 have c5b0 := beq_iff_eq.mpr c5
 have c5b1 := bne_eq_false_iff_eq.mpr c5
 clear c5
 have HC6 := Aside0.mk H
 clear H
 go_enter Tryd.func18, Tryd.ntmps18
 go_upto_region 4 with (first | ((with_reducible refine gate_dst (N := 3) rfl ?_); refine box_event rfl (N := 3) rfl (cs := #[.string a0_0, .slice A0_1 l0_1.length c0_1]) (t := 24) (by first | (go_simp; done) | (go_simp; rfl)) ?_; intro gb1 hg w7 hbox hb; have BK1 := Aside0.mk hbox; have GW1 := mGw HB hg; have GE1 := GW1; replace HB := mSt HB hb; clear hb hbox hg; have hcz8 := blk_cell BK1.out; have hfz8 := blk_frozen BK1.out) | ((with_reducible refine gate_callee (f := 15) rfl ?_); refine goesL_ (some 17) rfl rfl Tryd.func15 (by kernel_rfl) rfl #[.agg #[.string a0_0, .slice A0_1 l0_1.length c0_1], .slice A1 l1.length c1] rfl (mA2 rfl rfl) ?_; (with_reducible refine (formation_Fit.calls k a0_0 _ _ l0_1 _ _ l1 t281 t284 t285 _ (Kd.C_below HR0_1.out HB.out) HC0_1.out (Kd.C_below HR1.out HB.out) HC1.out (Mx.below HMX_.out HB.out) A4.out).mono ?_); rintro e w9 ⟨v282, rfl, ho0, hb⟩; refine ⟨_, rfl, ?_⟩; have HO283 := Aside0.mk (Kd.R_lower ho0 (below_size HB.out)); replace BK1 := mBb BK1 hb; replace HB := mSt HB hb; (try clear hb); (try clear ho0)))
 (try simp only [Act.put, List.setIfInBounds_toArray, List.set_cons_zero, List.set_cons_succ])
 go_cut [29] (fun v29 wc => ∃ (kq : Nat) (x29_5 : Bool), v29 = .bool x29_5 ∧ Aside0 (formation_Ways.j0 kq l1 a2 t281 x29_5 a0_0 l0_1 = some (r1, r2)) ∧ Aside0 (kq ≤ k) ∧ Aside0 (Kd.R (Kd.int .i64) 3 wc w.heap.size (fun _ => True) v282 t281) ∧ Aside0 (wc.heap[gb1]? = some (.cells #[.string a0_0, (.slice A0_1 l0_1.length c0_1)] 24 (0, 0))) ∧ Aside0 (Below w.heap.size w wc))
 case first =>
  have H := HC6.out
  clear HC6
  by_cases c10 : a2 < 0
  rotate_left
  ·
   rw [if_neg c10] at H
   have c10b0 := decide_eq_false c10
   clear c10
   (first | rw [c10b0] | (simp only [i64_w, i32_w]; rw [c10b0]) | skip)
   have H' := Aside0.mk H
   clear H
   go_wp2
   go_meet
   case rel => exact ⟨_, (decide (a2 > 32768)), rfl, H', ⟨by first | omega | exact Nat.le_refl _⟩, HO283, ⟨BK1.out⟩, ⟨HB.out⟩⟩
  rw [if_pos c10] at H
  have c10b0 := decide_eq_true c10
  clear c10
  (first | rw [c10b0] | (simp only [i64_w, i32_w]; rw [c10b0]) | skip)
  have H' := Aside0.mk H
  clear H
  go_wp2
  go_meet
  case rel => exact ⟨_, (true), rfl, H', ⟨by first | omega | exact Nat.le_refl _⟩, HO283, ⟨BK1.out⟩, ⟨HB.out⟩⟩
 case rest =>
  clear HC6; try clear c1; try clear p2; try clear c5; try clear c5b0; try clear c5b1; try clear c10; try clear c10b0; try clear hcz8_0; try clear hcz8_1; try clear hfz8_0; try clear hfz8_1
  obtain ⟨kq, x29_5, rfl, HA, HJ5, HO_8, BK1, HB⟩ := hcut
  cases kq with
  | zero => exact absurd HA.out (by simp [formation_Ways.j0])
  | succ kj5 =>
   have H := HA.out
   clear HA
   simp only [formation_Ways.j0] at H
   by_cases c11 : x29_5 = true
   ·
    subst c11
    rw [if_pos rfl] at H
    simp only [Option.some.injEq, Prod.mk.injEq] at H
    obtain ⟨rfl, rfl⟩ := H
    go_wp2
    go_ret2
    exact ⟨_, rfl, by first | exact Kd.R_nil _ _ _ _ _ | exact Kd.N_nil _ _ _ _ _ | exact Kd.V_nil _ _ _ _ _ | exact Kd.Q_nil _ _ _ _ _ | exact Kd.S_nil _ _ _ _ _, HB.out⟩
   replace c11 := Bool.eq_false_iff.mpr c11
   subst c11
   rw [if_neg (show ¬ (false = true) by decide)] at H
   have H' := Aside0.mk H
   clear H
   obtain ⟨Ao12, co12, eo12⟩ := Kd.R_slice HO_8.out
   subst eo12
   go_wp2
   go_loopg [11, 32] kj5 (fun kq v11 v32 w' => ∃ (x11_2 : List (S55)) (x32_2 : Int), v32 = .int .i64 x32_2 ∧ Aside0 (formation_Ways.l0 kq l1 a2 x11_2 t281 (t281.length : Int) x32_2 a0_0 l0_1 = some (r1, r2)) ∧ Aside0 (kq ≤ kj5) ∧ Aside0 (Kd.R k55 55 w' w.heap.size (fun _ => True) v11 x11_2) ∧ Aside0 (Kd.R (Kd.int .i64) 3 w' w.heap.size (fun _ => True) (.slice Ao12 t281.length co12) t281) ∧ Aside0 (w'.heap[gb1]? = some (.cells #[.string a0_0, (.slice A0_1 l0_1.length c0_1)] 24 (0, 0))) ∧ Aside0 (Below w.heap.size w w'))
   case atStart => exact ⟨(([] : List (S55))), (0), rfl, H', ⟨Nat.le_refl _⟩, ⟨by first | exact Kd.R_nil _ _ _ _ _ | exact Kd.N_nil _ _ _ _ _ | exact Kd.V_nil _ _ _ _ _ | exact Kd.Q_nil _ _ _ _ _ | exact Kd.S_nil _ _ _ _ _⟩, HO_8, ⟨BK1.out⟩, ⟨HB.out⟩⟩
   case round =>
    clear H'
    try clear c1; try clear p2; try clear c5; try clear c5b0; try clear c5b1; try clear c10; try clear c10b0; try clear c11; try clear hcz8_0; try clear hcz8_1; try clear hfz8_0; try clear hfz8_1
    obtain ⟨x11_2, x32_2, rfl, HA, HK2, HO_11, HO_30, BK1, HB⟩ := hrel
    cases gk with
    | zero => exact absurd HA.out (by simp [formation_Ways.l0])
    | succ k2 =>
     have H := HA.out
     clear HA
     simp only [formation_Ways.l0] at H
     by_cases c13 : x32_2 < (t281.length : Int)
     rotate_left
     ·
      rw [if_neg c13] at H
      have c13b0 := decide_eq_false c13
      clear c13
      simp only [Option.some.injEq, Prod.mk.injEq] at H
      obtain ⟨rfl, rfl⟩ := H
      go_wp2
      go_ret2
      exact ⟨_, rfl, by exact HO_11.out, HB.out⟩
     rw [if_pos c13] at H
     have c13b0 := decide_eq_true c13
     clear c13
     obtain ⟨c14, H⟩ : (0 ≤ x32_2) ∧ _ := mIf H
     have c14b0 := decide_eq_true c14
     clear c14
     obtain ⟨c15, H⟩ : (x32_2 < (t281.length : Int)) ∧ _ := mIf H
     have c15b0 := decide_eq_true c15
     clear c15
     obtain ⟨c16, H⟩ : (x32_2 < (l1.length : Int)) ∧ _ := mIf H
     have c16b0 := decide_eq_true c16
     clear c16
     obtain ⟨c17, H⟩ : (0 ≤ (rd t281 x32_2)) ∧ _ := mIf H
     have c17b0 := decide_eq_true c17
     clear c17
     obtain ⟨c18, H⟩ : ((rd t281 x32_2) < (l0_1.length : Int)) ∧ _ := mIf H
     have c18b0 := decide_eq_true c18
     clear c18
     obtain ⟨c19, H⟩ : (x11_2.length < 3518437208883) ∧ _ := mIf H
     have LMc19 := Aside0.mk c19
     clear c19
     obtain ⟨y289, hy289⟩ : ∃ y_ : List (S55), y_ = (x11_2 ++ [(⟨(⟨(rd_T52 l1 x32_2).f0, (rd_T52 l1 x32_2).f1⟩ : S52), (⟨(rd_T52 l0_1 (rd t281 x32_2)).f0, (rd_T52 l0_1 (rd t281 x32_2)).f1⟩ : S52), a2⟩ : S55)]) := ⟨_, rfl⟩
     rw [← hy289] at H
     have Ny289 := Aside0.mk hy289
     clear hy289
     have H' := Aside0.mk H
     clear H
     have p286 : 0 ≤ (x32_2 : Int) := of_decide_eq_true (by assumption)
     have q286 : x32_2 < (t281.length : Int) := of_decide_eq_true (by assumption)
     obtain ⟨ad286, e286, hx286_0⟩ := Kd.at_int (Kd.R_reads' HO_30.out).2.2 x32_2 p286 q286
     cases e286
     replace p286 := eq_true p286
     replace q286 := eq_true q286
     try go_wp2
     replace HO_11 := Aside0.mk (Kd.R_drew HO_11.out); replace HO_30 := Aside0.mk (Kd.R_drew HO_30.out); replace BK1 := Aside0.mk (blk_drew BK1.out); replace HB := Aside0.mk (below_drew1 HB.out)
     have p287 : 0 ≤ (x32_2 : Int) := of_decide_eq_true (by assumption)
     have q287 : x32_2 < (l1.length : Int) := of_decide_eq_true (by assumption)
     obtain ⟨ad287, e287, hx287_0, hx287_1⟩ := at_T52 HR1.out x32_2 p287 q287
     have hw287_1 := hx287_1
     have hw287_0 := hx287_0
     cases e287
     replace hx287_0 := mHx HB hx287_0
     replace hx287_1 := mHx HB hx287_1
     replace p287 := eq_true p287
     replace q287 := eq_true q287
     have p288 : 0 ≤ ((rd t281 x32_2) : Int) := of_decide_eq_true (by assumption)
     have q288 : (rd t281 x32_2) < (l0_1.length : Int) := of_decide_eq_true (by assumption)
     obtain ⟨ad288, e288, hx288_0, hx288_1⟩ := at_T52 HR0_1.out (rd t281 x32_2) p288 q288
     have hw288_1 := hx288_1
     have hw288_0 := hx288_0
     cases e288
     replace hx288_0 := mHx HB hx288_0
     replace hx288_1 := mHx HB hx288_1
     replace p288 := eq_true p288
     replace q288 := eq_true q288
     refine start_ (n := 15) (S := fun w' => w'.cell? ⟨gb1, 0, none⟩ = some (.string a0_0) ∧ w'.cell? ⟨gb1, 1, none⟩ = some (.slice (some ad288) l0_1.length c0_1) ∧ w'.cell? (ad287.add ((x32_2).toNat * 2)) = some (.int .i64 ((rd_T52 l1 x32_2).f0)) ∧ w'.cell? ⟨(ad287.add ((x32_2).toNat * 2)).block, (ad287.add ((x32_2).toNat * 2)).off + 1, none⟩ = some (.int .i64 ((rd_T52 l1 x32_2).f1)) ∧ w'.cell? (ad288.add (((rd t281 x32_2)).toNat * 2)) = some (.int .i64 ((rd_T52 l0_1 (rd t281 x32_2)).f0)) ∧ w'.cell? ⟨(ad288.add (((rd t281 x32_2)).toNat * 2)).block, (ad288.add (((rd t281 x32_2)).toNat * 2)).off + 1, none⟩ = some (.int .i64 ((rd_T52 l0_1 (rd t281 x32_2)).f1))) (ds := []) #[false, false, false, false, false, false, false, false, false, false, false, false, false, false, false] (by kernel_rfl) rfl rfl ⟨(blk_cell BK1.out 0).trans rfl, (blk_cell BK1.out 1).trans rfl, ((HB.out.cell (World.block_lt_of_cell? w _ hw287_0)).trans hw287_0), ((HB.out.cell (World.block_lt_of_cell? w _ hw287_1)).trans hw287_1), ((HB.out.cell (World.block_lt_of_cell? w _ hw288_0)).trans hw288_0), ((HB.out.cell (World.block_lt_of_cell? w _ hw288_1)).trans hw288_1)⟩ (fun hHeld => ?_); refine with_tabW formation_Ways.tab10 formation_Ways.bits10 (fun HT_ HW_ => ?_)
     generalize wr.drew = w20 at HO_11 HO_30 BK1 HB hx287_0 hx287_1 hx288_0 hx288_1 hHeld ⊢
     refine pM 0 37 HT_ ?_
     refine pM 1 38 HT_ ?_
     refine pM 2 39 HT_ ?_
     refine pM 3 40 HT_ ?_
     refine pM 5 42 HT_ ?_
     refine pM 7 44 HT_ ?_
     refine pM 10 47 HT_ ?_
     refine tM 4 41 rfl HT_ HW_ (by rintro w' ⟨s0, s1, s2, s3, s4, s5⟩; go_simp; with_reducible rfl) hHeld ?_
     refine tM 6 43 rfl HT_ HW_ (by rintro w' ⟨s0, s1, s2, s3, s4, s5⟩; go_simp; with_reducible rfl) hHeld ?_
     refine pM 8 45 HT_ ?_
     refine tM 9 46 rfl HT_ HW_ (by rintro w' ⟨s0, s1, s2, s3, s4, s5⟩; go_simp; with_reducible rfl) hHeld ?_
     refine pM 11 48 HT_ ?_
     refine one_ (i := 12) (N := some 49) #[true, true, true, true, true, true, true, true, true, true, true, true, true, false, false] rfl rfl (one_of HT_.out (by kernel_rfl)) (by decide) (fun K hK => ?_)
     refine value_ (w1 := ?_) (v := ?_) (by rfl) rfl ?_ ?_
     rotate_left 2
     ·
      go_simp
      constructor
      ·
       rfl
      ·
       rfl
     refine hK.out _ _ ⟨(blk_cell (blk_alloc BK1.out _) 0).trans rfl, (blk_cell (blk_alloc BK1.out _) 1).trans rfl, (World.cell?_alloc_lt _ _ _ (World.block_lt_of_cell? _ _ (((HB.out.cell (World.block_lt_of_cell? w _ hw287_0)).trans hw287_0)))).trans (((HB.out.cell (World.block_lt_of_cell? w _ hw287_0)).trans hw287_0)), (World.cell?_alloc_lt _ _ _ (World.block_lt_of_cell? _ _ (((HB.out.cell (World.block_lt_of_cell? w _ hw287_1)).trans hw287_1)))).trans (((HB.out.cell (World.block_lt_of_cell? w _ hw287_1)).trans hw287_1)), (World.cell?_alloc_lt _ _ _ (World.block_lt_of_cell? _ _ (((HB.out.cell (World.block_lt_of_cell? w _ hw288_0)).trans hw288_0)))).trans (((HB.out.cell (World.block_lt_of_cell? w _ hw288_0)).trans hw288_0)), (World.cell?_alloc_lt _ _ _ (World.block_lt_of_cell? _ _ (((HB.out.cell (World.block_lt_of_cell? w _ hw288_1)).trans hw288_1)))).trans (((HB.out.cell (World.block_lt_of_cell? w _ hw288_1)).trans hw288_1))⟩ (fun hHeld => ?_)
     clear hK K
     refine norm_ (by show Act.put _ (some 49) _ = _; simp only [mP]; rfl) ?_
     refine one_ (i := 13) (N := some 50) #[true, true, true, true, true, true, true, true, true, true, true, true, true, true, false] rfl rfl (one_of HT_.out (by kernel_rfl)) (by decide) (fun K hK => ?_)
     refine Kd.R_append_step k55 (w0 := w) w.heap.size (by rfl) (.tmp 37) (.tmp 49) 34 55 (.agg #[(.int .i64 0), (.int .i64 0), (.int .i64 0), (.int .i64 0), (.int .i64 0)]) 40 rfl Tryd.underlying34 info55 rfl (by decide) (by omega) u11 x11_2 (⟨(⟨(rd_T52 l1 x32_2).f0, (rd_T52 l1 x32_2).f1⟩ : S52), (⟨(rd_T52 l0_1 (rd t281 x32_2)).f0, (rd_T52 l0_1 (rd t281 x32_2)).f1⟩ : S52), a2⟩ : S55) [.int .i64 ((rd_T52 l1 x32_2).f0), .int .i64 ((rd_T52 l1 x32_2).f1), .int .i64 ((rd_T52 l0_1 (rd t281 x32_2)).f0), .int .i64 ((rd_T52 l0_1 (rd t281 x32_2)).f1), .int .i64 a2] (fun _ => True) (fun _ => False) rfl rfl ?aP (fun _ hk => hk.elim) ?aF ?aO ?aB ?aS ?aL ?_
     (case aP => exact k55_mkM _ _ _ (⟨(⟨(rd_T52 l1 x32_2).f0, (rd_T52 l1 x32_2).f1⟩ : S52), (⟨(rd_T52 l0_1 (rd t281 x32_2)).f0, (rd_T52 l0_1 (rd t281 x32_2)).f1⟩ : S52), a2⟩ : S55))
     (case aB => exact HB.out)
     (case aF => exact (fun _ _ => trivial))
     (case aO => exact HO_11.out)
     (case aS => exact (below_size HB.out))
     (case aL => have := LMc19.out; omega)
     intro v290 w21 ho hb hg hat
     rw [← Ny289.out] at ho
     replace HO_30 := Aside0.mk (Kd.R_over' HO_30.out (Kd.R_typed HO_11.out) (by decide) hg); replace BK1 := Aside0.mk (blk_grown (g := gb1) (o := .cells #[.string a0_0, .slice (some ad288) l0_1.length c0_1] 24 (0, 0)) BK1.out hg (Kd.R_ne HO_11.out BK1.out (by decide))); replace HB := Aside0.mk hb; have HO291 := Aside0.mk ho; clear HO_11
     clear ho hb hg hat
     refine hK.out _ _ ⟨blk_cell BK1.out 0, blk_cell BK1.out 1, ((HB.out.cell (World.block_lt_of_cell? w _ hw287_0)).trans hw287_0), ((HB.out.cell (World.block_lt_of_cell? w _ hw287_1)).trans hw287_1), ((HB.out.cell (World.block_lt_of_cell? w _ hw288_0)).trans hw288_0), ((HB.out.cell (World.block_lt_of_cell? w _ hw288_1)).trans hw288_1)⟩ (fun hHeld => ?_)
     clear hK K
     refine norm_ (by show Act.put _ (some 50) _ = _; simp only [mP]; rfl) ?_
     refine pM 14 11 HT_ ?_
     refine done_ (done_of HT_.out (by kernel_rfl)) ?_
     try go_wp2
     go_roundg k2
     case measure => have := HJ5.out; have := HK2.out; omega
     case rel => exact ⟨(y289), (wrap64 (x32_2 + 1)), rfl, H', ⟨by have := HJ5.out; have := HK2.out; omega⟩, HO291, HO_30, ⟨BK1.out⟩, ⟨HB.out⟩⟩
end Go.Proofs.YtaggccbndmmbhaaDoor.PAll
