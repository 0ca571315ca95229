-- Written by wip/tools/handprint.py: walks of the functions that the law reaches; Lean checks them.
import Derived.Test.YtaggccbndmmbhaaDoorBase
import Derived.Test.YtaggccbndmmbhaaDoorPAllf12
namespace Go.Proofs.YtaggccbndmmbhaaDoor.PAll
open Go.RowKit Go.Proofs.YtaggccbndmmbhaaDoorW.PrintWords Go.Proofs.YtaggccbndmmbhaaDoorW.PrintLast Go.Proofs.YtaggccbndmmbhaaDoorW.PrintMore
attribute [local go_sem] max2_int min2_int max_two min_two max_three min_three max_four min_four   -- for this text's walks alone
set_option linter.unusedVariables false
set_option linter.unusedSimpArgs false

/-! ### dancestudioref45_Mirror: function 24 -/
def dancestudioref45_Mirror.l0 : Nat → Int → ByteArray → List (S52) → ByteArray → List (S52) → Option (ByteArray × (List (S52)) × Int)
 | 0, _, _, _, _, _ => none
 | k + 1, x6, x666000, x666001, x669000, x669001 => if x6 < (x666001.length : Int) then (if 0 ≤ x6 then (if x669001.length < 8796093022208 then (dancestudioref45_Mirror.l0 k (wrap64 (x6 + 1)) x666000 x666001 x669000 (x669001 ++ [(⟨wrap64 (-((rd_T52 x666001 x6).f0)), (rd_T52 x666001 x6).f1⟩ : S52)])) else (none)) else (none)) else (some (x669000, x669001, 0))
def dancestudioref45_Mirror.f (k : Nat) (a0_0 : ByteArray) (l0_1 : List (S52)) : Option (ByteArray × (List (S52)) × Int) := (dancestudioref45_Check.f k a0_0 l0_1).bind fun t667 => (if t667 = 0 then (dancestudioref45_Mirror.l0 k 0 a0_0 l0_1 a0_0 ([] : List (S52))) else (some ((⟨#[]⟩ : ByteArray), ([] : List (S52)), t667)))
def dancestudioref45_Mirror.T8 : Bool × List (List Nat × List Nat) := (true, [([], []), ([0], [0]), ([], []), ([2], [2]), ([], []), ([3, 4], [3, 4]), ([5], [5]), ([6], [6]), ([7], [7]), ([], []), ([9], [9]), ([], []), ([10, 11], [10, 11]), ([12], [12]), ([13], [13]), ([8, 14], [8, 14]), ([15], [15]), ([1, 16], [1, 16]), ([0, 1, 2, 3, 4, 5, 6, 7, 8, 9, 10, 11, 12, 13, 14, 15, 16, 17], []), ([18, 17, 17, 0, 1, 2, 3, 4, 5, 6, 7, 8, 9, 10, 11, 12, 13, 14, 15, 16, 17], [17, 18])])
def dancestudioref45_Mirror.B8 : List Nat := [0, 1, 0, 4, 0, 28, 60, 124, 252, 0, 512, 0, 3584, 7680, 15872, 32764, 65532, 131071, 262143, 524287]
theorem dancestudioref45_Mirror.tab8 : rtab .any (opsOf Tryd.f24 8) = dancestudioref45_Mirror.T8 := by kernel_rfl
theorem dancestudioref45_Mirror.bits8 : waitsOk dancestudioref45_Mirror.T8.2 dancestudioref45_Mirror.B8 = true := by kernel_rfl
set_option maxHeartbeats 8000000 in
set_option maxRecDepth 100000 in
theorem dancestudioref45_Mirror.calls (k : Nat) (a0_0 : ByteArray) (A0_1 : Option Addr) (c0_1 : Nat) (l0_1 : List (S52)) (r1 : ByteArray) (r2 : List (S52)) (r3 : Int) (w : World) (hr0_1 : Kd.C k52 w A0_1 l0_1.length l0_1) (hc0_1 : l0_1.length ≤ c0_1) (h : dancestudioref45_Mirror.f k a0_0 l0_1 = some (r1, r2, r3)) :
  Calls Tryd.prog 24 #[.agg #[.string a0_0, .slice A0_1 l0_1.length c0_1]] w fun e w' => ∃ v1_ : Value, e = .returned (.tuple #[.agg #[.string r1, v1_], .int .i64 r3]) ∧ Kd.R k52 52 w' w.heap.size (fun _ => True) v1_ r2 ∧ Below w.heap.size w w' := by
 have hu24 := Tryd.underlying24
 have hu52 := Tryd.underlying52
 have HR0_1 := Aside0.mk hr0_1
 have HC0_1 := Aside0.mk hc0_1
 clear hr0_1 hc0_1
 have HB := Aside0.mk (Below.refl w.heap.size w)
 have H := h
 unfold dancestudioref45_Mirror.f at H
 clear h
 replace H := Option.bind_eq_some_iff.mp H
 obtain ⟨t667, A20, H⟩ := H
 try dsimp only at H
 have A2 := Aside0.mk A20
 clear A20
 by_cases c3 : t667 = 0
 rotate_left
 ·
  rw [if_neg c3] at H
  have c3b0 := beq_eq_false_iff_ne.mpr c3
  have c3b1 := bne_iff_ne.mpr c3
  simp only [Option.some.injEq, Prod.mk.injEq] at H
  obtain ⟨rfl, rfl, rfl⟩ := H
  go_enter Tryd.func24, Tryd.ntmps24
  go_wp2_with (first | ((with_reducible refine gate_dst (N := 1) rfl ?_); refine box_event rfl (N := 1) rfl (cs := #[.string a0_0, .slice A0_1 l0_1.length c0_1]) (t := 24) (by first | (go_simp; done) | (go_simp; rfl)) ?_; intro gb1 hg w31 hbox hb; have BK1 := Aside0.mk hbox; have GW1 := mGw HB hg; have GE1 := GW1; replace HB := mSt HB hb; clear hb hbox hg) | ((with_reducible refine gate_dst (N := 2) rfl ?_); refine box_event rfl (N := 2) rfl (cs := #[.string (⟨#[]⟩ : ByteArray), .slice none 0 0]) (t := 24) (by first | (go_simp; done) | (go_simp; rfl)) ?_; intro gb2 hg w32 hbox hb; have BK2 := Aside0.mk hbox; have GW2 := mGw HB hg; have GE2 := GW2; replace HB := mSt HB hb; have NB1_2 := mNe BK1 hg; have NB2_1 := mSy NB1_2; replace BK1 := mBb BK1 hb; clear hb hbox hg; have hnb33 := NB1_2.out; have hnc33 := NB2_1.out; have hcz34 := blk_cell BK1.out; have hfz34 := blk_frozen BK1.out) | ((with_reducible refine gate_callee (f := 12) rfl ?_); refine goesL_ (some 8) rfl rfl Tryd.func12 (by kernel_rfl) rfl #[.agg #[.string a0_0, .slice A0_1 l0_1.length c0_1]] rfl (mA1 rfl) ?_; (with_reducible refine (dancestudioref45_Check.calls k a0_0 _ _ l0_1 t667 _ (Kd.C_below HR0_1.out HB.out) HC0_1.out A2.out).mono ?_); rintro e w35 ⟨rfl, hb⟩; refine ⟨_, rfl, ?_⟩; replace BK1 := mBb BK1 hb; replace BK2 := mBb BK2 hb; replace HB := mSt HB hb; (try clear hb); have hcz36 := blk_cell BK2.out; have hfz36 := blk_frozen BK2.out))
  refine bodyPost_ret (results_ct rfl _ _ gb2 24 #[.string (⟨#[]⟩ : ByteArray), .slice none 0 0] (0, 0) _ rfl (by refine blk_put (cs := #[.string (⟨#[]⟩ : ByteArray), .slice none 0 0]) ?_ 1 _ rfl; refine blk_put (cs := #[.string (⟨#[]⟩ : ByteArray), .slice none 0 0]) ?_ 0 _ rfl; exact BK2.out) Tryd.underlying24 rfl (by kernel_rfl)) rfl ?_
  exact ⟨_, rfl, by first | exact Kd.R_nil _ _ _ _ _ | exact Kd.N_nil _ _ _ _ _ | exact Kd.V_nil _ _ _ _ _ | exact Kd.Q_nil _ _ _ _ _ | exact Kd.S_nil _ _ _ _ _, hO HB⟩
 rw [if_pos c3] at H
 have c3b0 := beq_iff_eq.mpr c3
 have c3b1 := bne_eq_false_iff_eq.mpr c3
 clear c3
 have H' := Aside0.mk H
 clear H
 go_enter Tryd.func24, Tryd.ntmps24
 go_wp2_with (first | ((with_reducible refine gate_dst (N := 1) rfl ?_); refine box_event rfl (N := 1) rfl (cs := #[.string a0_0, .slice A0_1 l0_1.length c0_1]) (t := 24) (by first | (go_simp; done) | (go_simp; rfl)) ?_; intro gb1 hg w4 hbox hb; have BK1 := Aside0.mk hbox; have GW1 := mGw HB hg; have GE1 := GW1; replace HB := mSt HB hb; clear hb hbox hg) | ((with_reducible refine gate_dst (N := 2) rfl ?_); refine box_event rfl (N := 2) rfl (cs := #[.string (⟨#[]⟩ : ByteArray), .slice none 0 0]) (t := 24) (by first | (go_simp; done) | (go_simp; rfl)) ?_; intro gb2 hg w5 hbox hb; have BK2 := Aside0.mk hbox; have GW2 := mGw HB hg; have GE2 := GW2; replace HB := mSt HB hb; have NB1_2 := mNe BK1 hg; have NB2_1 := mSy NB1_2; replace BK1 := mBb BK1 hb; clear hb hbox hg; have hnb6 := NB1_2.out; have hnc6 := NB2_1.out; have hcz7 := blk_cell BK1.out; have hfz7 := blk_frozen BK1.out) | ((with_reducible refine gate_callee (f := 12) rfl ?_); refine goesL_ (some 8) rfl rfl Tryd.func12 (by kernel_rfl) rfl #[.agg #[.string a0_0, .slice A0_1 l0_1.length c0_1]] rfl (mA1 rfl) ?_; (with_reducible refine (dancestudioref45_Check.calls k a0_0 _ _ l0_1 t667 _ (Kd.C_below HR0_1.out HB.out) HC0_1.out A2.out).mono ?_); rintro e w8 ⟨rfl, hb⟩; refine ⟨_, rfl, ?_⟩; replace BK1 := mBb BK1 hb; replace BK2 := mBb BK2 hb; replace HB := mSt HB hb; (try clear hb); have hcz9 := blk_cell BK1.out; have hfz9 := blk_frozen BK1.out) | ((with_reducible refine gate_dst (N := 5) rfl ?_); refine box_event rfl (N := 5) rfl (cs := #[.string (⟨#[]⟩ : ByteArray), .slice none 0 0]) (t := 24) (by first | (go_simp; done) | (go_simp; rfl)) ?_; intro gb3 hg w10 hbox hb; have BK3 := Aside0.mk hbox; have GW3 := mGw HB hg; have GE3 := GW3; replace HB := mSt HB hb; have NB1_3 := mNe BK1 hg; have NB3_1 := mSy NB1_3; replace BK1 := mBb BK1 hb; have NB2_3 := mNe BK2 hg; have NB3_2 := mSy NB2_3; replace BK2 := mBb BK2 hb; clear hb hbox hg; have hnb11 := NB3_1.out; have hnc11 := NB1_3.out; have hnb12 := NB3_2.out; have hnc12 := NB2_3.out; have hcz13 := blk_cell BK3.out; have hfz13 := blk_frozen BK3.out))
 go_loopg [6] k (fun kq v6 w' => ∃ (x6_1 : Int) (x669001_1 : List (S52)) (u669001 : Value), v6 = .int .i64 x6_1 ∧ Aside0 (dancestudioref45_Mirror.l0 kq x6_1 a0_0 l0_1 a0_0 x669001_1 = some (r1, r2, r3)) ∧ Aside0 (kq ≤ k) ∧ Aside0 (Kd.R k52 52 w' w.heap.size (fun _ => True) u669001 x669001_1) ∧ Aside0 (w'.heap[gb1]? = some (.cells #[.string a0_0, (.slice A0_1 l0_1.length c0_1)] 24 (0, 0))) ∧ Aside0 (w'.heap[gb2]? = some (.cells #[.string (⟨#[]⟩ : ByteArray), (.slice none 0 0)] 24 (0, 0))) ∧ Aside0 (w'.heap[gb3]? = some (.cells #[.string a0_0, u669001] 24 (0, 0))) ∧ Aside0 (Below w.heap.size w w'))
 case atStart => exact ⟨(0), (([] : List (S52))), (.slice none 0 0), rfl, H', ⟨Nat.le_refl _⟩, ⟨by first | exact Kd.R_nil _ _ _ _ _ | exact Kd.N_nil _ _ _ _ _ | exact Kd.V_nil _ _ _ _ _ | exact Kd.Q_nil _ _ _ _ _ | exact Kd.S_nil _ _ _ _ _⟩, ⟨by refine blk_far ?_ NB1_3.out _; refine blk_far ?_ NB1_3.out _; exact BK1.out⟩, ⟨by refine blk_far ?_ NB2_3.out _; refine blk_far ?_ NB2_3.out _; exact BK2.out⟩, ⟨by refine blk_put (cs := #[.string a0_0, .slice none 0 0]) ?_ 1 _ rfl; refine blk_put (cs := #[.string (⟨#[]⟩ : ByteArray), .slice none 0 0]) ?_ 0 _ rfl; exact BK3.out⟩, ⟨hO HB⟩⟩
 case round =>
  clear H'
  clear c3b0 c3b1
  obtain ⟨x6_1, x669001_1, u669001, rfl, HA, HK1, HO_669001, BK1, BK2, BK3, HB⟩ := hrel
  cases gk with
  | zero => exact absurd HA.out (by simp [dancestudioref45_Mirror.l0])
  | succ k1 =>
   have H := HA.out
   clear HA
   simp only [dancestudioref45_Mirror.l0] at H
   by_cases c14 : x6_1 < (l0_1.length : Int)
   rotate_left
   ·
    rw [if_neg c14] at H
    have c14b0 := decide_eq_false c14
    clear c14
    simp only [Option.some.injEq, Prod.mk.injEq] at H
    obtain ⟨rfl, rfl, rfl⟩ := H
    have hnb24 := NB1_2.out
    have hnc24 := NB2_1.out
    have hnb25 := NB1_3.out
    have hnc25 := NB3_1.out
    have hcz26 := blk_cell BK1.out; have hfz26 := blk_frozen BK1.out
    have hnb27 := NB3_2.out
    have hnc27 := NB2_3.out
    have hcz28 := blk_cell BK3.out; have hfz28 := blk_frozen BK3.out; have hcz29 := blk_cell BK2.out; have hfz29 := blk_frozen BK2.out
    obtain ⟨Ao30, co30, eo30⟩ := Kd.R_slice HO_669001.out
    subst eo30
    go_wp2
    refine bodyPost_ret (results_ct rfl _ _ gb2 24 #[.string a0_0, .slice Ao30 x669001_1.length co30] (0, 0) _ rfl (by refine blk_put (cs := #[.string a0_0, .slice none 0 0]) ?_ 1 _ rfl; refine blk_put (cs := #[.string (⟨#[]⟩ : ByteArray), .slice none 0 0]) ?_ 0 _ rfl; exact BK2.out) Tryd.underlying24 rfl (by kernel_rfl)) rfl ?_
    exact ⟨_, rfl, by exact Kd.R_mono (Kd.R_far (p := ⟨gb2, 1, none⟩) (Kd.R_far (p := ⟨gb2, 0, none⟩) (Kd.R_types HO_669001.out BK2.out (by decide)) (fun _ hk => hk.2) (.string a0_0)) (fun _ hk => hk.2) (.slice Ao30 x669001_1.length co30)) (fun _ hk => trivial), hO HB⟩
   rw [if_pos c14] at H
   have c14b0 := decide_eq_true c14
   clear c14
   obtain ⟨c15, H⟩ : (0 ≤ x6_1) ∧ _ := mIf H
   have c15b0 := decide_eq_true c15
   clear c15
   obtain ⟨c16, H⟩ : (x669001_1.length < 8796093022208) ∧ _ := mIf H
   have LMc16 := Aside0.mk c16
   clear c16
   obtain ⟨y671, hy671⟩ : ∃ y_ : List (S52), y_ = (x669001_1 ++ [(⟨wrap64 (-((rd_T52 l0_1 x6_1).f0)), (rd_T52 l0_1 x6_1).f1⟩ : S52)]) := ⟨_, rfl⟩
   rw [← hy671] at H
   have Ny671 := Aside0.mk hy671
   clear hy671
   have H' := Aside0.mk H
   clear H
   have hnb17 := NB1_2.out
   have hnc17 := NB2_1.out
   have hnb18 := NB1_3.out
   have hnc18 := NB3_1.out
   have hcz19 := blk_cell BK1.out; have hfz19 := blk_frozen BK1.out
   try go_wp2
   replace HO_669001 := Aside0.mk (Kd.R_drew HO_669001.out); replace BK1 := Aside0.mk (blk_drew BK1.out); replace BK2 := Aside0.mk (blk_drew BK2.out); replace BK3 := Aside0.mk (blk_drew BK3.out); replace HB := Aside0.mk (below_drew1 HB.out)
   have p669 : 0 ≤ (x6_1 : Int) := of_decide_eq_true (by assumption)
   have q669 : x6_1 < (l0_1.length : Int) := of_decide_eq_true (by assumption)
   obtain ⟨ad669, e669, hx669_0, hx669_1⟩ := at_T52 HR0_1.out x6_1 p669 q669
   have hw669_1 := hx669_1
   have hw669_0 := hx669_0
   cases e669
   replace hx669_0 := mHx HB hx669_0
   replace hx669_1 := mHx HB hx669_1
   replace p669 := eq_true p669
   replace q669 := eq_true q669
   have p670 : 0 ≤ (x6_1 : Int) := of_decide_eq_true (by assumption)
   have q670 : x6_1 < (l0_1.length : Int) := of_decide_eq_true (by assumption)
   obtain ⟨ad670, e670, hx670_0, hx670_1⟩ := at_T52 HR0_1.out x6_1 p670 q670
   have hw670_1 := hx670_1
   have hw670_0 := hx670_0
   obtain rfl : ad669 = ad670 := (by injection e670)
   replace hx670_0 := mHx HB hx670_0
   replace hx670_1 := mHx HB hx670_1
   replace p670 := eq_true p670
   replace q670 := eq_true q670
   refine start_ (n := 20) (S := fun w' => w'.cell? ⟨gb3, 0, none⟩ = some (.string a0_0) ∧ w'.cell? ⟨gb3, 1, none⟩ = some (u669001) ∧ w'.cell? ⟨gb1, 0, none⟩ = some (.string a0_0) ∧ w'.cell? ⟨gb1, 1, none⟩ = some (.slice (some ad669) l0_1.length c0_1) ∧ w'.cell? (ad669.add ((x6_1).toNat * 2)) = some (.int .i64 ((rd_T52 l0_1 x6_1).f0)) ∧ w'.cell? ⟨(ad669.add ((x6_1).toNat * 2)).block, (ad669.add ((x6_1).toNat * 2)).off + 1, none⟩ = some (.int .i64 ((rd_T52 l0_1 x6_1).f1)) ∧ w'.cell? (ad669.add ((x6_1).toNat * 2)) = some (.int .i64 ((rd_T52 l0_1 x6_1).f0)) ∧ w'.cell? ⟨(ad669.add ((x6_1).toNat * 2)).block, (ad669.add ((x6_1).toNat * 2)).off + 1, none⟩ = some (.int .i64 ((rd_T52 l0_1 x6_1).f1))) (ds := [19]) #[false, false, false, false, false, false, false, false, false, false, false, false, false, false, false, false, false, false, false, false] (by kernel_rfl) rfl rfl ⟨(blk_cell BK3.out 0).trans rfl, (blk_cell BK3.out 1).trans rfl, (blk_cell BK1.out 0).trans rfl, (blk_cell BK1.out 1).trans rfl, ((HB.out.cell (World.block_lt_of_cell? w _ hw669_0)).trans hw669_0), ((HB.out.cell (World.block_lt_of_cell? w _ hw669_1)).trans hw669_1), ((HB.out.cell (World.block_lt_of_cell? w _ hw670_0)).trans hw670_0), ((HB.out.cell (World.block_lt_of_cell? w _ hw670_1)).trans hw670_1)⟩ (fun hHeld => ?_); refine with_tabW dancestudioref45_Mirror.tab8 dancestudioref45_Mirror.bits8 (fun HT_ HW_ => ?_)
   generalize wr.drew = w20 at HO_669001 BK1 BK2 BK3 HB hx669_0 hx669_1 hx670_0 hx670_1 hHeld ⊢
   refine pM 0 23 HT_ ?_
   refine pM 2 25 HT_ ?_
   refine pM 4 27 HT_ ?_
   refine pM 9 32 HT_ ?_
   refine pM 11 34 HT_ ?_
   refine tM 1 24 rfl HT_ HW_ (by rintro w' ⟨s0, s1, s2, s3, s4, s5, s6, s7⟩; go_simp; with_reducible rfl) hHeld ?_
   refine tM 3 26 rfl HT_ HW_ (by rintro w' ⟨s0, s1, s2, s3, s4, s5, s6, s7⟩; go_simp; with_reducible rfl) hHeld ?_
   refine pM 5 28 HT_ ?_
   refine pM 6 29 HT_ ?_
   refine tM 7 30 rfl HT_ HW_ (by rintro w' ⟨s0, s1, s2, s3, s4, s5, s6, s7⟩; go_simp; with_reducible rfl) hHeld ?_
   refine pM 8 31 HT_ ?_
   refine tM 10 33 rfl HT_ HW_ (by rintro w' ⟨s0, s1, s2, s3, s4, s5, s6, s7⟩; go_simp; with_reducible rfl) hHeld ?_
   refine pM 12 35 HT_ ?_
   refine pM 13 36 HT_ ?_
   refine tM 14 37 rfl HT_ HW_ (by rintro w' ⟨s0, s1, s2, s3, s4, s5, s6, s7⟩; go_simp; with_reducible rfl) hHeld ?_
   refine pM 15 38 HT_ ?_
   refine one_ (i := 16) (N := some 39) #[true, true, true, true, true, true, true, true, true, true, true, true, true, true, true, true, true, false, false, false] rfl rfl (one_of HT_.out (by kernel_rfl)) (by decide) (fun K hK => ?_)
   refine value_ (w1 := ?_) (v := ?_) (by rfl) rfl ?_ ?_
   rotate_left 2
   ·
    go_simp
    constructor
    ·
     rfl
    ·
     rfl
   refine hK.out _ _ ⟨(blk_cell (blk_alloc BK3.out _) 0).trans rfl, (blk_cell (blk_alloc BK3.out _) 1).trans rfl, (blk_cell (blk_alloc BK1.out _) 0).trans rfl, (blk_cell (blk_alloc BK1.out _) 1).trans rfl, (World.cell?_alloc_lt _ _ _ (World.block_lt_of_cell? _ _ (((HB.out.cell (World.block_lt_of_cell? w _ hw669_0)).trans hw669_0)))).trans (((HB.out.cell (World.block_lt_of_cell? w _ hw669_0)).trans hw669_0)), (World.cell?_alloc_lt _ _ _ (World.block_lt_of_cell? _ _ (((HB.out.cell (World.block_lt_of_cell? w _ hw669_1)).trans hw669_1)))).trans (((HB.out.cell (World.block_lt_of_cell? w _ hw669_1)).trans hw669_1)), (World.cell?_alloc_lt _ _ _ (World.block_lt_of_cell? _ _ (((HB.out.cell (World.block_lt_of_cell? w _ hw670_0)).trans hw670_0)))).trans (((HB.out.cell (World.block_lt_of_cell? w _ hw670_0)).trans hw670_0)), (World.cell?_alloc_lt _ _ _ (World.block_lt_of_cell? _ _ (((HB.out.cell (World.block_lt_of_cell? w _ hw670_1)).trans hw670_1)))).trans (((HB.out.cell (World.block_lt_of_cell? w _ hw670_1)).trans hw670_1))⟩ (fun hHeld => ?_)
   clear hK K
   refine norm_ (by show Act.put _ (some 39) _ = _; simp only [mP]; rfl) ?_
   refine one_ (i := 17) (N := some 40) #[true, true, true, true, true, true, true, true, true, true, true, true, true, true, true, true, true, true, false, false] rfl rfl (one_of HT_.out (by kernel_rfl)) (by decide) (fun K hK => ?_)
   refine Kd.R_append_step k52 (w0 := w) w.heap.size (by rfl) (.tmp 24) (.tmp 39) 22 52 (.agg #[(.int .i64 0), (.int .i64 0)]) 16 rfl Tryd.underlying22 info52 rfl (by decide) (by omega) u669001 x669001_1 (⟨wrap64 (-((rd_T52 l0_1 x6_1).f0)), (rd_T52 l0_1 x6_1).f1⟩ : S52) [.int .i64 (wrap64 (-((rd_T52 l0_1 x6_1).f0))), .int .i64 ((rd_T52 l0_1 x6_1).f1)] (fun _ => True) (fun _ => False) rfl rfl ?aP (fun _ hk => hk.elim) ?aF ?aO ?aB ?aS ?aL ?_
   (case aP => exact k52_mkM _ _ _ (⟨wrap64 (-((rd_T52 l0_1 x6_1).f0)), (rd_T52 l0_1 x6_1).f1⟩ : S52))
   (case aB => exact HB.out)
   (case aF => exact (fun _ _ => trivial))
   (case aO => exact HO_669001.out)
   (case aS => exact (below_size HB.out))
   (case aL => have := LMc16.out; omega)
   intro v672 w21 ho hb hg hat
   rw [← Ny671.out] at ho
   replace BK1 := Aside0.mk (blk_grown (g := gb1) (o := .cells #[.string a0_0, .slice (some ad669) l0_1.length c0_1] 24 (0, 0)) BK1.out hg (Kd.R_ne HO_669001.out BK1.out (by decide))); replace BK2 := Aside0.mk (blk_grown (g := gb2) (o := .cells #[.string (⟨#[]⟩ : ByteArray), .slice none 0 0] 24 (0, 0)) BK2.out hg (Kd.R_ne HO_669001.out BK2.out (by decide))); replace BK3 := Aside0.mk (blk_grown (g := gb3) (o := .cells #[.string a0_0, u669001] 24 (0, 0)) BK3.out hg (Kd.R_ne HO_669001.out BK3.out (by decide))); replace HB := Aside0.mk hb; have HO673 := Aside0.mk ho; clear HO_669001
   clear ho hb hg hat
   obtain ⟨Ao22, co22, eo22⟩ := Kd.R_slice HO673.out
   subst eo22
   refine hK.out _ _ ⟨blk_cell BK3.out 0, blk_cell BK3.out 1, blk_cell BK1.out 0, blk_cell BK1.out 1, ((HB.out.cell (World.block_lt_of_cell? w _ hw669_0)).trans hw669_0), ((HB.out.cell (World.block_lt_of_cell? w _ hw669_1)).trans hw669_1), ((HB.out.cell (World.block_lt_of_cell? w _ hw670_0)).trans hw670_0), ((HB.out.cell (World.block_lt_of_cell? w _ hw670_1)).trans hw670_1)⟩ (fun hHeld => ?_)
   clear hK K
   refine norm_ (by show Act.put _ (some 40) _ = _; simp only [mP]; rfl) ?_
   refine pM 18 41 HT_ ?_
   refine last_ (i := 19) (N := none) #[true, true, true, true, true, true, true, true, true, true, true, true, true, true, true, true, true, true, true, true] rfl rfl (one_of HT_.out (by kernel_rfl)) (by decide) (fun K hK => ?_)
   have hs23 : w21.cell? ⟨gb3, 1, none⟩ = some (u669001) := (blk_cell BK3.out 1).trans rfl
   have hfs23 := blk_frozen BK3.out 1
   have hns23_0 := NB1_3.out
   have hns23_1 := NB2_3.out
   have hms23_0 := NB3_1.out
   have hms23_1 := NB3_2.out
   refine skip_ (w1 := ?_) (by rfl) rfl ?_ ?_
   rotate_left
   ·
    go_simp
    rfl
   refine hK.out _ _ ?_
   clear hK K
   refine done_ (done_of HT_.out (by kernel_rfl)) ?_
   try go_wp2
   go_roundg k1
   case measure => have := HK1.out; omega
   case rel => exact ⟨(wrap64 (x6_1 + 1)), (y671), (.slice Ao22 y671.length co22), rfl, H', ⟨by have := HK1.out; omega⟩, ⟨Kd.R_mono (Kd.R_far (p := ⟨gb3, 1, none⟩) (Kd.R_types HO673.out BK3.out (by decide)) (fun _ hk => hk.2) (.slice Ao22 y671.length co22)) (fun _ hk => trivial)⟩, ⟨by refine blk_far ?_ NB1_3.out _; exact BK1.out⟩, ⟨by refine blk_far ?_ NB2_3.out _; exact BK2.out⟩, ⟨by refine blk_put (cs := #[.string a0_0, u669001]) ?_ 1 _ rfl; exact BK3.out⟩, ⟨hO HB⟩⟩
end Go.Proofs.YtaggccbndmmbhaaDoor.PAll
