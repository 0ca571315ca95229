-- Written by wip/tools/handprint.py: walks of the functions that the law reaches; Lean checks them.
import Derived.Test.YtjppjppapdflmaaRMi
import Derived.Test.YtjppjppapdflmaaPAllx0
import Derived.Test.YtjppjppapdflmaaRRf
namespace Go.Proofs.Ytjppjppapdflmaa.PAll
open Go.RowKit Go.Proofs.YtjppjppapdflmaaW.PrintWords Go.Proofs.YtjppjppapdflmaaW.PrintLast Go.Proofs.YtjppjppapdflmaaW.PrintMore
attribute [local go_sem] max2_int min2_int max_two min_two max_three min_three max_four min_four   -- for this text's walks alone
set_option linter.unusedVariables false
set_option linter.unusedSimpArgs false

/-! ### dancestudioref50_roomy: function 57 -/
mutual
def dancestudioref50_roomy.l0 : Nat → List (S48) → Int → Int → List (S53) → List (S55) → List (S59) → Int → Option ((List (S48)) × Bool)
 | 0, _, _, _, _, _, _, _ => none
 | k + 1, x1, x2, x8, x495000, x495001, x495002, x495003 => if x8 < (x495001.length : Int) then (if 0 ≤ x2 then (if x2 < (x1.length : Int) then ((dancestudioref50_alone.f k x495000 x495001 x495002 x495003 ((rd_T48 x1 x2).f0) x8 ((rd_T48 x1 x2).f2)).bind fun t497 => (dancestudioref50_roomy.l1 k x1 x2 x8 (t497 == 0) 0 x495000 x495001 x495002 x495003 ((rd_T48 x1 x2).f0) x8 ((rd_T48 x1 x2).f2))) else (none)) else (none)) else (some (([] : List (S48)), false))
def dancestudioref50_roomy.l1 : Nat → List (S48) → Int → Int → Bool → Int → List (S53) → List (S55) → List (S59) → Int → Int → Int → Int → Option ((List (S48)) × Bool)
 | 0, _, _, _, _, _, _, _, _, _, _, _, _ => none
 | k + 1, x1, x2, x8, x10, x11, x495000, x495001, x495002, x495003, x497000, x497001, x497002 => if x11 < x2 then (if x10 = true then (if 0 ≤ x11 then (if x11 < (x1.length : Int) then ((dancestudioref50_meet.f x495000 x495001 x495002 x495003 x497000 x497001 x497002 ((rd_T48 x1 x11).f0) ((rd_T48 x1 x11).f1) ((rd_T48 x1 x11).f2)).bind fun t499 => (if t499 = true then (dancestudioref50_roomy.l1 k x1 x2 x8 (((rd_T48 x1 x11).f1) != x8) (wrap64 (x11 + 1)) x495000 x495001 x495002 x495003 x497000 x497001 x497002) else (dancestudioref50_roomy.l1 k x1 x2 x8 true (wrap64 (x11 + 1)) x495000 x495001 x495002 x495003 x497000 x497001 x497002))) else (none)) else (none)) else (dancestudioref50_roomy.l1 k x1 x2 x8 false (wrap64 (x11 + 1)) x495000 x495001 x495002 x495003 x497000 x497001 x497002)) else (if x10 = true then ((some (([] : List (S48)) : List (S48))).bind fun y501 => (if y501.length + x1.length < 5864062014805 then ((some (y501 ++ x1 : List (S48))).bind fun y504 => (if 0 ≤ x2 then (if x2 < (y504.length : Int) then ((dancestudioref50_roomy.f k x495000 x495001 x495002 x495003 (y504.set (x2 : Int).toNat (⟨x497000, x497001, x497002⟩ : S48)) (wrap64 (x2 + 1))).bind fun bt508 => (if bt508.2 = true then (some (bt508.1, true)) else (dancestudioref50_roomy.l0 k x1 x2 (wrap64 (x8 + 1)) x495000 x495001 x495002 x495003))) else (none)) else (none))) else (none))) else (dancestudioref50_roomy.l0 k x1 x2 (wrap64 (x8 + 1)) x495000 x495001 x495002 x495003))
def dancestudioref50_roomy.f : Nat → List (S53) → List (S55) → List (S59) → Int → List (S48) → Int → Option ((List (S48)) × Bool)
 | 0, _, _, _, _, _, _ => none
 | k + 1, l0_0, l0_1, l0_2, a0_3, l1, a2 => if a2 = (l1.length : Int) then (some (l1, true)) else (dancestudioref50_roomy.l0 k l1 a2 0 l0_0 l0_1 l0_2 a0_3)
end
def dancestudioref50_roomy.T12 : Bool × List (List Nat × List Nat) := (true, [([], []), ([0], [0]), ([1], [1]), ([1], [1]), ([1], [1]), ([1], [1]), ([4, 5, 1], [1, 4, 5]), ([6, 1], [1, 6]), ([2, 3, 7, 1, 1], [1, 2, 3, 7]), ([8, 1], [1, 8]), ([9, 8, 1], [1, 9]), ([10], [10]), ([10], [10]), ([11, 12, 10], [10, 11, 12]), ([13, 10], [10, 13]), ([14, 10], [10, 14]), ([10], [10]), ([15, 16, 10], [10, 15, 16]), ([10, 17, 1], [1, 10, 17]), ([1, 18], [1, 18]), ([19, 10, 0, 1, 2, 3, 4, 5, 6, 7, 8, 9, 10, 11, 12, 13, 14, 15, 16, 17, 18, 19], [0, 19])])
def dancestudioref50_roomy.B12 : List Nat := [0, 1, 3, 3, 3, 3, 51, 115, 255, 511, 1023, 2047, 2047, 8191, 16383, 32767, 2047, 131071, 262143, 524287, 1048575]
theorem dancestudioref50_roomy.tab12 : rtab .any (opsOf Try.f57 12) = dancestudioref50_roomy.T12 := by kernel_rfl
theorem dancestudioref50_roomy.bits12 : waitsOk dancestudioref50_roomy.T12.2 dancestudioref50_roomy.B12 = true := by kernel_rfl
set_option maxHeartbeats 8000000 in
set_option maxRecDepth 100000 in
theorem dancestudioref50_roomy.calls (k : Nat) : ∀ (A0_0 : Option Addr) (c0_0 : Nat) (l0_0 : List (S53)) (A0_1 : Option Addr) (c0_1 : Nat) (l0_1 : List (S55)) (A0_2 : Option Addr) (c0_2 : Nat) (l0_2 : List (S59)) (a0_3 : Int) (P1_ : Nat → Prop) (u9000_ : Value) (l1 : List (S48)) (a2 : Int) (r1 : List (S48)) (r2 : Bool) (w0 w : World) (hB : Below w0.heap.size w0 w) (hr0_0 : ∀ W_, Kept w W_ (fun k_ => P1_ k_) → Kd.C k53 W_ A0_0 l0_0.length l0_0) (hc0_0 : l0_0.length ≤ c0_0) (hr0_1 : ∀ W_, Kept w W_ (fun k_ => P1_ k_) → Kd.C k55 W_ A0_1 l0_1.length l0_1) (hc0_1 : l0_1.length ≤ c0_1) (hr0_2 : ∀ W_, Kept w W_ (fun k_ => P1_ k_) → Kd.C k59 W_ A0_2 l0_2.length l0_2) (hc0_2 : l0_2.length ≤ c0_2) (ho1 : Kd.R k48 48 w w0.heap.size P1_ u9000_ l1) (h : dancestudioref50_roomy.f k l0_0 l0_1 l0_2 a0_3 l1 a2 = some (r1, r2)),
  Calls Try.prog 57 #[.agg #[.slice A0_0 l0_0.length c0_0, .slice A0_1 l0_1.length c0_1, .slice A0_2 l0_2.length c0_2, .int .i64 a0_3], u9000_, .int .i64 a2] w fun e w' => ∃ v0_ : Value, e = .returned (.tuple #[v0_, .bool r2]) ∧ Kd.R k48 48 w' w0.heap.size (fun k_ => (P1_ k_ ∨ w.heap.size ≤ k_)) v0_ r1 ∧ Below w0.heap.size w0 w' ∧ Kept w w' (fun k_ => P1_ k_) := by
 induction k using Nat.strongRecOn with
 | _ k ih =>
 intro A0_0 c0_0 l0_0 A0_1 c0_1 l0_1 A0_2 c0_2 l0_2 a0_3 P1_ u9000_ l1 a2 r1 r2 w0 w hB hr0_0 hc0_0 hr0_1 hc0_1 hr0_2 hc0_2 ho1 h
 cases k with
 | zero => exact absurd h (by simp [dancestudioref50_roomy.f])
 | succ k =>
 simp only [dancestudioref50_roomy.f] at h
 have hu30 := Try.underlying26
 have hu48 := Try.underlying48
 have HR0_0 := Aside0.mk hr0_0
 have HC0_0 := Aside0.mk hc0_0
 clear hr0_0 hc0_0
 have HR0_1 := Aside0.mk hr0_1
 have HC0_1 := Aside0.mk hc0_1
 clear hr0_1 hc0_1
 have HR0_2 := Aside0.mk hr0_2
 have HC0_2 := Aside0.mk hc0_2
 clear hr0_2 hc0_2
 have HO1 := Aside0.mk (show Kd.R k48 48 w w0.heap.size (fun k_ => (P1_ k_ ∨ w.heap.size ≤ k_)) u9000_ l1 from Kd.R_mono ho1 (fun k_ hk => (.inl hk)))
 have HK := Aside0.mk (Kept.refl w (fun k_ => P1_ k_))
 have HW0 := Aside0.mk hB.size
 have HB := Aside0.mk hB
 clear hB
 have H := h
 unfold dancestudioref50_roomy.f at H
 clear h
 by_cases c4 : a2 = (l1.length : Int)
 ·
  rw [if_pos c4] at H
  have c4b0 := beq_iff_eq.mpr c4
  have c4b1 := bne_eq_false_iff_eq.mpr c4
  clear c4
  simp only [Option.some.injEq, Prod.mk.injEq] at H
  obtain ⟨rfl, rfl⟩ := H
  go_enter Try.func57, Try.ntmps57
  go_wp2_with (first | ((with_reducible refine gate_dst (N := 3) rfl ?_); refine box_event rfl (N := 3) rfl (cs := #[.slice A0_0 l0_0.length c0_0, .slice A0_1 l0_1.length c0_1, .slice A0_2 l0_2.length c0_2, .int .i64 a0_3]) (t := 26) (by first | (go_simp; done) | (go_simp; rfl)) ?_; intro gb2 hg w5 hbox hb; replace HO1 := Aside0.mk (Kd.R_below HO1.out hb); have BK2 := Aside0.mk hbox; have GW2 := Aside0.mk ((by rw [hg]; exact (by first | exact HK.out.1 | exact (show Kept w _ (fun k_ => P1_ k_) from by repeat (first | (with_reducible first | exact HK.out | apply Kept.alloc | apply Kept.drewN | apply Kept.drew) | exact HK.out)).1) : w.heap.size ≤ gb2)); replace HK := Aside0.mk (Kept.below (S := (fun k_ => P1_ k_)) (by repeat (first | (with_reducible first | exact HK.out | apply Kept.alloc | apply Kept.drewN | apply Kept.drew) | exact HK.out)) hb); have GE2 := Aside0.mk ((by rw [hg]; exact (below_size HB.out) : w0.heap.size ≤ gb2)); replace HB := mSt HB hb; clear hb hbox hg; obtain ⟨Ao6, co6, eo6⟩ := Kd.R_slice HO1.out; subst eo6))
  go_ret2
  exact ⟨_, rfl, by exact HO1.out, by repeat (first | (with_reducible first | exact HB.out | apply below_alloc | apply pw_below_drewN | apply below_drew1 | refine below_set ?_ GE2.out) | exact HB.out), by repeat (first | (with_reducible first | exact HK.out | apply Kept.alloc | apply Kept.drewN | apply Kept.drew | refine Kept.setCell ?_ (.inr GW2.out) _) | exact HK.out)⟩
 rw [if_neg c4] at H
 have c4b0 := beq_eq_false_iff_ne.mpr c4
 have c4b1 := bne_iff_ne.mpr c4
 have H' := Aside0.mk H
 clear H
 go_enter Try.func57, Try.ntmps57
 go_wp2_with (first | ((with_reducible refine gate_dst (N := 3) rfl ?_); refine box_event rfl (N := 3) rfl (cs := #[.slice A0_0 l0_0.length c0_0, .slice A0_1 l0_1.length c0_1, .slice A0_2 l0_2.length c0_2, .int .i64 a0_3]) (t := 26) (by first | (go_simp; done) | (go_simp; rfl)) ?_; intro gb2 hg w7 hbox hb; replace HO1 := Aside0.mk (Kd.R_below HO1.out hb); have BK2 := Aside0.mk hbox; have GW2 := Aside0.mk ((by rw [hg]; exact (by first | exact HK.out.1 | exact (show Kept w _ (fun k_ => P1_ k_) from by repeat (first | (with_reducible first | exact HK.out | apply Kept.alloc | apply Kept.drewN | apply Kept.drew) | exact HK.out)).1) : w.heap.size ≤ gb2)); replace HK := Aside0.mk (Kept.below (S := (fun k_ => P1_ k_)) (by repeat (first | (with_reducible first | exact HK.out | apply Kept.alloc | apply Kept.drewN | apply Kept.drew) | exact HK.out)) hb); have GE2 := Aside0.mk ((by rw [hg]; exact (below_size HB.out) : w0.heap.size ≤ gb2)); replace HB := mSt HB hb; clear hb hbox hg; obtain ⟨Ao8, co8, eo8⟩ := Kd.R_slice HO1.out; subst eo8))
 go_loopg [8] k (fun kq v8 w' => ∃ (x1_1 : List (S48)) (x8_1 : Int), v8 = .int .i64 x8_1 ∧ Aside0 (dancestudioref50_roomy.l0 kq x1_1 a2 x8_1 l0_0 l0_1 l0_2 a0_3 = some (r1, r2)) ∧ Aside0 (kq ≤ k) ∧ Aside0 (Kd.R k48 48 w' w0.heap.size (fun k_ => (P1_ k_ ∨ w.heap.size ≤ k_)) (.slice Ao8 l1.length co8) x1_1) ∧ Aside0 (w'.heap[gb2]? = some (.cells #[(.slice A0_0 l0_0.length c0_0), (.slice A0_1 l0_1.length c0_1), (.slice A0_2 l0_2.length c0_2), .int .i64 a0_3] 26 (0, 0))) ∧ Aside0 (Kept w w' (fun k_ => P1_ k_)) ∧ Aside0 (Below w0.heap.size w0 w'))
 case atStart => exact ⟨(l1), (0), rfl, H', ⟨Nat.le_refl _⟩, HO1, ⟨BK2.out⟩, HK, ⟨HB.out⟩⟩
 case round =>
  clear H'
  clear c4 c4b0 c4b1
  obtain ⟨x1_1, x8_1, rfl, HA, HK1, HO_1, BK2, HK, HB⟩ := hrel
  have hl1_1 := (Kd.R_reads' HO_1.out).1
  rw [hl1_1] at HO_1
  (try simp only [hl1_1])
  (try simp only [hl1_1] at BK2)
  cases gk with
  | zero => exact absurd HA.out (by simp [dancestudioref50_roomy.l0])
  | succ k1 =>
   have H := HA.out
   clear HA
   simp only [dancestudioref50_roomy.l0] at H
   by_cases c9 : x8_1 < (l0_1.length : Int)
   rotate_left
   ·
    rw [if_neg c9] at H
    have c9b0 := decide_eq_false c9
    clear c9
    simp only [Option.some.injEq, Prod.mk.injEq] at H
    obtain ⟨rfl, rfl⟩ := H
    have hcz55 := blk_cell BK2.out; have hfz55 := blk_frozen BK2.out
    go_wp2
    go_ret2
    exact ⟨_, rfl, by first | exact Kd.R_nil _ _ _ _ _ | exact Kd.N_nil _ _ _ _ _ | exact Kd.V_nil _ _ _ _ _ | exact Kd.Q_nil _ _ _ _ _ | exact Kd.S_nil _ _ _ _ _, by repeat (first | (with_reducible first | exact HB.out | apply below_alloc | apply pw_below_drewN | apply below_drew1 | refine below_set ?_ GE2.out) | exact HB.out), by repeat (first | (with_reducible first | exact HK.out | apply Kept.alloc | apply Kept.drewN | apply Kept.drew | refine Kept.setCell ?_ (.inr GW2.out) _) | exact HK.out)⟩
   rw [if_pos c9] at H
   have c9b0 := decide_eq_true c9
   clear c9
   obtain ⟨c10, H⟩ : (0 ≤ a2) ∧ _ := mIf H
   have c10b0 := decide_eq_true c10
   clear c10
   obtain ⟨c11, H⟩ : (a2 < (x1_1.length : Int)) ∧ _ := mIf H
   have c11b0 := decide_eq_true c11
   clear c11
   replace H := Option.bind_eq_some_iff.mp H
   obtain ⟨t497, A120, H⟩ := H
   try dsimp only at H
   have A12 := Aside0.mk A120
   clear A120
   have H' := Aside0.mk H
   clear H
   have hcz13 := blk_cell BK2.out; have hfz13 := blk_frozen BK2.out
   have p495 : 0 ≤ (a2 : Int) := of_decide_eq_true (by assumption)
   have q495 : a2 < (x1_1.length : Int) := of_decide_eq_true (by assumption)
   obtain ⟨ad495, e495, hx495_0, hx495_1, hx495_2⟩ := at_T48 (Kd.R_reads' HO_1.out).2.2 a2 p495 q495
   cases e495
   replace p495 := eq_true p495
   replace q495 := eq_true q495
   go_wp2_with (first | ((with_reducible refine gate_dst (N := 9) rfl ?_); refine box_event rfl (N := 9) rfl (cs := #[.int .i64 0, .int .i64 0, .int .i64 0]) (t := 48) (by first | (go_simp; done) | (go_simp; rfl)) ?_; intro gb3 hg w14 hbox hb; replace HO_1 := Aside0.mk (Kd.R_below (Kd.R_elderB (rO HO_1) gb3 (Nat.le_of_eq hg.symm)) hb); have BK3 := Aside0.mk hbox; have GW3 := Aside0.mk ((by rw [hg]; exact (by first | exact HK.out.1 | exact (show Kept w _ (fun k_ => P1_ k_) from by repeat (first | (with_reducible first | exact HK.out | apply Kept.alloc | apply Kept.drewN | apply Kept.drew | refine Kept.setCell ?_ (.inr GW2.out) _) | exact HK.out)).1) : w.heap.size ≤ gb3)); replace HK := Aside0.mk (Kept.below (S := (fun k_ => P1_ k_)) (by repeat (first | (with_reducible first | exact HK.out | apply Kept.alloc | apply Kept.drewN | apply Kept.drew | refine Kept.setCell ?_ (.inr GW2.out) _) | exact HK.out)) hb); have GE3 := Aside0.mk ((by rw [hg]; exact (below_size (hO HB)) : w0.heap.size ≤ gb3)); replace HB := mSx HB hb; have NB2_3 := mNe BK2 hg; have NB3_2 := mSy NB2_3; replace BK2 := mBb BK2 hb; clear hb hbox hg; have hnb15 := NB3_2.out; have hnc15 := NB2_3.out; have hcz16 := blk_cell BK3.out; have hfz16 := blk_frozen BK3.out; have hcz17 := blk_cell BK2.out; have hfz17 := blk_frozen BK2.out; have hs_ : World.cell? (World.setCell (World.setCell w14 ⟨gb3, 0, none⟩ (.int .i64 ((rd_T48 x1_1 a2).f0))) ⟨gb3, 1, none⟩ (.int .i64 ((rd_T48 x1_1 a2).f1))) ⟨gb3, 1, none⟩ = some (.int .i64 ((rd_T48 x1_1 a2).f1)) := (by go_simp)) | ((with_reducible refine gate_callee (f := 37) rfl ?_); refine goesL_ (some 35) rfl rfl Try.func37 (by kernel_rfl) rfl #[.agg #[.slice A0_0 l0_0.length c0_0, .slice A0_1 l0_1.length c0_1, .slice A0_2 l0_2.length c0_2, .int .i64 a0_3], .agg #[.int .i64 ((rd_T48 x1_1 a2).f0), .int .i64 x8_1, .int .i64 ((rd_T48 x1_1 a2).f2)]] rfl (mA2 rfl rfl) ?_; (with_reducible refine (dancestudioref50_alone.calls k1 _ _ l0_0 _ _ l0_1 _ _ l0_2 a0_3 ((rd_T48 x1_1 a2).f0) x8_1 ((rd_T48 x1_1 a2).f2) t497 _ ?side1 ?side2 ?side3 ?side4 ?side5 ?side6 A12.out).mono ?_); (case side1 => exact Kd.C_kept_now HR0_0.out (by repeat (first | (with_reducible first | exact HK.out | apply Kept.alloc | apply Kept.drewN | apply Kept.drew | refine Kept.setCell ?_ (.inr GW2.out) _ | refine Kept.setCell ?_ (.inr GW3.out) _) | exact HK.out))); (case side2 => exact HC0_0.out); (case side3 => exact Kd.C_kept_now HR0_1.out (by repeat (first | (with_reducible first | exact HK.out | apply Kept.alloc | apply Kept.drewN | apply Kept.drew | refine Kept.setCell ?_ (.inr GW2.out) _ | refine Kept.setCell ?_ (.inr GW3.out) _) | exact HK.out))); (case side4 => exact HC0_1.out); (case side5 => exact Kd.C_kept_now HR0_2.out (by repeat (first | (with_reducible first | exact HK.out | apply Kept.alloc | apply Kept.drewN | apply Kept.drew | refine Kept.setCell ?_ (.inr GW2.out) _ | refine Kept.setCell ?_ (.inr GW3.out) _) | exact HK.out))); (case side6 => exact HC0_2.out); rintro e w18 ⟨rfl, hb⟩; refine ⟨_, rfl, ?_⟩; replace HO_1 := Aside0.mk (Kd.R_below (by exact (Kd.R_mono (Kd.R_far (p := ⟨gb3, 1, none⟩) (Kd.R_far (p := ⟨gb3, 2, none⟩) (Kd.R_far (p := ⟨gb3, 1, none⟩) (Kd.R_far (p := ⟨gb3, 0, none⟩) (Kd.R_mono HO_1.out (fun k_ hk => (⟨hk, hk.2⟩ : _ ∧ k_ ≠ gb3))) (fun _ hk => hk.2) (.int .i64 ((rd_T48 x1_1 a2).f0))) (fun _ hk => hk.2) (.int .i64 ((rd_T48 x1_1 a2).f1))) (fun _ hk => hk.2) (.int .i64 ((rd_T48 x1_1 a2).f2))) (fun _ hk => hk.2) (.int .i64 x8_1)) (fun _ h_ => h_.1))) hb); replace BK2 := Aside0.mk (blk_below (g := gb2) (o := .cells #[.slice A0_0 l0_0.length c0_0, .slice A0_1 l0_1.length c0_1, .slice A0_2 l0_2.length c0_2, .int .i64 a0_3] 26 (0, 0)) (by refine blk_far ?_ NB2_3.out _; refine blk_far ?_ NB2_3.out _; refine blk_far ?_ NB2_3.out _; refine blk_far ?_ NB2_3.out _; exact BK2.out) hb); replace BK3 := Aside0.mk (blk_below (g := gb3) (o := .cells #[.int .i64 ((rd_T48 x1_1 a2).f0), .int .i64 x8_1, .int .i64 ((rd_T48 x1_1 a2).f2)] 48 (0, 0)) (by refine blk_put (cs := #[.int .i64 ((rd_T48 x1_1 a2).f0), .int .i64 ((rd_T48 x1_1 a2).f1), .int .i64 ((rd_T48 x1_1 a2).f2)]) ?_ 1 _ rfl; refine blk_put (cs := #[.int .i64 ((rd_T48 x1_1 a2).f0), .int .i64 ((rd_T48 x1_1 a2).f1), .int .i64 0]) ?_ 2 _ rfl; refine blk_put (cs := #[.int .i64 ((rd_T48 x1_1 a2).f0), .int .i64 0, .int .i64 0]) ?_ 1 _ rfl; refine blk_put (cs := #[.int .i64 0, .int .i64 0, .int .i64 0]) ?_ 0 _ rfl; exact BK3.out) hb); replace HK := Aside0.mk (Kept.below (S := (fun k_ => P1_ k_)) (by repeat (first | (with_reducible first | exact HK.out | apply Kept.alloc | apply Kept.drewN | apply Kept.drew | refine Kept.setCell ?_ (.inr GW2.out) _ | refine Kept.setCell ?_ (.inr GW3.out) _) | exact HK.out)) hb); replace HB := mSx HB hb; (try clear hb)))
   go_loopg [10, 11] k1 (fun kq v10 v11 w' => ∃ (x10_2 : Bool) (x11_2 : Int), v10 = .bool x10_2 ∧ v11 = .int .i64 x11_2 ∧ Aside0 (dancestudioref50_roomy.l1 kq x1_1 a2 x8_1 x10_2 x11_2 l0_0 l0_1 l0_2 a0_3 ((rd_T48 x1_1 a2).f0) x8_1 ((rd_T48 x1_1 a2).f2) = some (r1, r2)) ∧ Aside0 (kq ≤ k1) ∧ Aside0 (Kd.R k48 48 w' w0.heap.size (fun k_ => (P1_ k_ ∨ w.heap.size ≤ k_) ∧ k_ ≠ gb3) (.slice (some ad495) x1_1.length co8) x1_1) ∧ Aside0 (w'.heap[gb2]? = some (.cells #[(.slice A0_0 l0_0.length c0_0), (.slice A0_1 l0_1.length c0_1), (.slice A0_2 l0_2.length c0_2), .int .i64 a0_3] 26 (0, 0))) ∧ Aside0 (w'.heap[gb3]? = some (.cells #[.int .i64 ((rd_T48 x1_1 a2).f0), .int .i64 x8_1, .int .i64 ((rd_T48 x1_1 a2).f2)] 48 (0, 0))) ∧ Aside0 (Kept w w' (fun k_ => P1_ k_)) ∧ Aside0 (Below w0.heap.size w0 w'))
   case atStart => exact ⟨((t497 == 0)), (0), rfl, rfl, H', ⟨Nat.le_refl _⟩, HO_1, BK2, BK3, HK, ⟨HB.out⟩⟩
   case round =>
    clear H'
    clear c9b0 c10b0 c11b0 hx495_0 hx495_1 hx495_2 p495 q495
    obtain ⟨x10_2, x11_2, rfl, rfl, HA, HK2, HO_1, BK2, BK3, HK, HB⟩ := hrel
    cases gk with
    | zero => exact absurd HA.out (by simp [dancestudioref50_roomy.l1])
    | succ k2 =>
     have H := HA.out
     clear HA
     simp only [dancestudioref50_roomy.l1] at H
     by_cases c19 : x11_2 < a2
     rotate_left
     ·
      rw [if_neg c19] at H
      have c19b0 := decide_eq_false c19
      clear c19
      by_cases c30 : x10_2 = true
      rotate_left
      ·
       replace c30 := Bool.eq_false_iff.mpr c30
       subst c30
       rw [if_neg (show ¬ (false = true) by decide)] at H
       have H' := Aside0.mk H
       clear H
       go_wp2
       (try simp only [← hl1_1])
       go_roundg k2
       case measure => have := HK1.out; have := HK2.out; omega
       case rel => exact ⟨(x1_1), (wrap64 (x8_1 + 1)), rfl, H', ⟨by have := HK1.out; have := HK2.out; omega⟩, ⟨by (try simp only [hl1_1]); exact Kd.R_mono HO_1.out (fun _ hk => hk.1)⟩, BK2, HK, ⟨HB.out⟩⟩
      subst c30
      rw [if_pos rfl] at H
      obtain ⟨y501, hy501⟩ : ∃ y_ : List (S48), y_ = (([] : List (S48))) := ⟨_, rfl⟩
      rw [← hy501] at H
      have Ny501 := Aside0.mk hy501
      clear hy501
      obtain ⟨c31, H⟩ : (y501.length + x1_1.length < 5864062014805) ∧ _ := mIf H
      have LMc31 := Aside0.mk c31
      clear c31
      obtain ⟨y504, hy504⟩ : ∃ y_ : List (S48), y_ = (y501 ++ x1_1) := ⟨_, rfl⟩
      rw [← hy504] at H
      have Ny504 := Aside0.mk hy504
      clear hy504
      obtain ⟨c32, H⟩ : (0 ≤ a2) ∧ _ := mIf H
      have c32b0 := decide_eq_true c32
      clear c32
      obtain ⟨c33, H⟩ : (a2 < (y504.length : Int)) ∧ _ := mIf H
      have c33b0 := decide_eq_true c33
      clear c33
      obtain ⟨y507, hy507⟩ : ∃ y_ : List (S48), y_ = (y504.set (a2 : Int).toNat (⟨((rd_T48 x1_1 a2).f0), x8_1, ((rd_T48 x1_1 a2).f2)⟩ : S48)) := ⟨_, rfl⟩
      rw [← hy507] at H
      have Ny507 := Aside0.mk hy507
      clear hy507
      replace H := Option.bind_eq_some_iff.mp H
      obtain ⟨⟨t508, t511⟩, A350, H⟩ := H
      try dsimp only at H
      have A35 := Aside0.mk A350
      clear A350
      by_cases c36 : t511 = true
      ·
       subst c36
       rw [if_pos rfl] at H
       simp only [Option.some.injEq, Prod.mk.injEq] at H
       obtain ⟨rfl, rfl⟩ := H
       go_wp2_with (first | ((with_reducible refine gate_dst (N := 64) rfl ?_); refine Kd.R_lit k48 _ 48 ?hg (N := 64) ?hd (xs := ([] : List (S48))) (inner := []) (ok := fun _ => True) (okp := fun _ => True) ?hr ?hp (fun _ hk => hk) trivial (Below.refl _ _) (Nat.le_refl _) (by simp) ?_; (case hd => rfl); (case hg => rfl); (case hr => first | (go_simp; done) | (go_simp; rfl)); (case hp => exact (Reps.none _ _)); intro v502 w37 ho38 hb hg_ hnew_; clear hg_ hnew_; (first | rw [← Ny501.out] at ho38 | (simp only [Int.reduceToNat] at ho38; rw [← Ny501.out] at ho38)); have HO503 := Aside0.mk (Kd.R_lower (Kd.R_newB (Kd.R_new' (Kd.R_newM (M := fun k_ => (P1_ k_ ∨ w.heap.size ≤ k_)) ho38 (by first | exact HK.out.1 | exact (show Kept w _ (fun k_ => P1_ k_) from by repeat (first | (with_reducible first | exact HK.out | apply Kept.alloc | apply Kept.drewN | apply Kept.drew | refine Kept.setCell ?_ (.inr GW2.out) _ | refine Kept.setCell ?_ (.inr GW3.out) _) | exact HK.out)).1) (fun k_ h_ => .inr h_)) (Kd.R_lt HO_1.out)) (g := gb3) (o := .cells #[.int .i64 ((rd_T48 x1_1 a2).f0), .int .i64 x8_1, .int .i64 ((rd_T48 x1_1 a2).f2)] 48 (0, 0)) BK3.out) (below_size HB.out)); replace HO_1 := Aside0.mk (Kd.R_elder' HO_1.out (Kd.R_base ho38) hb); replace BK2 := mBb BK2 hb; replace BK3 := mBb BK3 hb; replace HK := Aside0.mk (Kept.below (S := (fun k_ => P1_ k_)) (by repeat (first | (with_reducible first | exact HK.out | apply Kept.alloc | apply Kept.drewN | apply Kept.drew | refine Kept.setCell ?_ (.inr GW2.out) _ | refine Kept.setCell ?_ (.inr GW3.out) _) | exact HK.out)) hb); replace HB := mSt HB hb; clear hb ho38) | ((with_reducible refine gate_builtin (b := .append) (xs := #[.tmp 64, .tmp 65]) rfl ?_); at_builtin; refine Kd.R_append_rows k48 (w0 := w0) w0.heap.size rfl (.tmp 64) (.tmp 65) 37 48 (.agg #[(.int .i64 0), (.int .i64 0), (.int .i64 0)]) 24 rfl Try.underlying37 info48 rfl (by decide) (by omega) v502 y501 x1_1 _ _ _ (fun k_ => (P1_ k_ ∨ w.heap.size ≤ k_) ∧ some k_ ≠ (.slice (some ad495) x1_1.length co8 : Value).ownBlock ∧ k_ ≠ gb3) (fun _ => False) rfl rfl ?aO ?aR (fun _ _ h => h) (fun _ h => h.elim) ?aF ?aB ?aS ?aL ?_; (case aR => repeat (first | exact (Kd.R_reads' HO_1.out).2.2 | (with_reducible refine Kd.C_alloc ?_ _) | (with_reducible refine Kd.C_drewN ?_ _) | (with_reducible refine Kd.C_drew ?_))); (case aB => exact HB.out); (case aF => exact (fun k_ hk => ⟨(.inr (Nat.le_trans (by first | exact HK.out.1 | exact (show Kept w _ (fun k_ => P1_ k_) from by repeat (first | (with_reducible first | exact HK.out | apply Kept.alloc | apply Kept.drewN | apply Kept.drew | refine Kept.setCell ?_ (.inr GW2.out) _ | refine Kept.setCell ?_ (.inr GW3.out) _) | exact HK.out)).1) hk)), Kd.fresh' (Kd.R_lt HO_1.out) k_ hk, Kd.freshB (g := gb3) (o := .cells #[.int .i64 ((rd_T48 x1_1 a2).f0), .int .i64 x8_1, .int .i64 ((rd_T48 x1_1 a2).f2)] 48 (0, 0)) BK3.out k_ hk⟩)); (case aO => exact (by exact Kd.R_mono HO503.out (fun _ hk => ⟨hk.1.1.1, ⟨hk.1.2, hk.2⟩⟩))); (case aS => exact (below_size HB.out)); (case aL => have := LMc31.out; omega); intro v505 w39 ho hb hg hat; rw [← Ny504.out] at ho; replace HO_1 := Aside0.mk (Kd.R_after (ok := (fun k_ => (P1_ k_ ∨ w.heap.size ≤ k_) ∧ k_ ≠ gb3)) HO_1.out hg hat); replace BK2 := Aside0.mk (blk_grown (g := gb2) (o := .cells #[.slice A0_0 l0_0.length c0_0, .slice A0_1 l0_1.length c0_1, .slice A0_2 l0_2.length c0_2, .int .i64 a0_3] 26 (0, 0)) BK2.out hg (Kd.R_ne HO503.out BK2.out (by decide))); replace BK3 := Aside0.mk (blk_grown (g := gb3) (o := .cells #[.int .i64 ((rd_T48 x1_1 a2).f0), .int .i64 x8_1, .int .i64 ((rd_T48 x1_1 a2).f2)] 48 (0, 0)) BK3.out hg (Kd.R_away HO503.out (fun _ hk => hk.2))); replace HB := Aside0.mk hb; replace HK := Aside0.mk (Kept.of_grown (S := (fun k_ => P1_ k_)) hg (by repeat (first | (with_reducible first | exact HK.out | apply Kept.alloc | apply Kept.drewN | apply Kept.drew | refine Kept.setCell ?_ (.inr GW2.out) _ | refine Kept.setCell ?_ (.inr GW3.out) _) | exact HK.out)) (fun k_ e_ => (HO503.out.1 k_ e_).1.1.1)); have HO506 := Aside0.mk ho; clear HO503; clear ho hb hg hat; have hnb40 := NB3_2.out; have hnc40 := NB2_3.out; have hcz41 := blk_cell BK3.out; have hfz41 := blk_frozen BK3.out; have p34 : 0 ≤ (a2 : Int) := of_decide_eq_true (by assumption); have q34 : (a2 : Int) < ((y504.length : Int) : Int) := of_decide_eq_true (by assumption); obtain ⟨go34, co34, eo34, gb1, gl34, cl34, HG34⟩ := Kd.R_form HO506.out (by omega); (first | cases eo34 | (injection eo34 with ea_ en_ ec_; (first | subst ea_ | (injection ea_ with ea_; subst ea_)); subst ec_; clear en_)); have GB34 := Aside0.mk gb1; have GG34 := Aside0.mk HG34; clear gb1 gl34 HG34; have HMgo34 := Aside0.mk (show (P1_ go34 ∨ w.heap.size ≤ go34) from (HO506.out.1 _ rfl).1); obtain ⟨ce34, hcl34, hM34, hcc34, hfr34⟩ := Kd.R_elem HO506.out z48 (a2 : Int) p34 q34; obtain rfl := k48_openM hM34; have hx34_0 : w39.cell? ⟨go34, (a2 : Int).toNat * 3, none⟩ = some (.int .i64 ((rd_T48 y504 a2).f0)) := hcc34 0 _ rfl; have hx34_1 : w39.cell? ⟨go34, (a2 : Int).toNat * 3 + 1, none⟩ = some (.int .i64 ((rd_T48 y504 a2).f1)) := hcc34 1 _ rfl; have hx34_2 : w39.cell? ⟨go34, (a2 : Int).toNat * 3 + 2, none⟩ = some (.int .i64 ((rd_T48 y504 a2).f2)) := hcc34 2 _ rfl; have hf34_0 : w39.frozen? ⟨go34, (a2 : Int).toNat * 3, none⟩ = false := hfr34 0; have hf34_1 : w39.frozen? ⟨go34, (a2 : Int).toNat * 3 + 1, none⟩ = false := hfr34 1; have hf34_2 : w39.frozen? ⟨go34, (a2 : Int).toNat * 3 + 2, none⟩ = false := hfr34 2; clear hcl34 hcc34 hfr34 hM34; replace p34 := eq_true p34; replace q34 := eq_true q34; have HX42 := Aside0.mk (show Kd.R k48 48 w39 w0.heap.size (fun k_ => (P1_ k_ ∨ w.heap.size ≤ k_) ∧ some k_ ≠ (.slice (some ad495) x1_1.length co8 : Value).ownBlock ∧ k_ ≠ gb3) (.slice (some ⟨go34, 0, none⟩) y504.length co34) y504 from HO506.out); obtain ⟨ce42, hcl42, hM42, hcc42, hfr42⟩ := Kd.R_elem HX42.out z48 (a2 : Int) (of_decide_eq_true (by assumption)) (by have h_ : (a2 : Int) < ((y504.length : Int) : Int) := of_decide_eq_true (by assumption); first | exact h_ | (have e_ := (Kd.R_reads' HO506.out).1; omega) | simpa using h_); obtain rfl := k48_openM hM42; have HP42 := Kd.R_seg HX42.out (a2 : Int) (of_decide_eq_true (by assumption)) (by have h_ : (a2 : Int) < ((y504.length : Int) : Int) := of_decide_eq_true (by assumption); first | exact h_ | (have e_ := (Kd.R_reads' HO506.out).1; omega) | simpa using h_) (seg := [.int .i64 ((rd_T48 x1_1 a2).f0), .int .i64 x8_1, .int .i64 ((rd_T48 x1_1 a2).f2)]) (j := 0) hcl42 hcc42 (show 3 ≤ 3 from by decide) (x' := (⟨((rd_T48 x1_1 a2).f0), x8_1, ((rd_T48 x1_1 a2).f2)⟩ : S48)) (k48_mkM _ _ _ (⟨((rd_T48 x1_1 a2).f0), x8_1, ((rd_T48 x1_1 a2).f2)⟩ : S48) ) (fun _ hk => hk); have hx42_0 := hcc42 0 _ rfl; (try simp only [show (k48).sz = 3 from rfl, Nat.mul_one, Nat.add_zero] at hx42_0); have hf42_0 := hfr42 0; (try simp only [show (k48).sz = 3 from rfl, Nat.mul_one, Nat.add_zero] at hf42_0); have hx42_1 := hcc42 1 _ rfl; (try simp only [show (k48).sz = 3 from rfl, Nat.mul_one, Nat.add_zero] at hx42_1); have hf42_1 := hfr42 1; (try simp only [show (k48).sz = 3 from rfl, Nat.mul_one, Nat.add_zero] at hf42_1); have hx42_2 := hcc42 2 _ rfl; (try simp only [show (k48).sz = 3 from rfl, Nat.mul_one, Nat.add_zero] at hx42_2); have hf42_2 := hfr42 2; (try simp only [show (k48).sz = 3 from rfl, Nat.mul_one, Nat.add_zero] at hf42_2); clear hcl42 hcc42 hfr42 hM42) | ((with_reducible refine gate_store (t := 48) (p := 70) rfl ?_); refine store_event (t := 48) (p := 70) (v := ?vo_w43) (w1 := (((w39.setCell ⟨go34, (a2 : Int).toNat * 3, none⟩ (.int .i64 ((rd_T48 x1_1 a2).f0))).setCell ⟨go34, (a2 : Int).toNat * 3 + 1, none⟩ (.int .i64 x8_1)).setCell ⟨go34, (a2 : Int).toNat * 3 + 2, none⟩ (.int .i64 ((rd_T48 x1_1 a2).f2)))) ?hg ?ho ?hn ?hr ?_; (case ho => rfl); (case hg => rfl); (case hn => rfl); (case hr => first | (go_simp; done) | (go_simp; rfl)); intro w43 hw; have hg : w39.grownBy w43 (some go34) := (by rw [hw]; exact HP42.2); have hp_ : Kd.R k48 48 w43 w0.heap.size (fun k_ => (P1_ k_ ∨ w.heap.size ≤ k_) ∧ some k_ ≠ (.slice (some ad495) x1_1.length co8 : Value).ownBlock ∧ k_ ≠ gb3) (.slice (some ⟨go34, 0, none⟩) y504.length co34) y507 := (by rw [hw, Ny507.out]; exact HP42.1); clear HP42; replace HO_1 := Aside0.mk (Kd.R_after (v := (.slice (some ⟨go34, 0, none⟩) y504.length co34)) (v1 := (.slice (some ⟨go34, 0, none⟩) y504.length co34)) (ok := (fun k_ => (P1_ k_ ∨ w.heap.size ≤ k_) ∧ k_ ≠ gb3)) HO_1.out hg (.inl rfl)); replace BK2 := Aside0.mk (blk_grown (g := gb2) (o := .cells #[.slice A0_0 l0_0.length c0_0, .slice A0_1 l0_1.length c0_1, .slice A0_2 l0_2.length c0_2, .int .i64 a0_3] 26 (0, 0)) BK2.out hg (Kd.R_ne HO506.out BK2.out (by decide))); replace BK3 := Aside0.mk (blk_grown (g := gb3) (o := .cells #[.int .i64 ((rd_T48 x1_1 a2).f0), .int .i64 x8_1, .int .i64 ((rd_T48 x1_1 a2).f2)] 48 (0, 0)) BK3.out hg (Kd.R_away HO506.out (fun _ hk => hk.2.2))); replace HB := Aside0.mk ((by rw [hw]; exact below_set (below_set (below_set (HB.out) GB34.out) GB34.out) GB34.out : Below w0.heap.size w0 w43)); replace HK := Aside0.mk (Kept.of_grown (S := (fun k_ => P1_ k_)) hg (by repeat (first | (with_reducible first | exact HK.out | apply Kept.alloc | apply Kept.drewN | apply Kept.drew | refine Kept.setCell ?_ (.inr GW2.out) _ | refine Kept.setCell ?_ (.inr GW3.out) _) | exact HK.out)) (fun k_ e_ => (HO506.out.1 k_ e_).1)); replace HO506 := Aside0.mk (hp_); clear hg hw hp_; have hcz44 := blk_cell BK2.out; have hfz44 := blk_frozen BK2.out) | ((with_reducible refine gate_callee (f := 57) rfl ?_); refine goesL_ (some 76) rfl rfl Try.func57 (by kernel_rfl) rfl #[.agg #[.slice A0_0 l0_0.length c0_0, .slice A0_1 l0_1.length c0_1, .slice A0_2 l0_2.length c0_2, .int .i64 a0_3], .slice (some ⟨go34, 0, none⟩) y504.length co34, .int .i64 (wrap64 (a2 + 1))] rfl (mA3 rfl rfl rfl) ?_; (with_reducible refine (ih k2 (by have := HK1.out; have := HK2.out; omega) _ _ l0_0 _ _ l0_1 _ _ l0_2 a0_3 (fun k_ => some k_ = (.slice (some ⟨go34, 0, none⟩) y504.length co34 : Value).ownBlock) (.slice (some ⟨go34, 0, none⟩) y504.length co34) y507 (wrap64 (a2 + 1)) t508 true w0 _ ?side1 ?side2 ?side3 ?side4 ?side5 ?side6 ?side7 ?side8 A35.out).mono ?_); (case side1 => repeat (first | (with_reducible first | exact HB.out | apply below_alloc | apply pw_below_drewN | apply below_drew1 | refine below_set ?_ GE2.out | refine below_set ?_ GE3.out) | exact HB.out)); (case side2 => exact Kd.C_kept_call HR0_0.out (by repeat (first | (with_reducible first | exact HK.out | apply Kept.alloc | apply Kept.drewN | apply Kept.drew | refine Kept.setCell ?_ (.inr GW2.out) _ | refine Kept.setCell ?_ (.inr GW3.out) _) | exact HK.out)) (fun k_ hs_ => (fun e_ => (HO506.out.1 k_ e_.symm).1) hs_)); (case side3 => exact HC0_0.out); (case side4 => exact Kd.C_kept_call HR0_1.out (by repeat (first | (with_reducible first | exact HK.out | apply Kept.alloc | apply Kept.drewN | apply Kept.drew | refine Kept.setCell ?_ (.inr GW2.out) _ | refine Kept.setCell ?_ (.inr GW3.out) _) | exact HK.out)) (fun k_ hs_ => (fun e_ => (HO506.out.1 k_ e_.symm).1) hs_)); (case side5 => exact HC0_1.out); (case side6 => exact Kd.C_kept_call HR0_2.out (by repeat (first | (with_reducible first | exact HK.out | apply Kept.alloc | apply Kept.drewN | apply Kept.drew | refine Kept.setCell ?_ (.inr GW2.out) _ | refine Kept.setCell ?_ (.inr GW3.out) _) | exact HK.out)) (fun k_ hs_ => (fun e_ => (HO506.out.1 k_ e_.symm).1) hs_)); (case side7 => exact HC0_2.out); (case side8 => exact Kd.R_tight rfl HO506.out); rintro e w45 ⟨v509, rfl, ho0, hb, hkp⟩; refine ⟨_, rfl, ?_⟩; replace BK2 := Aside0.mk (blk_kept BK2.out hkp (fun hs_ => (fun e_ => (Kd.R_ne HO506.out BK2.out (by decide)) e_) hs_)); have HO510 := Aside0.mk (Kd.R_mono (ok' := fun k_ => (P1_ k_ ∨ w.heap.size ≤ k_) ∧ some k_ ≠ (.slice (some ad495) x1_1.length co8 : Value).ownBlock ∧ k_ ≠ gb3) ho0 (fun k_ hk_ => ⟨Or.elim hk_ (fun hs_ => (HO506.out.1 k_ (hs_).symm).1) (fun hn_ => (.inr (Nat.le_trans (by first | exact HK.out.1 | exact (show Kept w _ (fun k_ => P1_ k_) from by repeat (first | (with_reducible first | exact HK.out | apply Kept.alloc | apply Kept.drewN | apply Kept.drew | refine Kept.setCell ?_ (.inr GW2.out) _ | refine Kept.setCell ?_ (.inr GW3.out) _) | exact HK.out)).1) hn_))), Or.elim hk_ (fun hs_ => fun e_ => (((HO_1.out).1 k_ e_.symm).2) hs_) (fun hn_ => (Kd.fresh' (Kd.R_lt HO_1.out) k_ hn_)), Or.elim hk_ (fun hs_ => fun e_ => (Kd.R_away HO506.out (fun _ hk => hk.2.2)) (by rw [← e_]; exact hs_)) (fun hn_ => (Kd.freshB (g := gb3) (o := .cells #[.int .i64 ((rd_T48 x1_1 a2).f0), .int .i64 x8_1, .int .i64 ((rd_T48 x1_1 a2).f2)] 48 (0, 0)) BK3.out k_ hn_))⟩)); replace HO_1 := Aside0.mk (Kd.R_mono (ok' := fun k_ => (P1_ k_ ∨ w.heap.size ≤ k_) ∧ k_ ≠ gb3 ∧ some k_ ≠ (v509 : Value).ownBlock) (Kd.R_keptB (HO_1.out) hkp (fun k_ hk_ hs_ => (hk_.2) hs_)) (fun k_ hk_ => ⟨hk_.1.1.1, hk_.1.1.2, fun e_ => Or.elim (ho0.1 k_ e_.symm) (fun hs_ => hk_.2.1 hs_) (fun hn_ => Nat.not_le.2 hk_.2.2 hn_)⟩)); replace BK3 := Aside0.mk (blk_kept BK3.out hkp (fun hs_ => (fun e_ => (Kd.R_away HO506.out (fun _ hk => hk.2.2)) e_) hs_)); replace HK := Aside0.mk (Kept.then_ (S := (fun k_ => P1_ k_)) (by repeat (first | (with_reducible first | exact HK.out | apply Kept.alloc | apply Kept.drewN | apply Kept.drew | refine Kept.setCell ?_ (.inr GW2.out) _ | refine Kept.setCell ?_ (.inr GW3.out) _) | exact HK.out)) hkp (fun k_ hs_ => (fun e_ => (HO506.out.1 k_ e_.symm).1) hs_)); replace HB := Aside0.mk hb; clear HO506; (try clear hb); (try clear hkp); (try clear ho0)))
       go_ret2
       exact ⟨_, rfl, by exact Kd.R_mono HO510.out (fun _ hk => hk.1), by repeat (first | (with_reducible first | exact HB.out | apply below_alloc | apply pw_below_drewN | apply below_drew1 | refine below_set ?_ GE2.out | refine below_set ?_ GE3.out) | exact HB.out), by repeat (first | (with_reducible first | exact HK.out | apply Kept.alloc | apply Kept.drewN | apply Kept.drew | refine Kept.setCell ?_ (.inr GW2.out) _ | refine Kept.setCell ?_ (.inr GW3.out) _) | exact HK.out)⟩
      replace c36 := Bool.eq_false_iff.mpr c36
      subst c36
      rw [if_neg (show ¬ (false = true) by decide)] at H
      have H' := Aside0.mk H
      clear H
      go_wp2_with (first | ((with_reducible refine gate_dst (N := 64) rfl ?_); refine Kd.R_lit k48 _ 48 ?hg (N := 64) ?hd (xs := ([] : List (S48))) (inner := []) (ok := fun _ => True) (okp := fun _ => True) ?hr ?hp (fun _ hk => hk) trivial (Below.refl _ _) (Nat.le_refl _) (by simp) ?_; (case hd => rfl); (case hg => rfl); (case hr => first | (go_simp; done) | (go_simp; rfl)); (case hp => exact (Reps.none _ _)); intro v502 w46 ho47 hb hg_ hnew_; clear hg_ hnew_; (first | rw [← Ny501.out] at ho47 | (simp only [Int.reduceToNat] at ho47; rw [← Ny501.out] at ho47)); have HO503 := Aside0.mk (Kd.R_lower (Kd.R_newB (Kd.R_new' (Kd.R_newM (M := fun k_ => (P1_ k_ ∨ w.heap.size ≤ k_)) ho47 (by first | exact HK.out.1 | exact (show Kept w _ (fun k_ => P1_ k_) from by repeat (first | (with_reducible first | exact HK.out | apply Kept.alloc | apply Kept.drewN | apply Kept.drew | refine Kept.setCell ?_ (.inr GW2.out) _ | refine Kept.setCell ?_ (.inr GW3.out) _) | exact HK.out)).1) (fun k_ h_ => .inr h_)) (Kd.R_lt HO_1.out)) (g := gb3) (o := .cells #[.int .i64 ((rd_T48 x1_1 a2).f0), .int .i64 x8_1, .int .i64 ((rd_T48 x1_1 a2).f2)] 48 (0, 0)) BK3.out) (below_size HB.out)); replace HO_1 := Aside0.mk (Kd.R_elder' HO_1.out (Kd.R_base ho47) hb); replace BK2 := mBb BK2 hb; replace BK3 := mBb BK3 hb; replace HK := Aside0.mk (Kept.below (S := (fun k_ => P1_ k_)) (by repeat (first | (with_reducible first | exact HK.out | apply Kept.alloc | apply Kept.drewN | apply Kept.drew | refine Kept.setCell ?_ (.inr GW2.out) _ | refine Kept.setCell ?_ (.inr GW3.out) _) | exact HK.out)) hb); replace HB := mSt HB hb; clear hb ho47) | ((with_reducible refine gate_builtin (b := .append) (xs := #[.tmp 64, .tmp 65]) rfl ?_); at_builtin; refine Kd.R_append_rows k48 (w0 := w0) w0.heap.size rfl (.tmp 64) (.tmp 65) 37 48 (.agg #[(.int .i64 0), (.int .i64 0), (.int .i64 0)]) 24 rfl Try.underlying37 info48 rfl (by decide) (by omega) v502 y501 x1_1 _ _ _ (fun k_ => (P1_ k_ ∨ w.heap.size ≤ k_) ∧ some k_ ≠ (.slice (some ad495) x1_1.length co8 : Value).ownBlock ∧ k_ ≠ gb3) (fun _ => False) rfl rfl ?aO ?aR (fun _ _ h => h) (fun _ h => h.elim) ?aF ?aB ?aS ?aL ?_; (case aR => repeat (first | exact (Kd.R_reads' HO_1.out).2.2 | (with_reducible refine Kd.C_alloc ?_ _) | (with_reducible refine Kd.C_drewN ?_ _) | (with_reducible refine Kd.C_drew ?_))); (case aB => exact HB.out); (case aF => exact (fun k_ hk => ⟨(.inr (Nat.le_trans (by first | exact HK.out.1 | exact (show Kept w _ (fun k_ => P1_ k_) from by repeat (first | (with_reducible first | exact HK.out | apply Kept.alloc | apply Kept.drewN | apply Kept.drew | refine Kept.setCell ?_ (.inr GW2.out) _ | refine Kept.setCell ?_ (.inr GW3.out) _) | exact HK.out)).1) hk)), Kd.fresh' (Kd.R_lt HO_1.out) k_ hk, Kd.freshB (g := gb3) (o := .cells #[.int .i64 ((rd_T48 x1_1 a2).f0), .int .i64 x8_1, .int .i64 ((rd_T48 x1_1 a2).f2)] 48 (0, 0)) BK3.out k_ hk⟩)); (case aO => exact (by exact Kd.R_mono HO503.out (fun _ hk => ⟨hk.1.1.1, ⟨hk.1.2, hk.2⟩⟩))); (case aS => exact (below_size HB.out)); (case aL => have := LMc31.out; omega); intro v505 w48 ho hb hg hat; rw [← Ny504.out] at ho; replace HO_1 := Aside0.mk (Kd.R_after (ok := (fun k_ => (P1_ k_ ∨ w.heap.size ≤ k_) ∧ k_ ≠ gb3)) HO_1.out hg hat); replace BK2 := Aside0.mk (blk_grown (g := gb2) (o := .cells #[.slice A0_0 l0_0.length c0_0, .slice A0_1 l0_1.length c0_1, .slice A0_2 l0_2.length c0_2, .int .i64 a0_3] 26 (0, 0)) BK2.out hg (Kd.R_ne HO503.out BK2.out (by decide))); replace BK3 := Aside0.mk (blk_grown (g := gb3) (o := .cells #[.int .i64 ((rd_T48 x1_1 a2).f0), .int .i64 x8_1, .int .i64 ((rd_T48 x1_1 a2).f2)] 48 (0, 0)) BK3.out hg (Kd.R_away HO503.out (fun _ hk => hk.2))); replace HB := Aside0.mk hb; replace HK := Aside0.mk (Kept.of_grown (S := (fun k_ => P1_ k_)) hg (by repeat (first | (with_reducible first | exact HK.out | apply Kept.alloc | apply Kept.drewN | apply Kept.drew | refine Kept.setCell ?_ (.inr GW2.out) _ | refine Kept.setCell ?_ (.inr GW3.out) _) | exact HK.out)) (fun k_ e_ => (HO503.out.1 k_ e_).1.1.1)); have HO506 := Aside0.mk ho; clear HO503; clear ho hb hg hat; have hnb49 := NB3_2.out; have hnc49 := NB2_3.out; have hcz50 := blk_cell BK3.out; have hfz50 := blk_frozen BK3.out; have p34 : 0 ≤ (a2 : Int) := of_decide_eq_true (by assumption); have q34 : (a2 : Int) < ((y504.length : Int) : Int) := of_decide_eq_true (by assumption); obtain ⟨go34, co34, eo34, gb1, gl34, cl34, HG34⟩ := Kd.R_form HO506.out (by omega); (first | cases eo34 | (injection eo34 with ea_ en_ ec_; (first | subst ea_ | (injection ea_ with ea_; subst ea_)); subst ec_; clear en_)); have GB34 := Aside0.mk gb1; have GG34 := Aside0.mk HG34; clear gb1 gl34 HG34; have HMgo34 := Aside0.mk (show (P1_ go34 ∨ w.heap.size ≤ go34) from (HO506.out.1 _ rfl).1); obtain ⟨ce34, hcl34, hM34, hcc34, hfr34⟩ := Kd.R_elem HO506.out z48 (a2 : Int) p34 q34; obtain rfl := k48_openM hM34; have hx34_0 : w48.cell? ⟨go34, (a2 : Int).toNat * 3, none⟩ = some (.int .i64 ((rd_T48 y504 a2).f0)) := hcc34 0 _ rfl; have hx34_1 : w48.cell? ⟨go34, (a2 : Int).toNat * 3 + 1, none⟩ = some (.int .i64 ((rd_T48 y504 a2).f1)) := hcc34 1 _ rfl; have hx34_2 : w48.cell? ⟨go34, (a2 : Int).toNat * 3 + 2, none⟩ = some (.int .i64 ((rd_T48 y504 a2).f2)) := hcc34 2 _ rfl; have hf34_0 : w48.frozen? ⟨go34, (a2 : Int).toNat * 3, none⟩ = false := hfr34 0; have hf34_1 : w48.frozen? ⟨go34, (a2 : Int).toNat * 3 + 1, none⟩ = false := hfr34 1; have hf34_2 : w48.frozen? ⟨go34, (a2 : Int).toNat * 3 + 2, none⟩ = false := hfr34 2; clear hcl34 hcc34 hfr34 hM34; replace p34 := eq_true p34; replace q34 := eq_true q34; have HX51 := Aside0.mk (show Kd.R k48 48 w48 w0.heap.size (fun k_ => (P1_ k_ ∨ w.heap.size ≤ k_) ∧ some k_ ≠ (.slice (some ad495) x1_1.length co8 : Value).ownBlock ∧ k_ ≠ gb3) (.slice (some ⟨go34, 0, none⟩) y504.length co34) y504 from HO506.out); obtain ⟨ce51, hcl51, hM51, hcc51, hfr51⟩ := Kd.R_elem HX51.out z48 (a2 : Int) (of_decide_eq_true (by assumption)) (by have h_ : (a2 : Int) < ((y504.length : Int) : Int) := of_decide_eq_true (by assumption); first | exact h_ | (have e_ := (Kd.R_reads' HO506.out).1; omega) | simpa using h_); obtain rfl := k48_openM hM51; have HP51 := Kd.R_seg HX51.out (a2 : Int) (of_decide_eq_true (by assumption)) (by have h_ : (a2 : Int) < ((y504.length : Int) : Int) := of_decide_eq_true (by assumption); first | exact h_ | (have e_ := (Kd.R_reads' HO506.out).1; omega) | simpa using h_) (seg := [.int .i64 ((rd_T48 x1_1 a2).f0), .int .i64 x8_1, .int .i64 ((rd_T48 x1_1 a2).f2)]) (j := 0) hcl51 hcc51 (show 3 ≤ 3 from by decide) (x' := (⟨((rd_T48 x1_1 a2).f0), x8_1, ((rd_T48 x1_1 a2).f2)⟩ : S48)) (k48_mkM _ _ _ (⟨((rd_T48 x1_1 a2).f0), x8_1, ((rd_T48 x1_1 a2).f2)⟩ : S48) ) (fun _ hk => hk); have hx51_0 := hcc51 0 _ rfl; (try simp only [show (k48).sz = 3 from rfl, Nat.mul_one, Nat.add_zero] at hx51_0); have hf51_0 := hfr51 0; (try simp only [show (k48).sz = 3 from rfl, Nat.mul_one, Nat.add_zero] at hf51_0); have hx51_1 := hcc51 1 _ rfl; (try simp only [show (k48).sz = 3 from rfl, Nat.mul_one, Nat.add_zero] at hx51_1); have hf51_1 := hfr51 1; (try simp only [show (k48).sz = 3 from rfl, Nat.mul_one, Nat.add_zero] at hf51_1); have hx51_2 := hcc51 2 _ rfl; (try simp only [show (k48).sz = 3 from rfl, Nat.mul_one, Nat.add_zero] at hx51_2); have hf51_2 := hfr51 2; (try simp only [show (k48).sz = 3 from rfl, Nat.mul_one, Nat.add_zero] at hf51_2); clear hcl51 hcc51 hfr51 hM51) | ((with_reducible refine gate_store (t := 48) (p := 70) rfl ?_); refine store_event (t := 48) (p := 70) (v := ?vo_w52) (w1 := (((w48.setCell ⟨go34, (a2 : Int).toNat * 3, none⟩ (.int .i64 ((rd_T48 x1_1 a2).f0))).setCell ⟨go34, (a2 : Int).toNat * 3 + 1, none⟩ (.int .i64 x8_1)).setCell ⟨go34, (a2 : Int).toNat * 3 + 2, none⟩ (.int .i64 ((rd_T48 x1_1 a2).f2)))) ?hg ?ho ?hn ?hr ?_; (case ho => rfl); (case hg => rfl); (case hn => rfl); (case hr => first | (go_simp; done) | (go_simp; rfl)); intro w52 hw; have hg : w48.grownBy w52 (some go34) := (by rw [hw]; exact HP51.2); have hp_ : Kd.R k48 48 w52 w0.heap.size (fun k_ => (P1_ k_ ∨ w.heap.size ≤ k_) ∧ some k_ ≠ (.slice (some ad495) x1_1.length co8 : Value).ownBlock ∧ k_ ≠ gb3) (.slice (some ⟨go34, 0, none⟩) y504.length co34) y507 := (by rw [hw, Ny507.out]; exact HP51.1); clear HP51; replace HO_1 := Aside0.mk (Kd.R_after (v := (.slice (some ⟨go34, 0, none⟩) y504.length co34)) (v1 := (.slice (some ⟨go34, 0, none⟩) y504.length co34)) (ok := (fun k_ => (P1_ k_ ∨ w.heap.size ≤ k_) ∧ k_ ≠ gb3)) HO_1.out hg (.inl rfl)); replace BK2 := Aside0.mk (blk_grown (g := gb2) (o := .cells #[.slice A0_0 l0_0.length c0_0, .slice A0_1 l0_1.length c0_1, .slice A0_2 l0_2.length c0_2, .int .i64 a0_3] 26 (0, 0)) BK2.out hg (Kd.R_ne HO506.out BK2.out (by decide))); replace BK3 := Aside0.mk (blk_grown (g := gb3) (o := .cells #[.int .i64 ((rd_T48 x1_1 a2).f0), .int .i64 x8_1, .int .i64 ((rd_T48 x1_1 a2).f2)] 48 (0, 0)) BK3.out hg (Kd.R_away HO506.out (fun _ hk => hk.2.2))); replace HB := Aside0.mk ((by rw [hw]; exact below_set (below_set (below_set (HB.out) GB34.out) GB34.out) GB34.out : Below w0.heap.size w0 w52)); replace HK := Aside0.mk (Kept.of_grown (S := (fun k_ => P1_ k_)) hg (by repeat (first | (with_reducible first | exact HK.out | apply Kept.alloc | apply Kept.drewN | apply Kept.drew | refine Kept.setCell ?_ (.inr GW2.out) _ | refine Kept.setCell ?_ (.inr GW3.out) _) | exact HK.out)) (fun k_ e_ => (HO506.out.1 k_ e_).1)); replace HO506 := Aside0.mk (hp_); clear hg hw hp_; have hcz53 := blk_cell BK2.out; have hfz53 := blk_frozen BK2.out) | ((with_reducible refine gate_callee (f := 57) rfl ?_); refine goesL_ (some 76) rfl rfl Try.func57 (by kernel_rfl) rfl #[.agg #[.slice A0_0 l0_0.length c0_0, .slice A0_1 l0_1.length c0_1, .slice A0_2 l0_2.length c0_2, .int .i64 a0_3], .slice (some ⟨go34, 0, none⟩) y504.length co34, .int .i64 (wrap64 (a2 + 1))] rfl (mA3 rfl rfl rfl) ?_; (with_reducible refine (ih k2 (by have := HK1.out; have := HK2.out; omega) _ _ l0_0 _ _ l0_1 _ _ l0_2 a0_3 (fun k_ => some k_ = (.slice (some ⟨go34, 0, none⟩) y504.length co34 : Value).ownBlock) (.slice (some ⟨go34, 0, none⟩) y504.length co34) y507 (wrap64 (a2 + 1)) t508 false w0 _ ?side1 ?side2 ?side3 ?side4 ?side5 ?side6 ?side7 ?side8 A35.out).mono ?_); (case side1 => repeat (first | (with_reducible first | exact HB.out | apply below_alloc | apply pw_below_drewN | apply below_drew1 | refine below_set ?_ GE2.out | refine below_set ?_ GE3.out) | exact HB.out)); (case side2 => exact Kd.C_kept_call HR0_0.out (by repeat (first | (with_reducible first | exact HK.out | apply Kept.alloc | apply Kept.drewN | apply Kept.drew | refine Kept.setCell ?_ (.inr GW2.out) _ | refine Kept.setCell ?_ (.inr GW3.out) _) | exact HK.out)) (fun k_ hs_ => (fun e_ => (HO506.out.1 k_ e_.symm).1) hs_)); (case side3 => exact HC0_0.out); (case side4 => exact Kd.C_kept_call HR0_1.out (by repeat (first | (with_reducible first | exact HK.out | apply Kept.alloc | apply Kept.drewN | apply Kept.drew | refine Kept.setCell ?_ (.inr GW2.out) _ | refine Kept.setCell ?_ (.inr GW3.out) _) | exact HK.out)) (fun k_ hs_ => (fun e_ => (HO506.out.1 k_ e_.symm).1) hs_)); (case side5 => exact HC0_1.out); (case side6 => exact Kd.C_kept_call HR0_2.out (by repeat (first | (with_reducible first | exact HK.out | apply Kept.alloc | apply Kept.drewN | apply Kept.drew | refine Kept.setCell ?_ (.inr GW2.out) _ | refine Kept.setCell ?_ (.inr GW3.out) _) | exact HK.out)) (fun k_ hs_ => (fun e_ => (HO506.out.1 k_ e_.symm).1) hs_)); (case side7 => exact HC0_2.out); (case side8 => exact Kd.R_tight rfl HO506.out); rintro e w54 ⟨v509, rfl, ho0, hb, hkp⟩; refine ⟨_, rfl, ?_⟩; replace BK2 := Aside0.mk (blk_kept BK2.out hkp (fun hs_ => (fun e_ => (Kd.R_ne HO506.out BK2.out (by decide)) e_) hs_)); have HO510 := Aside0.mk (Kd.R_mono (ok' := fun k_ => (P1_ k_ ∨ w.heap.size ≤ k_) ∧ some k_ ≠ (.slice (some ad495) x1_1.length co8 : Value).ownBlock ∧ k_ ≠ gb3) ho0 (fun k_ hk_ => ⟨Or.elim hk_ (fun hs_ => (HO506.out.1 k_ (hs_).symm).1) (fun hn_ => (.inr (Nat.le_trans (by first | exact HK.out.1 | exact (show Kept w _ (fun k_ => P1_ k_) from by repeat (first | (with_reducible first | exact HK.out | apply Kept.alloc | apply Kept.drewN | apply Kept.drew | refine Kept.setCell ?_ (.inr GW2.out) _ | refine Kept.setCell ?_ (.inr GW3.out) _) | exact HK.out)).1) hn_))), Or.elim hk_ (fun hs_ => fun e_ => (((HO_1.out).1 k_ e_.symm).2) hs_) (fun hn_ => (Kd.fresh' (Kd.R_lt HO_1.out) k_ hn_)), Or.elim hk_ (fun hs_ => fun e_ => (Kd.R_away HO506.out (fun _ hk => hk.2.2)) (by rw [← e_]; exact hs_)) (fun hn_ => (Kd.freshB (g := gb3) (o := .cells #[.int .i64 ((rd_T48 x1_1 a2).f0), .int .i64 x8_1, .int .i64 ((rd_T48 x1_1 a2).f2)] 48 (0, 0)) BK3.out k_ hn_))⟩)); replace HO_1 := Aside0.mk (Kd.R_mono (ok' := fun k_ => (P1_ k_ ∨ w.heap.size ≤ k_) ∧ k_ ≠ gb3 ∧ some k_ ≠ (v509 : Value).ownBlock) (Kd.R_keptB (HO_1.out) hkp (fun k_ hk_ hs_ => (hk_.2) hs_)) (fun k_ hk_ => ⟨hk_.1.1.1, hk_.1.1.2, fun e_ => Or.elim (ho0.1 k_ e_.symm) (fun hs_ => hk_.2.1 hs_) (fun hn_ => Nat.not_le.2 hk_.2.2 hn_)⟩)); replace BK3 := Aside0.mk (blk_kept BK3.out hkp (fun hs_ => (fun e_ => (Kd.R_away HO506.out (fun _ hk => hk.2.2)) e_) hs_)); replace HK := Aside0.mk (Kept.then_ (S := (fun k_ => P1_ k_)) (by repeat (first | (with_reducible first | exact HK.out | apply Kept.alloc | apply Kept.drewN | apply Kept.drew | refine Kept.setCell ?_ (.inr GW2.out) _ | refine Kept.setCell ?_ (.inr GW3.out) _) | exact HK.out)) hkp (fun k_ hs_ => (fun e_ => (HO506.out.1 k_ e_.symm).1) hs_)); replace HB := Aside0.mk hb; clear HO506; (try clear hb); (try clear hkp); (try clear ho0)))
      (try simp only [← hl1_1])
      go_roundg k2
      case measure => have := HK1.out; have := HK2.out; omega
      case rel => exact ⟨(x1_1), (wrap64 (x8_1 + 1)), rfl, H', ⟨by have := HK1.out; have := HK2.out; omega⟩, ⟨by (try simp only [hl1_1]); exact Kd.R_mono HO_1.out (fun _ hk => hk.1)⟩, BK2, HK, ⟨HB.out⟩⟩
     rw [if_pos c19] at H
     have c19b0 := decide_eq_true c19
     clear c19
     by_cases c20 : x10_2 = true
     rotate_left
     ·
      replace c20 := Bool.eq_false_iff.mpr c20
      subst c20
      rw [if_neg (show ¬ (false = true) by decide)] at H
      have H' := Aside0.mk H
      clear H
      try go_wp2
      replace HO_1 := Aside0.mk (Kd.R_drew HO_1.out); replace BK2 := Aside0.mk (blk_drew BK2.out); replace BK3 := Aside0.mk (blk_drew BK3.out); replace HK := Aside0.mk (Kept.drew HK.out); replace HB := Aside0.mk (below_drew1 HB.out)
      refine start_ (n := 21) (S := fun w' => True) (ds := []) #[false, false, false, false, false, false, false, false, false, false, false, false, false, false, false, false, false, false, false, false, false] (by kernel_rfl) rfl rfl trivial (fun hHeld => ?_); refine with_tabW dancestudioref50_roomy.tab12 dancestudioref50_roomy.bits12 (fun HT_ HW_ => ?_)
      generalize wr.drew = w29 at HO_1 BK2 BK3 HK HB hHeld ⊢
      refine pM 0 42 HT_ ?_
      refine pM 1 43 HT_ ?_
      refine pure_ (i := 2) (N := some 44) (v := undef) (a' := ?_) #[true, true, true, false, false, false, false, false, false, false, false, false, false, false, false, false, false, false, false, false, false] rfl rfl (any_of HT_.out (by kernel_rfl)) (fun _ _ _ h => h) (Or.inr ⟨by rfl, rfl⟩) ?_ ?_
      rotate_left
      ·
       simp only [mP]
       rfl
      refine pure_ (i := 3) (N := some 45) (v := undef) (a' := ?_) #[true, true, true, true, false, false, false, false, false, false, false, false, false, false, false, false, false, false, false, false, false] rfl rfl (any_of HT_.out (by kernel_rfl)) (fun _ _ _ h => h) (Or.inr ⟨by rfl, rfl⟩) ?_ ?_
      rotate_left
      ·
       simp only [mP]
       rfl
      refine pure_ (i := 4) (N := some 46) (v := undef) (a' := ?_) #[true, true, true, true, true, false, false, false, false, false, false, false, false, false, false, false, false, false, false, false, false] rfl rfl (any_of HT_.out (by kernel_rfl)) (fun _ _ _ h => h) (Or.inr ⟨by rfl, rfl⟩) ?_ ?_
      rotate_left
      ·
       simp only [mP]
       rfl
      refine pure_ (i := 5) (N := some 47) (v := undef) (a' := ?_) #[true, true, true, true, true, true, false, false, false, false, false, false, false, false, false, false, false, false, false, false, false] rfl rfl (any_of HT_.out (by kernel_rfl)) (fun _ _ _ h => h) (Or.inr ⟨by rfl, rfl⟩) ?_ ?_
      rotate_left
      ·
       simp only [mP]
       rfl
      refine pure_ (i := 6) (N := some 48) (v := undef) (a' := ?_) #[true, true, true, true, true, true, true, false, false, false, false, false, false, false, false, false, false, false, false, false, false] rfl rfl (any_of HT_.out (by kernel_rfl)) (fun _ _ _ h => h) (Or.inr ⟨by rfl, rfl⟩) ?_ ?_
      rotate_left
      ·
       simp only [mP]
       rfl
      refine pure_ (i := 7) (N := some 49) (v := undef) (a' := ?_) #[true, true, true, true, true, true, true, true, false, false, false, false, false, false, false, false, false, false, false, false, false] rfl rfl (any_of HT_.out (by kernel_rfl)) (fun _ _ _ h => h) (Or.inr ⟨by rfl, rfl⟩) ?_ ?_
      rotate_left
      ·
       simp only [mP]
       rfl
      refine pure_ (i := 8) (N := some 50) (v := undef) (a' := ?_) #[true, true, true, true, true, true, true, true, true, false, false, false, false, false, false, false, false, false, false, false, false] rfl rfl (any_of HT_.out (by kernel_rfl)) (fun _ _ _ h => h) (Or.inr ⟨by rfl, rfl⟩) ?_ ?_
      rotate_left
      ·
       simp only [mP]
       rfl
      refine pure_ (i := 9) (N := some 51) (v := undef) (a' := ?_) #[true, true, true, true, true, true, true, true, true, true, false, false, false, false, false, false, false, false, false, false, false] rfl rfl (any_of HT_.out (by kernel_rfl)) (fun _ _ _ h => h) (Or.inr ⟨by rfl, rfl⟩) ?_ ?_
      rotate_left
      ·
       simp only [mP]
       rfl
      refine pure_ (i := 10) (N := some 52) (v := undef) (a' := ?_) #[true, true, true, true, true, true, true, true, true, true, true, false, false, false, false, false, false, false, false, false, false] rfl rfl (any_of HT_.out (by kernel_rfl)) (fun _ _ _ h => h) (Or.inr ⟨by rfl, rfl⟩) ?_ ?_
      rotate_left
      ·
       simp only [mP]
       rfl
      refine pure_ (i := 11) (N := some 53) (v := undef) (a' := ?_) #[true, true, true, true, true, true, true, true, true, true, true, true, false, false, false, false, false, false, false, false, false] rfl rfl (any_of HT_.out (by kernel_rfl)) (fun _ _ _ h => h) (Or.inr ⟨by rfl, rfl⟩) ?_ ?_
      rotate_left
      ·
       simp only [mP]
       rfl
      refine pure_ (i := 12) (N := some 54) (v := undef) (a' := ?_) #[true, true, true, true, true, true, true, true, true, true, true, true, true, false, false, false, false, false, false, false, false] rfl rfl (any_of HT_.out (by kernel_rfl)) (fun _ _ _ h => h) (Or.inr ⟨by rfl, rfl⟩) ?_ ?_
      rotate_left
      ·
       simp only [mP]
       rfl
      refine pure_ (i := 13) (N := some 55) (v := undef) (a' := ?_) #[true, true, true, true, true, true, true, true, true, true, true, true, true, true, false, false, false, false, false, false, false] rfl rfl (any_of HT_.out (by kernel_rfl)) (fun _ _ _ h => h) (Or.inr ⟨by rfl, rfl⟩) ?_ ?_
      rotate_left
      ·
       simp only [mP]
       rfl
      refine pure_ (i := 14) (N := some 56) (v := undef) (a' := ?_) #[true, true, true, true, true, true, true, true, true, true, true, true, true, true, true, false, false, false, false, false, false] rfl rfl (any_of HT_.out (by kernel_rfl)) (fun _ _ _ h => h) (Or.inr ⟨by rfl, rfl⟩) ?_ ?_
      rotate_left
      ·
       simp only [mP]
       rfl
      refine pure_ (i := 15) (N := some 57) (v := undef) (a' := ?_) #[true, true, true, true, true, true, true, true, true, true, true, true, true, true, true, true, false, false, false, false, false] rfl rfl (any_of HT_.out (by kernel_rfl)) (fun _ _ _ h => h) (Or.inr ⟨by rfl, rfl⟩) ?_ ?_
      rotate_left
      ·
       simp only [mP]
       rfl
      refine pure_ (i := 16) (N := some 58) (v := undef) (a' := ?_) #[true, true, true, true, true, true, true, true, true, true, true, true, true, true, true, true, true, false, false, false, false] rfl rfl (any_of HT_.out (by kernel_rfl)) (fun _ _ _ h => h) (Or.inr ⟨by rfl, rfl⟩) ?_ ?_
      rotate_left
      ·
       simp only [mP]
       rfl
      refine pure_ (i := 17) (N := some 59) (v := undef) (a' := ?_) #[true, true, true, true, true, true, true, true, true, true, true, true, true, true, true, true, true, true, false, false, false] rfl rfl (any_of HT_.out (by kernel_rfl)) (fun _ _ _ h => h) (Or.inr ⟨by rfl, rfl⟩) ?_ ?_
      rotate_left
      ·
       simp only [mP]
       rfl
      refine pure_ (i := 18) (N := some 60) (v := undef) (a' := ?_) #[true, true, true, true, true, true, true, true, true, true, true, true, true, true, true, true, true, true, true, false, false] rfl rfl (any_of HT_.out (by kernel_rfl)) (fun _ _ _ h => h) (Or.inr ⟨by rfl, rfl⟩) ?_ ?_
      rotate_left
      ·
       simp only [mP]
       rfl
      refine pM 19 61 HT_ ?_
      refine pM 20 10 HT_ ?_
      refine done_ (done_of HT_.out (by kernel_rfl)) ?_
      try go_wp2
      go_roundg k2
      case measure => have := HK1.out; have := HK2.out; omega
      case rel => exact ⟨(false), (wrap64 (x11_2 + 1)), rfl, rfl, H', ⟨by have := HK1.out; have := HK2.out; omega⟩, HO_1, BK2, BK3, HK, ⟨HB.out⟩⟩
     subst c20
     rw [if_pos rfl] at H
     obtain ⟨c21, H⟩ : (0 ≤ x11_2) ∧ _ := mIf H
     have c21b0 := decide_eq_true c21
     clear c21
     obtain ⟨c22, H⟩ : (x11_2 < (x1_1.length : Int)) ∧ _ := mIf H
     have c22b0 := decide_eq_true c22
     clear c22
     replace H := Option.bind_eq_some_iff.mp H
     obtain ⟨t499, A230, H⟩ := H
     try dsimp only at H
     have A23 := Aside0.mk A230
     clear A230
     by_cases c24 : t499 = true
     rotate_left
     ·
      replace c24 := Bool.eq_false_iff.mpr c24
      subst c24
      rw [if_neg (show ¬ (false = true) by decide)] at H
      have H' := Aside0.mk H
      clear H
      try go_wp2
      replace HO_1 := Aside0.mk (Kd.R_drew HO_1.out); replace BK2 := Aside0.mk (blk_drew BK2.out); replace BK3 := Aside0.mk (blk_drew BK3.out); replace HK := Aside0.mk (Kept.drew HK.out); replace HB := Aside0.mk (below_drew1 HB.out)
      have p498 : 0 ≤ (x11_2 : Int) := of_decide_eq_true (by assumption)
      have q498 : x11_2 < (x1_1.length : Int) := of_decide_eq_true (by assumption)
      obtain ⟨ad498, e498, hx498_0, hx498_1, hx498_2⟩ := at_T48 (Kd.R_reads' HO_1.out).2.2 x11_2 p498 q498
      obtain rfl : ad495 = ad498 := (by injection e498)
      replace p498 := eq_true p498
      replace q498 := eq_true q498
      refine start_ (n := 21) (S := fun w' => w'.cell? ⟨gb2, 0, none⟩ = some (.slice A0_0 l0_0.length c0_0) ∧ w'.cell? ⟨gb2, 1, none⟩ = some (.slice A0_1 l0_1.length c0_1) ∧ w'.cell? ⟨gb2, 2, none⟩ = some (.slice A0_2 l0_2.length c0_2) ∧ w'.cell? ⟨gb2, 3, none⟩ = some (.int .i64 a0_3) ∧ w'.cell? ⟨gb3, 0, none⟩ = some (.int .i64 ((rd_T48 x1_1 a2).f0)) ∧ w'.cell? ⟨gb3, 1, none⟩ = some (.int .i64 x8_1) ∧ w'.cell? ⟨gb3, 2, none⟩ = some (.int .i64 ((rd_T48 x1_1 a2).f2)) ∧ w'.cell? (ad495.add ((x11_2).toNat * 3)) = some (.int .i64 ((rd_T48 x1_1 x11_2).f0)) ∧ w'.cell? ⟨(ad495.add ((x11_2).toNat * 3)).block, (ad495.add ((x11_2).toNat * 3)).off + 1, none⟩ = some (.int .i64 ((rd_T48 x1_1 x11_2).f1)) ∧ w'.cell? ⟨(ad495.add ((x11_2).toNat * 3)).block, (ad495.add ((x11_2).toNat * 3)).off + 2, none⟩ = some (.int .i64 ((rd_T48 x1_1 x11_2).f2))) (ds := []) #[false, false, false, false, false, false, false, false, false, false, false, false, false, false, false, false, false, false, false, false, false] (by kernel_rfl) rfl rfl ⟨(blk_cell BK2.out 0).trans rfl, (blk_cell BK2.out 1).trans rfl, (blk_cell BK2.out 2).trans rfl, (blk_cell BK2.out 3).trans rfl, (blk_cell BK3.out 0).trans rfl, (blk_cell BK3.out 1).trans rfl, (blk_cell BK3.out 2).trans rfl, hx498_0, hx498_1, hx498_2⟩ (fun hHeld => ?_); refine with_tabW dancestudioref50_roomy.tab12 dancestudioref50_roomy.bits12 (fun HT_ HW_ => ?_)
      generalize wr.drew = w27 at HO_1 BK2 BK3 HK HB hx498_0 hx498_1 hx498_2 hHeld ⊢
      refine pM 0 42 HT_ ?_
      refine pM 1 43 HT_ ?_
      refine pM 4 46 HT_ ?_
      refine pM 5 47 HT_ ?_
      refine pM 6 48 HT_ ?_
      refine tM 2 44 rfl HT_ HW_ (by rintro w' ⟨s0, s1, s2, s3, s4, s5, s6, s7, s8, s9⟩; go_simp; with_reducible rfl) hHeld ?_
      refine tM 3 45 rfl HT_ HW_ (by rintro w' ⟨s0, s1, s2, s3, s4, s5, s6, s7, s8, s9⟩; go_simp; with_reducible rfl) hHeld ?_
      refine tM 7 49 rfl HT_ HW_ (by rintro w' ⟨s0, s1, s2, s3, s4, s5, s6, s7, s8, s9⟩; go_simp; with_reducible rfl) hHeld ?_
      refine one_ (i := 8) (N := some 50) #[true, true, true, true, true, true, true, true, true, false, false, false, false, false, false, false, false, false, false, false, false] rfl rfl (one_of HT_.out (by kernel_rfl)) (by decide) (fun K hK => ?_)
      refine goes_ Try.func38 (by kernel_rfl) rfl #[.agg #[.slice A0_0 l0_0.length c0_0, .slice A0_1 l0_1.length c0_1, .slice A0_2 l0_2.length c0_2, .int .i64 a0_3], .agg #[.int .i64 ((rd_T48 x1_1 a2).f0), .int .i64 x8_1, .int .i64 ((rd_T48 x1_1 a2).f2)], .agg #[.int .i64 ((rd_T48 x1_1 x11_2).f0), .int .i64 ((rd_T48 x1_1 x11_2).f1), .int .i64 ((rd_T48 x1_1 x11_2).f2)]] (by rfl) rfl rfl (by (try simp only [List.map_toArray, List.map_cons, List.map_nil]); first | done | rfl | (simp only [List.length_drop, List.length_take]; rfl)) ?_
      with_reducible refine (dancestudioref50_meet.calls _ _ l0_0 _ _ l0_1 _ _ l0_2 a0_3 ((rd_T48 x1_1 a2).f0) x8_1 ((rd_T48 x1_1 a2).f2) ((rd_T48 x1_1 x11_2).f0) ((rd_T48 x1_1 x11_2).f1) ((rd_T48 x1_1 x11_2).f2) false _ ?side1 ?side2 ?side3 ?side4 ?side5 ?side6 A23.out).mono ?_
      (case side1 => exact Kd.C_kept_now HR0_0.out (by repeat (first | (with_reducible first | exact HK.out | apply Kept.alloc | apply Kept.drewN | apply Kept.drew | refine Kept.setCell ?_ (.inr GW2.out) _ | refine Kept.setCell ?_ (.inr GW3.out) _) | exact HK.out)))
      (case side2 => exact HC0_0.out)
      (case side3 => exact Kd.C_kept_now HR0_1.out (by repeat (first | (with_reducible first | exact HK.out | apply Kept.alloc | apply Kept.drewN | apply Kept.drew | refine Kept.setCell ?_ (.inr GW2.out) _ | refine Kept.setCell ?_ (.inr GW3.out) _) | exact HK.out)))
      (case side4 => exact HC0_1.out)
      (case side5 => exact Kd.C_kept_now HR0_2.out (by repeat (first | (with_reducible first | exact HK.out | apply Kept.alloc | apply Kept.drewN | apply Kept.drew | refine Kept.setCell ?_ (.inr GW2.out) _ | refine Kept.setCell ?_ (.inr GW3.out) _) | exact HK.out)))
      (case side6 => exact HC0_2.out)
      rintro e w28 ⟨rfl, hb⟩
      have HS7_ := (hb.cell (World.block_lt_of_cell? _ _ (hHeld.2.2.2.2.2.2.2.1))).trans (hHeld.2.2.2.2.2.2.2.1)
      have HS8_ := (hb.cell (World.block_lt_of_cell? _ _ (hHeld.2.2.2.2.2.2.2.2.1))).trans (hHeld.2.2.2.2.2.2.2.2.1)
      have HS9_ := (hb.cell (World.block_lt_of_cell? _ _ (hHeld.2.2.2.2.2.2.2.2.2))).trans (hHeld.2.2.2.2.2.2.2.2.2)
      refine ⟨_, rfl, ?_⟩
      replace HO_1 := Aside0.mk (Kd.R_below HO_1.out hb); replace BK2 := mBb BK2 hb; replace BK3 := mBb BK3 hb; replace HK := Aside0.mk (Kept.below (S := (fun k_ => P1_ k_)) (by repeat (first | (with_reducible first | exact HK.out | apply Kept.alloc | apply Kept.drewN | apply Kept.drew | refine Kept.setCell ?_ (.inr GW2.out) _ | refine Kept.setCell ?_ (.inr GW3.out) _) | exact HK.out)) hb); replace HB := mSt HB hb
      (try clear hb)
      (try clear hb2)
      (try clear hk)
      (try clear hi)
      refine hK.out _ _ ⟨blk_cell BK2.out 0, blk_cell BK2.out 1, blk_cell BK2.out 2, blk_cell BK2.out 3, blk_cell BK3.out 0, blk_cell BK3.out 1, blk_cell BK3.out 2, HS7_, HS8_, HS9_⟩ (fun hHeld => ?_)
      clear hK K
      refine norm_ (by show Act.put _ (some 50) _ = _; simp only [mP]; rfl) ?_
      refine pM 9 51 HT_ ?_
      refine pM 10 52 HT_ ?_
      refine pure_ (i := 11) (N := some 53) (v := undef) (a' := ?_) #[true, true, true, true, true, true, true, true, true, true, true, true, false, false, false, false, false, false, false, false, false] rfl rfl (any_of HT_.out (by kernel_rfl)) (fun _ _ _ h => h) (Or.inr ⟨by rfl, rfl⟩) ?_ ?_
      rotate_left
      ·
       simp only [mP]
       rfl
      refine pure_ (i := 12) (N := some 54) (v := undef) (a' := ?_) #[true, true, true, true, true, true, true, true, true, true, true, true, true, false, false, false, false, false, false, false, false] rfl rfl (any_of HT_.out (by kernel_rfl)) (fun _ _ _ h => h) (Or.inr ⟨by rfl, rfl⟩) ?_ ?_
      rotate_left
      ·
       simp only [mP]
       rfl
      refine pure_ (i := 13) (N := some 55) (v := undef) (a' := ?_) #[true, true, true, true, true, true, true, true, true, true, true, true, true, true, false, false, false, false, false, false, false] rfl rfl (any_of HT_.out (by kernel_rfl)) (fun _ _ _ h => h) (Or.inr ⟨by rfl, rfl⟩) ?_ ?_
      rotate_left
      ·
       simp only [mP]
       rfl
      refine pure_ (i := 14) (N := some 56) (v := undef) (a' := ?_) #[true, true, true, true, true, true, true, true, true, true, true, true, true, true, true, false, false, false, false, false, false] rfl rfl (any_of HT_.out (by kernel_rfl)) (fun _ _ _ h => h) (Or.inr ⟨by rfl, rfl⟩) ?_ ?_
      rotate_left
      ·
       simp only [mP]
       rfl
      refine pure_ (i := 15) (N := some 57) (v := undef) (a' := ?_) #[true, true, true, true, true, true, true, true, true, true, true, true, true, true, true, true, false, false, false, false, false] rfl rfl (any_of HT_.out (by kernel_rfl)) (fun _ _ _ h => h) (Or.inr ⟨by rfl, rfl⟩) ?_ ?_
      rotate_left
      ·
       simp only [mP]
       rfl
      refine pure_ (i := 16) (N := some 58) (v := undef) (a' := ?_) #[true, true, true, true, true, true, true, true, true, true, true, true, true, true, true, true, true, false, false, false, false] rfl rfl (any_of HT_.out (by kernel_rfl)) (fun _ _ _ h => h) (Or.inr ⟨by rfl, rfl⟩) ?_ ?_
      rotate_left
      ·
       simp only [mP]
       rfl
      refine pure_ (i := 17) (N := some 59) (v := undef) (a' := ?_) #[true, true, true, true, true, true, true, true, true, true, true, true, true, true, true, true, true, true, false, false, false] rfl rfl (any_of HT_.out (by kernel_rfl)) (fun _ _ _ h => h) (Or.inr ⟨by rfl, rfl⟩) ?_ ?_
      rotate_left
      ·
       simp only [mP]
       rfl
      refine pM 18 60 HT_ ?_
      refine pM 19 61 HT_ ?_
      refine pM 20 10 HT_ ?_
      refine done_ (done_of HT_.out (by kernel_rfl)) ?_
      try go_wp2
      go_roundg k2
      case measure => have := HK1.out; have := HK2.out; omega
      case rel => exact ⟨(true), (wrap64 (x11_2 + 1)), rfl, rfl, H', ⟨by have := HK1.out; have := HK2.out; omega⟩, HO_1, BK2, BK3, HK, ⟨HB.out⟩⟩
     subst c24
     rw [if_pos rfl] at H
     have H' := Aside0.mk H
     clear H
     try go_wp2
     replace HO_1 := Aside0.mk (Kd.R_drew HO_1.out); replace BK2 := Aside0.mk (blk_drew BK2.out); replace BK3 := Aside0.mk (blk_drew BK3.out); replace HK := Aside0.mk (Kept.drew HK.out); replace HB := Aside0.mk (below_drew1 HB.out)
     have p498 : 0 ≤ (x11_2 : Int) := of_decide_eq_true (by assumption)
     have q498 : x11_2 < (x1_1.length : Int) := of_decide_eq_true (by assumption)
     obtain ⟨ad498, e498, hx498_0, hx498_1, hx498_2⟩ := at_T48 (Kd.R_reads' HO_1.out).2.2 x11_2 p498 q498
     obtain rfl : ad495 = ad498 := (by injection e498)
     replace p498 := eq_true p498
     replace q498 := eq_true q498
     have p500 : 0 ≤ (x11_2 : Int) := of_decide_eq_true (by assumption)
     have q500 : x11_2 < (x1_1.length : Int) := of_decide_eq_true (by assumption)
     obtain ⟨ad500, e500, hx500_0, hx500_1, hx500_2⟩ := at_T48 (Kd.R_reads' HO_1.out).2.2 x11_2 p500 q500
     obtain rfl : ad495 = ad500 := (by injection e500)
     replace p500 := eq_true p500
     replace q500 := eq_true q500
     refine start_ (n := 21) (S := fun w' => w'.cell? ⟨gb2, 0, none⟩ = some (.slice A0_0 l0_0.length c0_0) ∧ w'.cell? ⟨gb2, 1, none⟩ = some (.slice A0_1 l0_1.length c0_1) ∧ w'.cell? ⟨gb2, 2, none⟩ = some (.slice A0_2 l0_2.length c0_2) ∧ w'.cell? ⟨gb2, 3, none⟩ = some (.int .i64 a0_3) ∧ w'.cell? ⟨gb3, 0, none⟩ = some (.int .i64 ((rd_T48 x1_1 a2).f0)) ∧ w'.cell? ⟨gb3, 1, none⟩ = some (.int .i64 x8_1) ∧ w'.cell? ⟨gb3, 2, none⟩ = some (.int .i64 ((rd_T48 x1_1 a2).f2)) ∧ w'.cell? (ad495.add ((x11_2).toNat * 3)) = some (.int .i64 ((rd_T48 x1_1 x11_2).f0)) ∧ w'.cell? ⟨(ad495.add ((x11_2).toNat * 3)).block, (ad495.add ((x11_2).toNat * 3)).off + 1, none⟩ = some (.int .i64 ((rd_T48 x1_1 x11_2).f1)) ∧ w'.cell? ⟨(ad495.add ((x11_2).toNat * 3)).block, (ad495.add ((x11_2).toNat * 3)).off + 2, none⟩ = some (.int .i64 ((rd_T48 x1_1 x11_2).f2)) ∧ w'.cell? (ad495.add ((x11_2).toNat * 3)) = some (.int .i64 ((rd_T48 x1_1 x11_2).f0)) ∧ w'.cell? ⟨(ad495.add ((x11_2).toNat * 3)).block, (ad495.add ((x11_2).toNat * 3)).off + 1, none⟩ = some (.int .i64 ((rd_T48 x1_1 x11_2).f1)) ∧ w'.cell? ⟨(ad495.add ((x11_2).toNat * 3)).block, (ad495.add ((x11_2).toNat * 3)).off + 2, none⟩ = some (.int .i64 ((rd_T48 x1_1 x11_2).f2))) (ds := []) #[false, false, false, false, false, false, false, false, false, false, false, false, false, false, false, false, false, false, false, false, false] (by kernel_rfl) rfl rfl ⟨(blk_cell BK2.out 0).trans rfl, (blk_cell BK2.out 1).trans rfl, (blk_cell BK2.out 2).trans rfl, (blk_cell BK2.out 3).trans rfl, (blk_cell BK3.out 0).trans rfl, (blk_cell BK3.out 1).trans rfl, (blk_cell BK3.out 2).trans rfl, hx498_0, hx498_1, hx498_2, hx500_0, hx500_1, hx500_2⟩ (fun hHeld => ?_); refine with_tabW dancestudioref50_roomy.tab12 dancestudioref50_roomy.bits12 (fun HT_ HW_ => ?_)
     generalize wr.drew = w25 at HO_1 BK2 BK3 HK HB hx498_0 hx498_1 hx498_2 hx500_0 hx500_1 hx500_2 hHeld ⊢
     refine pM 0 42 HT_ ?_
     refine pM 1 43 HT_ ?_
     refine pM 4 46 HT_ ?_
     refine pM 5 47 HT_ ?_
     refine pM 6 48 HT_ ?_
     refine tM 2 44 rfl HT_ HW_ (by rintro w' ⟨s0, s1, s2, s3, s4, s5, s6, s7, s8, s9, s10, s11, s12⟩; go_simp; with_reducible rfl) hHeld ?_
     refine tM 3 45 rfl HT_ HW_ (by rintro w' ⟨s0, s1, s2, s3, s4, s5, s6, s7, s8, s9, s10, s11, s12⟩; go_simp; with_reducible rfl) hHeld ?_
     refine tM 7 49 rfl HT_ HW_ (by rintro w' ⟨s0, s1, s2, s3, s4, s5, s6, s7, s8, s9, s10, s11, s12⟩; go_simp; with_reducible rfl) hHeld ?_
     refine one_ (i := 8) (N := some 50) #[true, true, true, true, true, true, true, true, true, false, false, false, false, false, false, false, false, false, false, false, false] rfl rfl (one_of HT_.out (by kernel_rfl)) (by decide) (fun K hK => ?_)
     refine goes_ Try.func38 (by kernel_rfl) rfl #[.agg #[.slice A0_0 l0_0.length c0_0, .slice A0_1 l0_1.length c0_1, .slice A0_2 l0_2.length c0_2, .int .i64 a0_3], .agg #[.int .i64 ((rd_T48 x1_1 a2).f0), .int .i64 x8_1, .int .i64 ((rd_T48 x1_1 a2).f2)], .agg #[.int .i64 ((rd_T48 x1_1 x11_2).f0), .int .i64 ((rd_T48 x1_1 x11_2).f1), .int .i64 ((rd_T48 x1_1 x11_2).f2)]] (by rfl) rfl rfl (by (try simp only [List.map_toArray, List.map_cons, List.map_nil]); first | done | rfl | (simp only [List.length_drop, List.length_take]; rfl)) ?_
     with_reducible refine (dancestudioref50_meet.calls _ _ l0_0 _ _ l0_1 _ _ l0_2 a0_3 ((rd_T48 x1_1 a2).f0) x8_1 ((rd_T48 x1_1 a2).f2) ((rd_T48 x1_1 x11_2).f0) ((rd_T48 x1_1 x11_2).f1) ((rd_T48 x1_1 x11_2).f2) true _ ?side1 ?side2 ?side3 ?side4 ?side5 ?side6 A23.out).mono ?_
     (case side1 => exact Kd.C_kept_now HR0_0.out (by repeat (first | (with_reducible first | exact HK.out | apply Kept.alloc | apply Kept.drewN | apply Kept.drew | refine Kept.setCell ?_ (.inr GW2.out) _ | refine Kept.setCell ?_ (.inr GW3.out) _) | exact HK.out)))
     (case side2 => exact HC0_0.out)
     (case side3 => exact Kd.C_kept_now HR0_1.out (by repeat (first | (with_reducible first | exact HK.out | apply Kept.alloc | apply Kept.drewN | apply Kept.drew | refine Kept.setCell ?_ (.inr GW2.out) _ | refine Kept.setCell ?_ (.inr GW3.out) _) | exact HK.out)))
     (case side4 => exact HC0_1.out)
     (case side5 => exact Kd.C_kept_now HR0_2.out (by repeat (first | (with_reducible first | exact HK.out | apply Kept.alloc | apply Kept.drewN | apply Kept.drew | refine Kept.setCell ?_ (.inr GW2.out) _ | refine Kept.setCell ?_ (.inr GW3.out) _) | exact HK.out)))
     (case side6 => exact HC0_2.out)
     rintro e w26 ⟨rfl, hb⟩
     have HS7_ := (hb.cell (World.block_lt_of_cell? _ _ (hHeld.2.2.2.2.2.2.2.1))).trans (hHeld.2.2.2.2.2.2.2.1)
     have HS8_ := (hb.cell (World.block_lt_of_cell? _ _ (hHeld.2.2.2.2.2.2.2.2.1))).trans (hHeld.2.2.2.2.2.2.2.2.1)
     have HS9_ := (hb.cell (World.block_lt_of_cell? _ _ (hHeld.2.2.2.2.2.2.2.2.2.1))).trans (hHeld.2.2.2.2.2.2.2.2.2.1)
     have HS10_ := (hb.cell (World.block_lt_of_cell? _ _ (hHeld.2.2.2.2.2.2.2.2.2.2.1))).trans (hHeld.2.2.2.2.2.2.2.2.2.2.1)
     have HS11_ := (hb.cell (World.block_lt_of_cell? _ _ (hHeld.2.2.2.2.2.2.2.2.2.2.2.1))).trans (hHeld.2.2.2.2.2.2.2.2.2.2.2.1)
     have HS12_ := (hb.cell (World.block_lt_of_cell? _ _ (hHeld.2.2.2.2.2.2.2.2.2.2.2.2))).trans (hHeld.2.2.2.2.2.2.2.2.2.2.2.2)
     refine ⟨_, rfl, ?_⟩
     replace HO_1 := Aside0.mk (Kd.R_below HO_1.out hb); replace BK2 := mBb BK2 hb; replace BK3 := mBb BK3 hb; replace HK := Aside0.mk (Kept.below (S := (fun k_ => P1_ k_)) (by repeat (first | (with_reducible first | exact HK.out | apply Kept.alloc | apply Kept.drewN | apply Kept.drew | refine Kept.setCell ?_ (.inr GW2.out) _ | refine Kept.setCell ?_ (.inr GW3.out) _) | exact HK.out)) hb); replace HB := mSt HB hb
     (try clear hb)
     (try clear hb2)
     (try clear hk)
     (try clear hi)
     refine hK.out _ _ ⟨blk_cell BK2.out 0, blk_cell BK2.out 1, blk_cell BK2.out 2, blk_cell BK2.out 3, blk_cell BK3.out 0, blk_cell BK3.out 1, blk_cell BK3.out 2, HS7_, HS8_, HS9_, HS10_, HS11_, HS12_⟩ (fun hHeld => ?_)
     clear hK K
     refine norm_ (by show Act.put _ (some 50) _ = _; simp only [mP]; rfl) ?_
     refine pM 9 51 HT_ ?_
     refine pM 10 52 HT_ ?_
     refine pM 11 53 HT_ ?_
     refine pM 12 54 HT_ ?_
     refine pM 13 55 HT_ ?_
     refine pM 14 56 HT_ ?_
     refine pM 16 58 HT_ ?_
     refine tM 15 57 rfl HT_ HW_ (by rintro w' ⟨s0, s1, s2, s3, s4, s5, s6, s7, s8, s9, s10, s11, s12⟩; go_simp; with_reducible rfl) hHeld ?_
     refine pM 17 59 HT_ ?_
     refine pM 18 60 HT_ ?_
     refine pM 19 61 HT_ ?_
     refine pM 20 10 HT_ ?_
     refine done_ (done_of HT_.out (by kernel_rfl)) ?_
     try go_wp2
     go_roundg k2
     case measure => have := HK1.out; have := HK2.out; omega
     case rel => exact ⟨((((rd_T48 x1_1 x11_2).f1) != x8_1)), (wrap64 (x11_2 + 1)), rfl, rfl, H', ⟨by have := HK1.out; have := HK2.out; omega⟩, HO_1, BK2, BK3, HK, ⟨HB.out⟩⟩
end Go.Proofs.Ytjppjppapdflmaa.PAll
