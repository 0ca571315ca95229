-- Written by wip/tools/handprint.py: walks of the functions that the law reaches; Lean checks them.
import Derived.Test.YtaggccbndmmbhaaDoorBase
namespace Go.Proofs.YtaggccbndmmbhaaDoor.PAll
open Go.RowKit Go.Proofs.YtaggccbndmmbhaaDoorW.PrintWords Go.Proofs.YtaggccbndmmbhaaDoorW.PrintLast Go.Proofs.YtaggccbndmmbhaaDoorW.PrintMore
attribute [local go_sem] max2_int min2_int max_two min_two max_three min_three max_four min_four   -- for this text's walks alone
set_option linter.unusedVariables false
set_option linter.unusedSimpArgs false

/-! ### assign_without: function 58 -/
def assign_without.l0 : Nat → Int → List (List Int) → List (List Int) → Int → Int → Option ((List (List Int)))
 | 0, _, _, _, _, _ => none
 | k + 1, x1, x5, x9, x10, x11 => if x11 < x10 then (if 0 ≤ x11 then (if x11 < (x9.length : Int) then ((some (([] : List Int) : List Int)).bind fun y212 => (if 0 ≤ x1 then (if x1 ≤ ((rd_L2 x9 x11).length : Int) then (if y212.length + ((rd_L2 x9 x11).take (x1 : Int).toNat).length < 17592186044416 then ((some (y212 ++ ((rd_L2 x9 x11).take (x1 : Int).toNat) : List Int)).bind fun y216 => (if 0 ≤ (wrap64 (x1 + 1)) then (if (wrap64 (x1 + 1)) ≤ ((rd_L2 x9 x11).length : Int) then (if y216.length + ((rd_L2 x9 x11).drop ((wrap64 (x1 + 1)) : Int).toNat).length < 17592186044416 then (if x5.length < 5864062014805 then (assign_without.l0 k x1 (x5 ++ [(y216 ++ ((rd_L2 x9 x11).drop ((wrap64 (x1 + 1)) : Int).toNat))]) x9 x10 (wrap64 (x11 + 1))) else (none)) else (none)) else (none)) else (none))) else (none)) else (none)) else (none))) else (none)) else (none)) else (some x5)
def assign_without.f (k : Nat) (l0 : List (List Int)) (a1 : Int) : Option ((List (List Int))) := if 1 ≤ (l0.length : Int) then ((some (l0.drop 1 : List (List Int))).bind fun y207 => (assign_without.l0 k a1 ([] : List (List Int)) y207 (y207.length : Int) 0)) else (none)
def assign_without.T5 : Bool × List (List Nat × List Nat) := (true, [([], []), ([], []), ([], []), ([], []), ([2, 3], [2, 3]), ([1, 4], [1, 4]), ([], []), ([], []), ([7], [7]), ([6, 8], [6, 8]), ([5, 9, 5], [5, 9]), ([10], [10]), ([0, 11, 10], [0, 11]), ([12, 12, 0, 1, 2, 3, 4, 5, 6, 7, 8, 9, 10, 11, 12], [0, 12])])
def assign_without.B5 : List Nat := [0, 0, 0, 0, 12, 30, 0, 0, 128, 448, 1022, 2046, 4095, 8191]
theorem assign_without.tab5 : rtab .any (opsOf Tryd.f58 5) = assign_without.T5 := by kernel_rfl
theorem assign_without.bits5 : waitsOk assign_without.T5.2 assign_without.B5 = true := by kernel_rfl
set_option maxHeartbeats 8000000 in
set_option maxRecDepth 100000 in
theorem assign_without.calls (k : Nat) (A0 : Option Addr) (c0 : Nat) (l0 : List (List Int)) (a1 : Int) (r : List (List Int)) (w : World) (hr0 : Kd.C (Kd.slice 3 (Kd.int .i64)) w A0 l0.length l0) (hc0 : l0.length ≤ c0) (h : assign_without.f k l0 a1 = some r) :
  Calls Tryd.prog 58 #[.slice A0 l0.length c0, .int .i64 a1] w fun e w' => ∃ v0_ : Value, e = .returned (v0_) ∧ Kd.S (Kd.slice 3 (Kd.int .i64)) 29 w' w.heap.size (fun _ => True) v0_ r ∧ Below w.heap.size w w' := by
 have HR0 := Aside0.mk hr0
 have HC0 := Aside0.mk hc0
 clear hr0 hc0
 have HB := Aside0.mk (Below.refl w.heap.size w)
 have H := h
 unfold assign_without.f at H
 clear h
 obtain ⟨c3, H⟩ : (1 ≤ (l0.length : Int)) ∧ _ := mIf H
 have c3b0 := eq_true c3
 have c3b1 := decide_eq_true c3
 clear c3
 obtain ⟨y207, hy207⟩ : ∃ y_ : List (List Int), y_ = (l0.drop 1) := ⟨_, rfl⟩
 rw [← hy207] at H
 have Ny207 := Aside0.mk hy207
 clear hy207
 have H' := Aside0.mk H
 clear H
 have q4 : (1 : Int) ≤ ((l0.length : Int) : Int) := of_decide_eq_true (by assumption)
 obtain ⟨i04, hi04, _, hsz4, _⟩ := info_parts info29
 have hroom4 : l0.length ≤ c0 := HC0.out
 have hC4 : Kd.C (Kd.slice 3 (Kd.int .i64)) _ A0 l0.length l0 := HR0.out
 have hcut4 := cut_from (P := Tryd.prog) 62 29 .i64 Tryd.underlying62 hi04 1 hsz4 A0 l0.length c0 1 (by omega) q4
 have hr4 := Kd.C_drop (m := (1 : Int).toNat) (c := c0) hC4 (by omega) hroom4
 obtain ⟨A4, hA4⟩ : ∃ A1, A1 = (if c0 = (1 : Int).toNat then A0 else (A0 : Option Addr).map (·.add ((1 : Int).toNat * 1))) := ⟨_, rfl⟩
 obtain ⟨c4, hc4⟩ : ∃ c1, c1 = c0 - (1 : Int).toNat := ⟨_, rfl⟩
 have hy4 : y207.length = l0.length - (1 : Int).toNat := (by rw [Ny207.out, List.length_drop] <;> omega)
 rw [show (l0).drop (1 : Int).toNat = y207 from Ny207.out.symm] at hr4
 replace hr4 : Kd.C (Kd.slice 3 (Kd.int .i64)) _ A4 y207.length y207 := (by rw [hA4]; exact hr4)
 rw [← hy4, ← hA4, ← hc4] at hcut4
 have HR210 := Aside0.mk hr4
 have HC210 := Aside0.mk (show y207.length ≤ c4 from by rw [hy4, hc4]; exact Nat.sub_le_sub_right hroom4 _)
 clear hr4 hC4 hroom4 hi04 hsz4 hc4
 have KY4 := Aside0.mk hy4
 have KA4 := Aside0.mk hA4
 clear hy4 hA4
 replace q4 := eq_true q4
 go_enter Tryd.func58, Tryd.ntmps58
 go_wp2
 go_loopg [5, 11] k (fun kq v5 v11 w' => ∃ (x5_1 : List (List Int)) (x11_1 : Int), v11 = .int .i64 x11_1 ∧ Aside0 (assign_without.l0 kq a1 x5_1 y207 (y207.length : Int) x11_1 = some r) ∧ Aside0 (kq ≤ k) ∧ Aside0 (Kd.S (Kd.slice 3 (Kd.int .i64)) 29 w' w.heap.size (fun _ => True) v5 x5_1) ∧ Aside0 (Below w.heap.size w w'))
 case atStart => exact ⟨(([] : List (List Int))), (0), rfl, H', ⟨Nat.le_refl _⟩, ⟨by first | exact Kd.S_nil _ _ _ _ _ | exact Kd.N_nil _ _ _ _ _ | exact Kd.V_nil _ _ _ _ _ | exact Kd.Q_nil _ _ _ _ _ | exact Kd.R_nil _ _ _ _ _⟩, ⟨HB.out⟩⟩
 case round =>
  clear H'
  try clear c1; try clear p2; try clear c3; try clear c3b0; try clear c3b1; try clear c4; try clear q4
  obtain ⟨x5_1, x11_1, rfl, HA, HK1, HO_5, HB⟩ := hrel
  cases gk with
  | zero => exact absurd HA.out (by simp [assign_without.l0])
  | succ k1 =>
   have H := HA.out
   clear HA
   simp only [assign_without.l0] at H
   by_cases c5 : x11_1 < (y207.length : Int)
   rotate_left
   ·
    rw [if_neg c5] at H
    have c5b0 := decide_eq_false c5
    clear c5
    obtain rfl := Option.some.inj H
    go_wp2
    go_ret
    exact ⟨_, rfl, by (with_reducible repeat (first | apply Kd.S_alloc | apply Kd.S_drewN | apply Kd.S_drew)); exact HO_5.out, HB.out⟩
   rw [if_pos c5] at H
   have c5b0 := decide_eq_true c5
   clear c5
   obtain ⟨c6, H⟩ : (0 ≤ x11_1) ∧ _ := mIf H
   have c6b0 := decide_eq_true c6
   clear c6
   obtain ⟨c7, H⟩ : (x11_1 < (y207.length : Int)) ∧ _ := mIf H
   have c7b0 := decide_eq_true c7
   clear c7
   obtain ⟨y212, hy212⟩ : ∃ y_ : List Int, y_ = (([] : List Int)) := ⟨_, rfl⟩
   rw [← hy212] at H
   have Ny212 := Aside0.mk hy212
   clear hy212
   obtain ⟨c8, H⟩ : (0 ≤ a1) ∧ _ := mIf H
   have c8b0 := eq_true c8
   have c8b1 := decide_eq_true c8
   clear c8
   obtain ⟨c9, H⟩ : (a1 ≤ ((rd_L2 y207 x11_1).length : Int)) ∧ _ := mIf H
   have c9b0 := eq_true c9
   have c9b1 := decide_eq_true c9
   clear c9
   obtain ⟨c10, H⟩ : (y212.length + ((rd_L2 y207 x11_1).take (a1 : Int).toNat).length < 17592186044416) ∧ _ := mIf H
   have LMc10 := Aside0.mk c10
   clear c10
   obtain ⟨y216, hy216⟩ : ∃ y_ : List Int, y_ = (y212 ++ ((rd_L2 y207 x11_1).take (a1 : Int).toNat)) := ⟨_, rfl⟩
   rw [← hy216] at H
   have Ny216 := Aside0.mk hy216
   clear hy216
   obtain ⟨ji11, hji11⟩ : ∃ j_ : Int, (wrap64 (a1 + 1)) = j_ := ⟨_, rfl⟩
   replace H : (if 0 ≤ (ji11) then (if (ji11) ≤ ((rd_L2 y207 x11_1).length : Int) then (if y216.length + ((rd_L2 y207 x11_1).drop ((ji11) : Int).toNat).length < 17592186044416 then (if x5_1.length < 5864062014805 then (assign_without.l0 k1 a1 (x5_1 ++ [(y216 ++ ((rd_L2 y207 x11_1).drop ((ji11) : Int).toNat))]) y207 (y207.length : Int) (wrap64 (x11_1 + 1))) else (none)) else (none)) else (none)) else (none)) = some r := by first | (rw [hji11] at H; exact H) | (simp only [hji11] at H ⊢; exact H)
   have hji11w : (IntKind.i64.wrap (a1 + 1)) = ji11 := (i64_w _).trans hji11
   obtain ⟨c12, H⟩ : (0 ≤ (ji11)) ∧ _ := mIf H
   have c12b0 := eq_true c12
   have c12b1 := decide_eq_true c12
   clear c12
   obtain ⟨c13, H⟩ : ((ji11) ≤ ((rd_L2 y207 x11_1).length : Int)) ∧ _ := mIf H
   have c13b0 := eq_true c13
   have c13b1 := decide_eq_true c13
   clear c13
   obtain ⟨c14, H⟩ : (y216.length + ((rd_L2 y207 x11_1).drop ((ji11) : Int).toNat).length < 17592186044416) ∧ _ := mIf H
   have LMc14 := Aside0.mk c14
   clear c14
   obtain ⟨y220, hy220⟩ : ∃ y_ : List Int, y_ = (y216 ++ ((rd_L2 y207 x11_1).drop ((ji11) : Int).toNat)) := ⟨_, rfl⟩
   rw [← hy220] at H
   have Ny220 := Aside0.mk hy220
   clear hy220
   obtain ⟨c15, H⟩ : (x5_1.length < 5864062014805) ∧ _ := mIf H
   have LMc15 := Aside0.mk c15
   clear c15
   obtain ⟨y223, hy223⟩ : ∃ y_ : List (List Int), y_ = (x5_1 ++ [y220]) := ⟨_, rfl⟩
   rw [← hy223] at H
   have Ny223 := Aside0.mk hy223
   clear hy223
   have H' := Aside0.mk H
   clear H
   have p211 : 0 ≤ (x11_1 : Int) := of_decide_eq_true (by assumption)
   have q211 : x11_1 < (y207.length : Int) := of_decide_eq_true (by assumption)
   obtain ⟨ad211, A211_0, c211_0, e211, hx211_0, hl211_0, hi211_0⟩ := at_L2 HR210.out x11_1 p211 q211
   cases e211
   replace hx211_0 := mHx HB hx211_0
   have HR211_0 := Aside0.mk hi211_0
   have HC211_0 := Aside0.mk hl211_0
   clear hi211_0 hl211_0
   replace p211 := eq_true p211
   replace q211 := eq_true q211
   try go_wp2
   replace HO_5 := Aside0.mk (Kd.S_drew HO_5.out); replace HB := Aside0.mk (below_drew1 HB.out)
   obtain ⟨i017, hi017, _, hsz17, _⟩ := info_parts info3
   obtain ⟨hcut17, hA17, hC17⟩ := print_take_of (P := Tryd.prog) (Value.int .i64) 0 29 3 .i64 Tryd.underlying29 hi017 hsz17 A211_0 c211_0 (rd_L2 y207 x11_1) a1 (of_decide_eq_true (by assumption)) (of_decide_eq_true (by assumption)) HC211_0.out
   have HR215 := Aside0.mk (Kd.C_of_reads (h1 := fun _ => rfl) (hA17 _ (Kd.reads_of_C HR211_0.out)))
   have HC215 := Aside0.mk hC17
   clear hA17 hC17 hi017 hsz17
   obtain ⟨i018, hi018, _, hsz18, _⟩ := info_parts info3
   obtain ⟨A18, hcut18, hA18, hC18⟩ := print_drop_of (P := Tryd.prog) (Value.int .i64) 0 29 3 .i64 Tryd.underlying29 hi018 hsz18 A211_0 c211_0 (rd_L2 y207 x11_1) (ji11) (of_decide_eq_true (by assumption)) (of_decide_eq_true (by assumption)) HC211_0.out
   have HR219 := Aside0.mk (Kd.C_of_reads (h1 := fun _ => rfl) (hA18 _ (Kd.reads_of_C HR211_0.out)))
   have HC219 := Aside0.mk hC18
   clear hA18 hC18 hi018 hsz18
   refine start_ (n := 14) (S := fun w' => True) (ds := []) #[false, false, false, false, false, false, false, false, false, false, false, false, false, false] (by kernel_rfl) rfl rfl trivial (fun hHeld => ?_); refine with_tabW assign_without.tab5 assign_without.bits5 (fun HT_ HW_ => ?_)
   generalize wr.drew = w16 at HO_5 HB HR215 HR219 hHeld ⊢
   refine pM 0 15 HT_ ?_
   refine pM 2 17 HT_ ?_
   refine pM 3 18 HT_ ?_
   refine pM 4 19 HT_ ?_
   refine pM 6 21 HT_ ?_
   refine pM 7 22 HT_ ?_
   refine pM 8 23 HT_ ?_
   refine pM 9 24 HT_ ?_
   refine one_ (i := 1) (N := some 16) #[true, true, true, true, true, false, true, true, true, true, false, false, false, false] rfl rfl (one_of HT_.out (by kernel_rfl)) (by decide) (fun K hK => ?_)
   refine Kd.R_lit_step (Kd.int .i64) _ 3 ?hg (N := 16) ?hd (xs := ([] : List Int)) (inner := []) (ok := fun _ => True) (okp := fun _ => True) ?hr ?hp (fun _ hk => hk) trivial (Below.refl _ _) (Nat.le_refl _) (by simp) ?_; (case hd => rfl); (case hg => rfl); (case hr => first | (go_simp; done) | (go_simp; rfl)); (case hp => exact (Reps.none _ _))
   intro v213 w19 ho20 hb hg_ hnew_
   clear hg_ hnew_
   (first | rw [← Ny212.out] at ho20 | (simp only [Int.reduceToNat] at ho20; rw [← Ny212.out] at ho20))
   replace HO_5 := Aside0.mk (Kd.S_elder' HO_5.out (Kd.R_base ho20) hb); have HO214 := Aside0.mk (Kd.R_lower ho20 (below_size HB.out)); replace HB := mSt HB hb
   clear hb ho20
   refine hK.out _ _ trivial (fun hHeld => ?_)
   clear hK K
   refine norm_ (by show Act.put _ (some 16) _ = _; simp only [mP]; rfl) ?_
   refine one_ (i := 5) (N := some 20) #[true, true, true, true, true, true, true, true, true, true, false, false, false, false] rfl rfl (one_of HT_.out (by kernel_rfl)) (by decide) (fun K hK => ?_)
   refine Kd.R_append_rows_step (Kd.int .i64) (w0 := w) w.heap.size (by rfl) (.tmp 16) (.tmp 19) 29 3 (.int .i64 0) 8 rfl Tryd.underlying29 info3 rfl (by decide) (by omega) v213 y212 ((rd_L2 y207 x11_1).take (a1 : Int).toNat) _ _ _ (fun _ => True) (fun _ => False) rfl rfl ?aO ?aR (fun _ _ h => h) (fun _ h => h.elim) ?aF ?aB ?aS ?aL ?_
   (case aR => first | (have h2_ := (Kd.C_below HR215.out HB.out); rw [show ((rd_L2 y207 x11_1).take (a1 : Int).toNat).length = a1.toNat from (by rw [List.length_take]; have h_ : (a1 : Int) ≤ ((rd_L2 y207 x11_1).length : Int) := of_decide_eq_true (by assumption); omega)] at h2_; exact h2_) | (rw [← show ((rd_L2 y207 x11_1).take (a1 : Int).toNat).length = a1.toNat from (by rw [List.length_take]; have h_ : (a1 : Int) ≤ ((rd_L2 y207 x11_1).length : Int) := of_decide_eq_true (by assumption); omega)]; exact Kd.C_below HR215.out HB.out) | (exact Kd.C_below HR215.out HB.out))
   (case aB => exact HB.out)
   (case aF => exact (fun _ _ => trivial))
   (case aO => exact HO214.out)
   (case aS => exact (below_size HB.out))
   (case aL => have := LMc10.out; have hlx_ := (show ((rd_L2 y207 x11_1).take (a1 : Int).toNat).length = a1.toNat from (by rw [List.length_take]; have h_ : (a1 : Int) ≤ ((rd_L2 y207 x11_1).length : Int) := of_decide_eq_true (by assumption); omega)); omega)
   intro v217 w21 ho hb hg hat
   rw [← Ny216.out] at ho
   replace HO_5 := Aside0.mk (Kd.S_after (ok := (fun _ => True)) HO_5.out hg hat); replace HB := Aside0.mk hb; have HO218 := Aside0.mk ho; clear HO214
   clear ho hb hg hat
   refine hK.out _ _ trivial (fun hHeld => ?_)
   clear hK K
   refine norm_ (by show Act.put _ (some 20) _ = _; simp only [mP]; rfl) ?_
   refine one_ (i := 10) (N := some 25) #[true, true, true, true, true, true, true, true, true, true, true, false, false, false] rfl rfl (one_of HT_.out (by kernel_rfl)) (by decide) (fun K hK => ?_)
   refine Kd.R_append_rows_step (Kd.int .i64) (w0 := w) w.heap.size (by rfl) (.tmp 20) (.tmp 24) 29 3 (.int .i64 0) 8 rfl Tryd.underlying29 info3 rfl (by decide) (by omega) v217 y216 ((rd_L2 y207 x11_1).drop ((ji11) : Int).toNat) _ _ _ (fun _ => True) (fun _ => False) rfl rfl ?aO ?aR (fun _ _ h => h) (fun _ h => h.elim) ?aF ?aB ?aS ?aL ?_
   (case aR => first | (rw [← show ((rd_L2 y207 x11_1).drop ((ji11) : Int).toNat).length = ((rd_L2 y207 x11_1).length - (ji11).toNat) from List.length_drop]; exact Kd.C_below HR219.out HB.out) | (exact Kd.C_below HR219.out HB.out))
   (case aB => exact HB.out)
   (case aF => exact (fun _ _ => trivial))
   (case aO => exact HO218.out)
   (case aS => exact (below_size HB.out))
   (case aL => have := LMc14.out; have hlx_ := (show ((rd_L2 y207 x11_1).drop ((ji11) : Int).toNat).length = ((rd_L2 y207 x11_1).length - (ji11).toNat) from List.length_drop); omega)
   intro v221 w22 ho hb hg hat
   rw [← Ny220.out] at ho
   replace HO_5 := Aside0.mk (Kd.S_after (ok := (fun _ => True)) HO_5.out hg hat); replace HB := Aside0.mk hb; have HO222 := Aside0.mk ho; clear HO218
   clear ho hb hg hat
   obtain ⟨Ao24, co24, eo24⟩ := Kd.R_slice HO222.out
   subst eo24
   refine hK.out _ _ trivial (fun hHeld => ?_)
   clear hK K
   refine norm_ (by show Act.put _ (some 25) _ = _; simp only [mP]; rfl) ?_
   refine one_ (i := 11) (N := some 26) #[true, true, true, true, true, true, true, true, true, true, true, true, false, false] rfl rfl (one_of HT_.out (by kernel_rfl)) (by decide) (fun K hK => ?_)
   refine value_ (w1 := ?_) (v := ?_) (by rfl) rfl ?_ ?_
   rotate_left 2
   ·
    go_simp
    constructor
    ·
     rfl
    ·
     rfl
   refine hK.out _ _ trivial (fun hHeld => ?_)
   clear hK K
   refine norm_ (by show Act.put _ (some 26) _ = _; simp only [mP]; rfl) ?_
   refine one_ (i := 12) (N := some 27) #[true, true, true, true, true, true, true, true, true, true, true, true, true, false] rfl rfl (one_of HT_.out (by kernel_rfl)) (by decide) (fun K hK => ?_)
   refine Kd.S_append_step (Kd.slice 3 (Kd.int .i64)) (w0 := w) w.heap.size (by rfl) (.tmp 15) (.tmp 26) 62 29 (.slice none 0 0) 24 rfl Tryd.underlying62 info29 rfl (by decide) (by omega) u5 x5_1 y220 [.slice Ao24 y220.length co24] (fun _ => True) (fun k_ => some k_ = (.slice Ao24 y220.length co24 : Value).ownBlock) rfl rfl ?aP (fun k_ hk_ => ((Kd.R_mono (ok' := fun k_ => ((fun _ => True)) k_ ∧ some k_ ≠ (u5 : Value).ownBlock) (Kd.R_apart' (HO222.out) (Kd.S_typed HO_5.out) (by decide)) (fun k_ hk => ⟨trivial, hk.2⟩))).1 k_ hk_.symm) ?aF ?aO ?aB ?aS ?aL ?_
   (case aP => exact Kd.M_row (Kd.R_mono (Kd.R_tight rfl (Kd.R_mono (ok' := fun k_ => ((fun _ => True)) k_ ∧ some k_ ≠ (u5 : Value).ownBlock) (Kd.R_apart' (HO222.out) (Kd.S_typed HO_5.out) (by decide)) (fun k_ hk => ⟨trivial, hk.2⟩))) (fun _ h_ => h_)))
   (case aB => exact HB.out)
   (case aF => exact (fun _ _ => trivial))
   (case aO => exact (by (with_reducible repeat (first | apply Kd.S_alloc | apply Kd.S_drewN | apply Kd.S_drew)); exact Kd.S_mono HO_5.out (fun k_ hk => ⟨trivial, fun e_ => hk.2 e_⟩)))
   (case aS => exact (below_size HB.out))
   (case aL => have := LMc15.out; omega)
   intro v224 w23 ho hb hg hat
   rw [← Ny223.out] at ho
   replace HB := Aside0.mk hb; have HO225 := Aside0.mk ho; clear HO_5 HO222
   clear ho hb hg hat
   refine hK.out _ _ trivial (fun hHeld => ?_)
   clear hK K
   refine norm_ (by show Act.put _ (some 27) _ = _; simp only [mP]; rfl) ?_
   refine pM 13 5 HT_ ?_
   refine done_ (done_of HT_.out (by kernel_rfl)) ?_
   try go_wp2
   go_roundg k1
   case measure => have := HK1.out; omega
   case rel => exact ⟨(y223), (wrap64 (x11_1 + 1)), rfl, H', ⟨by have := HK1.out; omega⟩, HO225, ⟨HB.out⟩⟩
end Go.Proofs.YtaggccbndmmbhaaDoor.PAll
