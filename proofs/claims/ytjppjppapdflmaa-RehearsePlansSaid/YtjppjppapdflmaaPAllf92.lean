-- Written by wip/tools/handprint.py: walks of the functions that the law reaches; Lean checks them.
import Derived.Test.YtjppjppapdflmaaRMi
import Derived.Test.YtjppjppapdflmaaPAllx0
import Derived.Test.YtjppjppapdflmaaRRf
namespace Go.Proofs.Ytjppjppapdflmaa.PAll
open Go.RowKit Go.Proofs.YtjppjppapdflmaaW.PrintWords Go.Proofs.YtjppjppapdflmaaW.PrintLast Go.Proofs.YtjppjppapdflmaaW.PrintMore
attribute [local go_sem] max2_int min2_int max_two min_two max_three min_three max_four min_four   -- for this text's walks alone
set_option linter.unusedVariables false
set_option linter.unusedSimpArgs false

/-! ### dancestudioref50_roomyOk: function 92 -/
mutual
def dancestudioref50_roomyOk.l0 : Nat → List (S48) → Int → Int → List (S53) → List (S55) → List (S59) → Int → Option (Bool)
 | 0, _, _, _, _, _, _, _ => none
 | k + 1, x1, x2, x8, x522000, x522001, x522002, x522003 => if x8 < (x522001.length : Int) then (if 0 ≤ x2 then (if x2 < (x1.length : Int) then ((dancestudioref50_alone.f k x522000 x522001 x522002 x522003 ((rd_T48 x1 x2).f0) x8 ((rd_T48 x1 x2).f2)).bind fun t524 => (dancestudioref50_roomyOk.l1 k x1 x2 x8 (t524 == 0) 0 x522000 x522001 x522002 x522003 ((rd_T48 x1 x2).f0) x8 ((rd_T48 x1 x2).f2))) else (none)) else (none)) else (some false)
def dancestudioref50_roomyOk.l1 : Nat → List (S48) → Int → Int → Bool → Int → List (S53) → List (S55) → List (S59) → Int → Int → Int → Int → Option (Bool)
 | 0, _, _, _, _, _, _, _, _, _, _, _, _ => none
 | k + 1, x1, x2, x8, x10, x11, x522000, x522001, x522002, x522003, x524000, x524001, x524002 => if x11 < x2 then (if x10 = true then (if 0 ≤ x11 then (if x11 < (x1.length : Int) then ((dancestudioref50_meet.f x522000 x522001 x522002 x522003 x524000 x524001 x524002 ((rd_T48 x1 x11).f0) ((rd_T48 x1 x11).f1) ((rd_T48 x1 x11).f2)).bind fun t526 => (if t526 = true then (dancestudioref50_roomyOk.l1 k x1 x2 x8 (((rd_T48 x1 x11).f1) != x8) (wrap64 (x11 + 1)) x522000 x522001 x522002 x522003 x524000 x524001 x524002) else (dancestudioref50_roomyOk.l1 k x1 x2 x8 true (wrap64 (x11 + 1)) x522000 x522001 x522002 x522003 x524000 x524001 x524002))) else (none)) else (none)) else (dancestudioref50_roomyOk.l1 k x1 x2 x8 false (wrap64 (x11 + 1)) x522000 x522001 x522002 x522003 x524000 x524001 x524002)) else (if x10 = true then ((some (([] : List (S48)) : List (S48))).bind fun y528 => (if y528.length + x1.length < 5864062014805 then ((some (y528 ++ x1 : List (S48))).bind fun y531 => (if 0 ≤ x2 then (if x2 < (y531.length : Int) then ((dancestudioref50_roomyOk.f k x522000 x522001 x522002 x522003 (y531.set (x2 : Int).toNat (⟨x524000, x524001, x524002⟩ : S48)) (wrap64 (x2 + 1))).bind fun t535 => (if t535 = true then (some true) else (dancestudioref50_roomyOk.l0 k x1 x2 (wrap64 (x8 + 1)) x522000 x522001 x522002 x522003))) else (none)) else (none))) else (none))) else (dancestudioref50_roomyOk.l0 k x1 x2 (wrap64 (x8 + 1)) x522000 x522001 x522002 x522003))
def dancestudioref50_roomyOk.f : Nat → List (S53) → List (S55) → List (S59) → Int → List (S48) → Int → Option (Bool)
 | 0, _, _, _, _, _, _ => none
 | k + 1, l0_0, l0_1, l0_2, a0_3, l1, a2 => if a2 = (l1.length : Int) then (some true) else (dancestudioref50_roomyOk.l0 k l1 a2 0 l0_0 l0_1 l0_2 a0_3)
end
def dancestudioref50_roomyOk.T12 : Bool × List (List Nat × List Nat) := (true, [([], []), ([0], [0]), ([1], [1]), ([1], [1]), ([1], [1]), ([1], [1]), ([4, 5, 1], [1, 4, 5]), ([6, 1], [1, 6]), ([2, 3, 7, 1, 1], [1, 2, 3, 7]), ([8, 1], [1, 8]), ([9, 8, 1], [1, 9]), ([10], [10]), ([10], [10]), ([11, 12, 10], [10, 11, 12]), ([13, 10], [10, 13]), ([14, 10], [10, 14]), ([10], [10]), ([15, 16, 10], [10, 15, 16]), ([10, 17, 1], [1, 10, 17]), ([1, 18], [1, 18]), ([19, 10, 0, 1, 2, 3, 4, 5, 6, 7, 8, 9, 10, 11, 12, 13, 14, 15, 16, 17, 18, 19], [0, 19])])
def dancestudioref50_roomyOk.B12 : List Nat := [0, 1, 3, 3, 3, 3, 51, 115, 255, 511, 1023, 2047, 2047, 8191, 16383, 32767, 2047, 131071, 262143, 524287, 1048575]
theorem dancestudioref50_roomyOk.tab12 : rtab .any (opsOf Try.f57 12) = dancestudioref50_roomyOk.T12 := by kernel_rfl
theorem dancestudioref50_roomyOk.bits12 : waitsOk dancestudioref50_roomyOk.T12.2 dancestudioref50_roomyOk.B12 = true := by kernel_rfl
set_option maxHeartbeats 8000000 in
set_option maxRecDepth 100000 in
theorem dancestudioref50_roomyOk.calls (k : Nat) : ∀ (A0_0 : Option Addr) (c0_0 : Nat) (l0_0 : List (S53)) (A0_1 : Option Addr) (c0_1 : Nat) (l0_1 : List (S55)) (A0_2 : Option Addr) (c0_2 : Nat) (l0_2 : List (S59)) (a0_3 : Int) (A1 : Option Addr) (c1 : Nat) (l1 : List (S48)) (a2 : Int) (r : Bool) (w : World) (hr0_0 : Kd.C k53 w A0_0 l0_0.length l0_0) (hc0_0 : l0_0.length ≤ c0_0) (hr0_1 : Kd.C k55 w A0_1 l0_1.length l0_1) (hc0_1 : l0_1.length ≤ c0_1) (hr0_2 : Kd.C k59 w A0_2 l0_2.length l0_2) (hc0_2 : l0_2.length ≤ c0_2) (hr1 : Kd.C k48 w A1 l1.length l1) (hc1 : l1.length ≤ c1) (h : dancestudioref50_roomyOk.f k l0_0 l0_1 l0_2 a0_3 l1 a2 = some r),
  Calls Try.prog 57 #[.agg #[.slice A0_0 l0_0.length c0_0, .slice A0_1 l0_1.length c0_1, .slice A0_2 l0_2.length c0_2, .int .i64 a0_3], .slice A1 l1.length c1, .int .i64 a2] w fun e w' => (∃ v_ : Value, e = .returned (.tuple #[v_, .bool r])) ∧ Below w.heap.size w w' := by
 induction k using Nat.strongRecOn with
 | _ k ih =>
 intro A0_0 c0_0 l0_0 A0_1 c0_1 l0_1 A0_2 c0_2 l0_2 a0_3 A1 c1 l1 a2 r w hr0_0 hc0_0 hr0_1 hc0_1 hr0_2 hc0_2 hr1 hc1 h
 cases k with
 | zero => exact absurd h (by simp [dancestudioref50_roomyOk.f])
 | succ k =>
 simp only [dancestudioref50_roomyOk.f] at h
 have hu30 := Try.underlying26
 have hu48 := Try.underlying48
 have HR0_0 := Aside0.mk hr0_0
 have HC0_0 := Aside0.mk hc0_0
 clear hr0_0 hc0_0
 have HR0_1 := Aside0.mk hr0_1
 have HC0_1 := Aside0.mk hc0_1
 clear hr0_1 hc0_1
 have HR0_2 := Aside0.mk hr0_2
 have HC0_2 := Aside0.mk hc0_2
 clear hr0_2 hc0_2
 have HR1 := Aside0.mk hr1
 have HC1 := Aside0.mk hc1
 clear hr1 hc1
 have HB := Aside0.mk (Below.refl w.heap.size w)
 have H := h
 unfold dancestudioref50_roomyOk.f at H
 clear h
 by_cases c4 : a2 = (l1.length : Int)
 ·
  rw [if_pos c4] at H
  have c4b0 := beq_iff_eq.mpr c4
  have c4b1 := bne_eq_false_iff_eq.mpr c4
  clear c4
  obtain rfl := Option.some.inj H
  go_enter Try.func57, Try.ntmps57
  go_wp2_with (first | ((with_reducible refine gate_dst (N := 3) rfl ?_); refine box_event rfl (N := 3) rfl (cs := #[.slice A0_0 l0_0.length c0_0, .slice A0_1 l0_1.length c0_1, .slice A0_2 l0_2.length c0_2, .int .i64 a0_3]) (t := 26) (by first | (go_simp; done) | (go_simp; rfl)) ?_; intro gb2 hg w5 hbox hb; have BK2 := Aside0.mk hbox; have GW2 := mGw HB hg; have GE2 := GW2; replace HB := mSt HB hb; clear hb hbox hg))
  go_ret2
  exact ⟨⟨_, rfl⟩, HB.out⟩
 rw [if_neg c4] at H
 have c4b0 := beq_eq_false_iff_ne.mpr c4
 have c4b1 := bne_iff_ne.mpr c4
 have H' := Aside0.mk H
 clear H
 go_enter Try.func57, Try.ntmps57
 go_wp2_with (first | ((with_reducible refine gate_dst (N := 3) rfl ?_); refine box_event rfl (N := 3) rfl (cs := #[.slice A0_0 l0_0.length c0_0, .slice A0_1 l0_1.length c0_1, .slice A0_2 l0_2.length c0_2, .int .i64 a0_3]) (t := 26) (by first | (go_simp; done) | (go_simp; rfl)) ?_; intro gb2 hg w6 hbox hb; have BK2 := Aside0.mk hbox; have GW2 := mGw HB hg; have GE2 := GW2; replace HB := mSt HB hb; clear hb hbox hg))
 go_loopg [8] k (fun kq v8 w' => ∃ (x8_1 : Int), v8 = .int .i64 x8_1 ∧ Aside0 (dancestudioref50_roomyOk.l0 kq l1 a2 x8_1 l0_0 l0_1 l0_2 a0_3 = some r) ∧ Aside0 (kq ≤ k) ∧ Aside0 (w'.heap[gb2]? = some (.cells #[(.slice A0_0 l0_0.length c0_0), (.slice A0_1 l0_1.length c0_1), (.slice A0_2 l0_2.length c0_2), .int .i64 a0_3] 26 (0, 0))) ∧ Aside0 (Below w.heap.size w w'))
 case atStart => exact ⟨(0), rfl, H', ⟨Nat.le_refl _⟩, ⟨BK2.out⟩, ⟨HB.out⟩⟩
 case round =>
  clear H'
  try clear c1; try clear p2; try clear c4; try clear c4b0; try clear c4b1
  obtain ⟨x8_1, rfl, HA, HK1, BK2, HB⟩ := hrel
  cases gk with
  | zero => exact absurd HA.out (by simp [dancestudioref50_roomyOk.l0])
  | succ k1 =>
   have H := HA.out
   clear HA
   simp only [dancestudioref50_roomyOk.l0] at H
   by_cases c7 : x8_1 < (l0_1.length : Int)
   rotate_left
   ·
    rw [if_neg c7] at H
    have c7b0 := decide_eq_false c7
    clear c7
    obtain rfl := Option.some.inj H
    have hcz53 := blk_cell BK2.out; have hfz53 := blk_frozen BK2.out
    go_wp2
    go_ret2
    exact ⟨⟨_, rfl⟩, HB.out⟩
   rw [if_pos c7] at H
   have c7b0 := decide_eq_true c7
   clear c7
   obtain ⟨c8, H⟩ : (0 ≤ a2) ∧ _ := mIf H
   have c8b0 := decide_eq_true c8
   clear c8
   obtain ⟨c9, H⟩ : (a2 < (l1.length : Int)) ∧ _ := mIf H
   have c9b0 := decide_eq_true c9
   clear c9
   replace H := Option.bind_eq_some_iff.mp H
   obtain ⟨t524, A100, H⟩ := H
   try dsimp only at H
   have A10 := Aside0.mk A100
   clear A100
   have H' := Aside0.mk H
   clear H
   have hcz11 := blk_cell BK2.out; have hfz11 := blk_frozen BK2.out
   have p522 : 0 ≤ (a2 : Int) := of_decide_eq_true (by assumption)
   have q522 : a2 < (l1.length : Int) := of_decide_eq_true (by assumption)
   obtain ⟨ad522, e522, hx522_0, hx522_1, hx522_2⟩ := at_T48 HR1.out a2 p522 q522
   cases e522
   replace hx522_0 := mHx HB hx522_0
   replace hx522_1 := mHx HB hx522_1
   replace hx522_2 := mHx HB hx522_2
   replace p522 := eq_true p522
   replace q522 := eq_true q522
   go_wp2_with (first | ((with_reducible refine gate_dst (N := 9) rfl ?_); refine box_event rfl (N := 9) rfl (cs := #[.int .i64 0, .int .i64 0, .int .i64 0]) (t := 48) (by first | (go_simp; done) | (go_simp; rfl)) ?_; intro gb3 hg w12 hbox hb; have BK3 := Aside0.mk hbox; have GW3 := Aside0.mk ((by rw [hg]; exact (below_size (hO HB)) : w.heap.size ≤ gb3)); have GE3 := GW3; replace HB := mSx HB hb; have NB2_3 := mNe BK2 hg; have NB3_2 := mSy NB2_3; replace BK2 := mBb BK2 hb; clear hb hbox hg; have hnb13 := NB3_2.out; have hnc13 := NB2_3.out; have hcz14 := blk_cell BK3.out; have hfz14 := blk_frozen BK3.out; have hcz15 := blk_cell BK2.out; have hfz15 := blk_frozen BK2.out; have hs_ : World.cell? (World.setCell (World.setCell w12 ⟨gb3, 0, none⟩ (.int .i64 ((rd_T48 l1 a2).f0))) ⟨gb3, 1, none⟩ (.int .i64 ((rd_T48 l1 a2).f1))) ⟨gb3, 1, none⟩ = some (.int .i64 ((rd_T48 l1 a2).f1)) := (by go_simp)) | ((with_reducible refine gate_callee (f := 37) rfl ?_); refine goesL_ (some 35) rfl rfl Try.func37 (by kernel_rfl) rfl #[.agg #[.slice A0_0 l0_0.length c0_0, .slice A0_1 l0_1.length c0_1, .slice A0_2 l0_2.length c0_2, .int .i64 a0_3], .agg #[.int .i64 ((rd_T48 l1 a2).f0), .int .i64 x8_1, .int .i64 ((rd_T48 l1 a2).f2)]] rfl (mA2 rfl rfl) ?_; (with_reducible refine (dancestudioref50_alone.calls k1 _ _ l0_0 _ _ l0_1 _ _ l0_2 a0_3 ((rd_T48 l1 a2).f0) x8_1 ((rd_T48 l1 a2).f2) t524 _ (Kd.C_below HR0_0.out (hO HB)) HC0_0.out (Kd.C_below HR0_1.out (hO HB)) HC0_1.out (Kd.C_below HR0_2.out (hO HB)) HC0_2.out A10.out).mono ?_); rintro e w16 ⟨rfl, hb⟩; refine ⟨_, rfl, ?_⟩; replace BK2 := Aside0.mk (blk_below (g := gb2) (o := .cells #[.slice A0_0 l0_0.length c0_0, .slice A0_1 l0_1.length c0_1, .slice A0_2 l0_2.length c0_2, .int .i64 a0_3] 26 (0, 0)) (by refine blk_far ?_ NB2_3.out _; refine blk_far ?_ NB2_3.out _; refine blk_far ?_ NB2_3.out _; refine blk_far ?_ NB2_3.out _; exact BK2.out) hb); replace BK3 := Aside0.mk (blk_below (g := gb3) (o := .cells #[.int .i64 ((rd_T48 l1 a2).f0), .int .i64 x8_1, .int .i64 ((rd_T48 l1 a2).f2)] 48 (0, 0)) (by refine blk_put (cs := #[.int .i64 ((rd_T48 l1 a2).f0), .int .i64 ((rd_T48 l1 a2).f1), .int .i64 ((rd_T48 l1 a2).f2)]) ?_ 1 _ rfl; refine blk_put (cs := #[.int .i64 ((rd_T48 l1 a2).f0), .int .i64 ((rd_T48 l1 a2).f1), .int .i64 0]) ?_ 2 _ rfl; refine blk_put (cs := #[.int .i64 ((rd_T48 l1 a2).f0), .int .i64 0, .int .i64 0]) ?_ 1 _ rfl; refine blk_put (cs := #[.int .i64 0, .int .i64 0, .int .i64 0]) ?_ 0 _ rfl; exact BK3.out) hb); replace HB := mSx HB hb; (try clear hb)))
   go_loopg [10, 11] k1 (fun kq v10 v11 w' => ∃ (x10_2 : Bool) (x11_2 : Int), v10 = .bool x10_2 ∧ v11 = .int .i64 x11_2 ∧ Aside0 (dancestudioref50_roomyOk.l1 kq l1 a2 x8_1 x10_2 x11_2 l0_0 l0_1 l0_2 a0_3 ((rd_T48 l1 a2).f0) x8_1 ((rd_T48 l1 a2).f2) = some r) ∧ Aside0 (kq ≤ k1) ∧ Aside0 (w'.heap[gb2]? = some (.cells #[(.slice A0_0 l0_0.length c0_0), (.slice A0_1 l0_1.length c0_1), (.slice A0_2 l0_2.length c0_2), .int .i64 a0_3] 26 (0, 0))) ∧ Aside0 (w'.heap[gb3]? = some (.cells #[.int .i64 ((rd_T48 l1 a2).f0), .int .i64 x8_1, .int .i64 ((rd_T48 l1 a2).f2)] 48 (0, 0))) ∧ Aside0 (Below w.heap.size w w'))
   case atStart => exact ⟨((t524 == 0)), (0), rfl, rfl, H', ⟨Nat.le_refl _⟩, ⟨BK2.out⟩, ⟨BK3.out⟩, ⟨HB.out⟩⟩
   case round =>
    clear H'
    clear c7b0 c8b0 c9b0 hx522_0 hx522_1 hx522_2 p522 q522
    obtain ⟨x10_2, x11_2, rfl, rfl, HA, HK2, BK2, BK3, HB⟩ := hrel
    cases gk with
    | zero => exact absurd HA.out (by simp [dancestudioref50_roomyOk.l1])
    | succ k2 =>
     have H := HA.out
     clear HA
     simp only [dancestudioref50_roomyOk.l1] at H
     by_cases c17 : x11_2 < a2
     rotate_left
     ·
      rw [if_neg c17] at H
      have c17b0 := decide_eq_false c17
      clear c17
      by_cases c28 : x10_2 = true
      rotate_left
      ·
       replace c28 := Bool.eq_false_iff.mpr c28
       subst c28
       rw [if_neg (show ¬ (false = true) by decide)] at H
       have H' := Aside0.mk H
       clear H
       go_wp2
       go_roundg k2
       case measure => have := HK1.out; have := HK2.out; omega
       case rel => exact ⟨(wrap64 (x8_1 + 1)), rfl, H', ⟨by have := HK1.out; have := HK2.out; omega⟩, ⟨BK2.out⟩, ⟨HB.out⟩⟩
      subst c28
      rw [if_pos rfl] at H
      obtain ⟨y528, hy528⟩ : ∃ y_ : List (S48), y_ = (([] : List (S48))) := ⟨_, rfl⟩
      rw [← hy528] at H
      have Ny528 := Aside0.mk hy528
      clear hy528
      obtain ⟨c29, H⟩ : (y528.length + l1.length < 5864062014805) ∧ _ := mIf H
      have LMc29 := Aside0.mk c29
      clear c29
      obtain ⟨y531, hy531⟩ : ∃ y_ : List (S48), y_ = (y528 ++ l1) := ⟨_, rfl⟩
      rw [← hy531] at H
      have Ny531 := Aside0.mk hy531
      clear hy531
      obtain ⟨c30, H⟩ : (0 ≤ a2) ∧ _ := mIf H
      have c30b0 := decide_eq_true c30
      clear c30
      obtain ⟨c31, H⟩ : (a2 < (y531.length : Int)) ∧ _ := mIf H
      have c31b0 := decide_eq_true c31
      clear c31
      obtain ⟨y534, hy534⟩ : ∃ y_ : List (S48), y_ = (y531.set (a2 : Int).toNat (⟨((rd_T48 l1 a2).f0), x8_1, ((rd_T48 l1 a2).f2)⟩ : S48)) := ⟨_, rfl⟩
      rw [← hy534] at H
      have Ny534 := Aside0.mk hy534
      clear hy534
      replace H := Option.bind_eq_some_iff.mp H
      obtain ⟨t535, A330, H⟩ := H
      try dsimp only at H
      have A33 := Aside0.mk A330
      clear A330
      by_cases c34 : t535 = true
      ·
       subst c34
       rw [if_pos rfl] at H
       obtain rfl := Option.some.inj H
       go_wp2_with (first | ((with_reducible refine gate_dst (N := 64) rfl ?_); refine Kd.R_lit k48 _ 48 ?hg (N := 64) ?hd (xs := ([] : List (S48))) (inner := []) (ok := fun _ => True) (okp := fun _ => True) ?hr ?hp (fun _ hk => hk) trivial (Below.refl _ _) (Nat.le_refl _) (by simp) ?_; (case hd => rfl); (case hg => rfl); (case hr => first | (go_simp; done) | (go_simp; rfl)); (case hp => exact (Reps.none _ _)); intro v529 w35 ho36 hb hg_ hnew_; clear hg_ hnew_; (first | rw [← Ny528.out] at ho36 | (simp only [Int.reduceToNat] at ho36; rw [← Ny528.out] at ho36)); have HO530 := Aside0.mk (Kd.R_lower (Kd.R_newB ho36 (g := gb3) (o := .cells #[.int .i64 ((rd_T48 l1 a2).f0), .int .i64 x8_1, .int .i64 ((rd_T48 l1 a2).f2)] 48 (0, 0)) BK3.out) (below_size HB.out)); replace BK2 := mBb BK2 hb; replace BK3 := mBb BK3 hb; replace HB := mSt HB hb; clear hb ho36) | ((with_reducible refine gate_builtin (b := .append) (xs := #[.tmp 64, .tmp 65]) rfl ?_); at_builtin; refine Kd.R_append_rows k48 (w0 := w) w.heap.size rfl (.tmp 64) (.tmp 65) 37 48 (.agg #[(.int .i64 0), (.int .i64 0), (.int .i64 0)]) 24 rfl Try.underlying37 info48 rfl (by decide) (by omega) v529 y528 l1 _ _ _ (fun k_ => k_ ≠ gb3) (fun _ => False) rfl rfl ?aO ?aR (fun _ _ h => h) (fun _ h => h.elim) ?aF ?aB ?aS ?aL ?_; (case aR => exact Kd.C_below HR1.out HB.out); (case aB => exact HB.out); (case aF => exact (fun k_ hk => Kd.freshB (g := gb3) (o := .cells #[.int .i64 ((rd_T48 l1 a2).f0), .int .i64 x8_1, .int .i64 ((rd_T48 l1 a2).f2)] 48 (0, 0)) BK3.out k_ hk)); (case aO => exact (by exact Kd.R_mono HO530.out (fun _ hk => hk.2))); (case aS => exact (below_size HB.out)); (case aL => have := LMc29.out; omega); intro v532 w37 ho hb hg hat; rw [← Ny531.out] at ho; replace BK2 := Aside0.mk (blk_grown (g := gb2) (o := .cells #[.slice A0_0 l0_0.length c0_0, .slice A0_1 l0_1.length c0_1, .slice A0_2 l0_2.length c0_2, .int .i64 a0_3] 26 (0, 0)) BK2.out hg (Kd.R_ne HO530.out BK2.out (by decide))); replace BK3 := Aside0.mk (blk_grown (g := gb3) (o := .cells #[.int .i64 ((rd_T48 l1 a2).f0), .int .i64 x8_1, .int .i64 ((rd_T48 l1 a2).f2)] 48 (0, 0)) BK3.out hg (Kd.R_away HO530.out (fun _ hk => hk.2))); replace HB := Aside0.mk hb; have HO533 := Aside0.mk ho; clear HO530; clear ho hb hg hat; have hnb38 := NB3_2.out; have hnc38 := NB2_3.out; have hcz39 := blk_cell BK3.out; have hfz39 := blk_frozen BK3.out; have p32 : 0 ≤ (a2 : Int) := of_decide_eq_true (by assumption); have q32 : (a2 : Int) < ((y531.length : Int) : Int) := of_decide_eq_true (by assumption); obtain ⟨go32, co32, eo32, gb1, gl32, cl32, HG32⟩ := Kd.R_form HO533.out (by omega); (first | cases eo32 | (injection eo32 with ea_ en_ ec_; (first | subst ea_ | (injection ea_ with ea_; subst ea_)); subst ec_; clear en_)); have GB32 := Aside0.mk gb1; have GG32 := Aside0.mk HG32; clear gb1 gl32 HG32; obtain ⟨ce32, hcl32, hM32, hcc32, hfr32⟩ := Kd.R_elem HO533.out z48 (a2 : Int) p32 q32; obtain rfl := k48_openM hM32; have hx32_0 : w37.cell? ⟨go32, (a2 : Int).toNat * 3, none⟩ = some (.int .i64 ((rd_T48 y531 a2).f0)) := hcc32 0 _ rfl; have hx32_1 : w37.cell? ⟨go32, (a2 : Int).toNat * 3 + 1, none⟩ = some (.int .i64 ((rd_T48 y531 a2).f1)) := hcc32 1 _ rfl; have hx32_2 : w37.cell? ⟨go32, (a2 : Int).toNat * 3 + 2, none⟩ = some (.int .i64 ((rd_T48 y531 a2).f2)) := hcc32 2 _ rfl; have hf32_0 : w37.frozen? ⟨go32, (a2 : Int).toNat * 3, none⟩ = false := hfr32 0; have hf32_1 : w37.frozen? ⟨go32, (a2 : Int).toNat * 3 + 1, none⟩ = false := hfr32 1; have hf32_2 : w37.frozen? ⟨go32, (a2 : Int).toNat * 3 + 2, none⟩ = false := hfr32 2; clear hcl32 hcc32 hfr32 hM32; replace p32 := eq_true p32; replace q32 := eq_true q32; have HX40 := Aside0.mk (show Kd.R k48 48 w37 w.heap.size (fun k_ => k_ ≠ gb3) (.slice (some ⟨go32, 0, none⟩) y531.length co32) y531 from HO533.out); obtain ⟨ce40, hcl40, hM40, hcc40, hfr40⟩ := Kd.R_elem HX40.out z48 (a2 : Int) (of_decide_eq_true (by assumption)) (by have h_ : (a2 : Int) < ((y531.length : Int) : Int) := of_decide_eq_true (by assumption); first | exact h_ | (have e_ := (Kd.R_reads' HO533.out).1; omega) | simpa using h_); obtain rfl := k48_openM hM40; have HP40 := Kd.R_seg HX40.out (a2 : Int) (of_decide_eq_true (by assumption)) (by have h_ : (a2 : Int) < ((y531.length : Int) : Int) := of_decide_eq_true (by assumption); first | exact h_ | (have e_ := (Kd.R_reads' HO533.out).1; omega) | simpa using h_) (seg := [.int .i64 ((rd_T48 l1 a2).f0), .int .i64 x8_1, .int .i64 ((rd_T48 l1 a2).f2)]) (j := 0) hcl40 hcc40 (show 3 ≤ 3 from by decide) (x' := (⟨((rd_T48 l1 a2).f0), x8_1, ((rd_T48 l1 a2).f2)⟩ : S48)) (k48_mkM _ _ _ (⟨((rd_T48 l1 a2).f0), x8_1, ((rd_T48 l1 a2).f2)⟩ : S48) ) (fun _ hk => hk); have hx40_0 := hcc40 0 _ rfl; (try simp only [show (k48).sz = 3 from rfl, Nat.mul_one, Nat.add_zero] at hx40_0); have hf40_0 := hfr40 0; (try simp only [show (k48).sz = 3 from rfl, Nat.mul_one, Nat.add_zero] at hf40_0); have hx40_1 := hcc40 1 _ rfl; (try simp only [show (k48).sz = 3 from rfl, Nat.mul_one, Nat.add_zero] at hx40_1); have hf40_1 := hfr40 1; (try simp only [show (k48).sz = 3 from rfl, Nat.mul_one, Nat.add_zero] at hf40_1); have hx40_2 := hcc40 2 _ rfl; (try simp only [show (k48).sz = 3 from rfl, Nat.mul_one, Nat.add_zero] at hx40_2); have hf40_2 := hfr40 2; (try simp only [show (k48).sz = 3 from rfl, Nat.mul_one, Nat.add_zero] at hf40_2); clear hcl40 hcc40 hfr40 hM40) | ((with_reducible refine gate_store (t := 48) (p := 70) rfl ?_); refine store_event (t := 48) (p := 70) (v := ?vo_w41) (w1 := (((w37.setCell ⟨go32, (a2 : Int).toNat * 3, none⟩ (.int .i64 ((rd_T48 l1 a2).f0))).setCell ⟨go32, (a2 : Int).toNat * 3 + 1, none⟩ (.int .i64 x8_1)).setCell ⟨go32, (a2 : Int).toNat * 3 + 2, none⟩ (.int .i64 ((rd_T48 l1 a2).f2)))) ?hg ?ho ?hn ?hr ?_; (case ho => rfl); (case hg => rfl); (case hn => rfl); (case hr => first | (go_simp; done) | (go_simp; rfl)); intro w41 hw; have hg : w37.grownBy w41 (some go32) := (by rw [hw]; exact HP40.2); have hp_ : Kd.R k48 48 w41 w.heap.size (fun k_ => k_ ≠ gb3) (.slice (some ⟨go32, 0, none⟩) y531.length co32) y534 := (by rw [hw, Ny534.out]; exact HP40.1); clear HP40; replace BK2 := Aside0.mk (blk_grown (g := gb2) (o := .cells #[.slice A0_0 l0_0.length c0_0, .slice A0_1 l0_1.length c0_1, .slice A0_2 l0_2.length c0_2, .int .i64 a0_3] 26 (0, 0)) BK2.out hg (Kd.R_ne HO533.out BK2.out (by decide))); replace BK3 := Aside0.mk (blk_grown (g := gb3) (o := .cells #[.int .i64 ((rd_T48 l1 a2).f0), .int .i64 x8_1, .int .i64 ((rd_T48 l1 a2).f2)] 48 (0, 0)) BK3.out hg (Kd.R_away HO533.out (fun _ hk => hk))); replace HO533 := Aside0.mk (hp_); replace HB := Aside0.mk ((by rw [hw]; exact below_set (below_set (below_set (HB.out) GB32.out) GB32.out) GB32.out : Below w.heap.size w w41)); clear hg hw hp_; have hcz42 := blk_cell BK2.out; have hfz42 := blk_frozen BK2.out) | ((with_reducible refine gate_callee (f := 57) rfl ?_); refine goesL_ (some 76) rfl rfl Try.func57 (by kernel_rfl) rfl #[.agg #[.slice A0_0 l0_0.length c0_0, .slice A0_1 l0_1.length c0_1, .slice A0_2 l0_2.length c0_2, .int .i64 a0_3], .slice (some ⟨go32, 0, none⟩) y534.length co32, .int .i64 (wrap64 (a2 + 1))] rfl (by (try simp only [List.map_toArray, List.map_cons, List.map_nil]); first | done | (rw [show y534.length = y531.length from (Kd.R_reads' HO533.out).1.symm] <;> rfl) | rfl | (simp only [List.length_drop, List.length_take]; rfl)) ?_; (with_reducible refine (ih k2 (by have := HK1.out; have := HK2.out; omega) _ _ l0_0 _ _ l0_1 _ _ l0_2 a0_3 _ _ y534 (wrap64 (a2 + 1)) true _ ?side1 ?side2 ?side3 ?side4 ?side5 ?side6 ?side7 ?side8 A33.out).mono ?_); (case side1 => exact Kd.C_below HR0_0.out HB.out); (case side2 => exact HC0_0.out); (case side3 => exact Kd.C_below HR0_1.out HB.out); (case side4 => exact HC0_1.out); (case side5 => exact Kd.C_below HR0_2.out HB.out); (case side6 => exact HC0_2.out); (case side7 => exact (Kd.R_reads' HO533.out).2.2); (case side8 => rw [show y534.length = y531.length from (Kd.R_reads' HO533.out).1.symm]; exact (Kd.R_reads' HO533.out).2.1); rintro e w43 ⟨⟨v_, rfl⟩, hb⟩; refine ⟨_, rfl, ?_⟩; replace HO533 := Aside0.mk (Kd.R_below HO533.out hb); replace BK2 := mBb BK2 hb; replace BK3 := mBb BK3 hb; replace HB := mSt HB hb; (try clear hb)))
       go_ret2
       exact ⟨⟨_, rfl⟩, HB.out⟩
      replace c34 := Bool.eq_false_iff.mpr c34
      subst c34
      rw [if_neg (show ¬ (false = true) by decide)] at H
      have H' := Aside0.mk H
      clear H
      go_wp2_with (first | ((with_reducible refine gate_dst (N := 64) rfl ?_); refine Kd.R_lit k48 _ 48 ?hg (N := 64) ?hd (xs := ([] : List (S48))) (inner := []) (ok := fun _ => True) (okp := fun _ => True) ?hr ?hp (fun _ hk => hk) trivial (Below.refl _ _) (Nat.le_refl _) (by simp) ?_; (case hd => rfl); (case hg => rfl); (case hr => first | (go_simp; done) | (go_simp; rfl)); (case hp => exact (Reps.none _ _)); intro v529 w44 ho45 hb hg_ hnew_; clear hg_ hnew_; (first | rw [← Ny528.out] at ho45 | (simp only [Int.reduceToNat] at ho45; rw [← Ny528.out] at ho45)); have HO530 := Aside0.mk (Kd.R_lower (Kd.R_newB ho45 (g := gb3) (o := .cells #[.int .i64 ((rd_T48 l1 a2).f0), .int .i64 x8_1, .int .i64 ((rd_T48 l1 a2).f2)] 48 (0, 0)) BK3.out) (below_size HB.out)); replace BK2 := mBb BK2 hb; replace BK3 := mBb BK3 hb; replace HB := mSt HB hb; clear hb ho45) | ((with_reducible refine gate_builtin (b := .append) (xs := #[.tmp 64, .tmp 65]) rfl ?_); at_builtin; refine Kd.R_append_rows k48 (w0 := w) w.heap.size rfl (.tmp 64) (.tmp 65) 37 48 (.agg #[(.int .i64 0), (.int .i64 0), (.int .i64 0)]) 24 rfl Try.underlying37 info48 rfl (by decide) (by omega) v529 y528 l1 _ _ _ (fun k_ => k_ ≠ gb3) (fun _ => False) rfl rfl ?aO ?aR (fun _ _ h => h) (fun _ h => h.elim) ?aF ?aB ?aS ?aL ?_; (case aR => exact Kd.C_below HR1.out HB.out); (case aB => exact HB.out); (case aF => exact (fun k_ hk => Kd.freshB (g := gb3) (o := .cells #[.int .i64 ((rd_T48 l1 a2).f0), .int .i64 x8_1, .int .i64 ((rd_T48 l1 a2).f2)] 48 (0, 0)) BK3.out k_ hk)); (case aO => exact (by exact Kd.R_mono HO530.out (fun _ hk => hk.2))); (case aS => exact (below_size HB.out)); (case aL => have := LMc29.out; omega); intro v532 w46 ho hb hg hat; rw [← Ny531.out] at ho; replace BK2 := Aside0.mk (blk_grown (g := gb2) (o := .cells #[.slice A0_0 l0_0.length c0_0, .slice A0_1 l0_1.length c0_1, .slice A0_2 l0_2.length c0_2, .int .i64 a0_3] 26 (0, 0)) BK2.out hg (Kd.R_ne HO530.out BK2.out (by decide))); replace BK3 := Aside0.mk (blk_grown (g := gb3) (o := .cells #[.int .i64 ((rd_T48 l1 a2).f0), .int .i64 x8_1, .int .i64 ((rd_T48 l1 a2).f2)] 48 (0, 0)) BK3.out hg (Kd.R_away HO530.out (fun _ hk => hk.2))); replace HB := Aside0.mk hb; have HO533 := Aside0.mk ho; clear HO530; clear ho hb hg hat; have hnb47 := NB3_2.out; have hnc47 := NB2_3.out; have hcz48 := blk_cell BK3.out; have hfz48 := blk_frozen BK3.out; have p32 : 0 ≤ (a2 : Int) := of_decide_eq_true (by assumption); have q32 : (a2 : Int) < ((y531.length : Int) : Int) := of_decide_eq_true (by assumption); obtain ⟨go32, co32, eo32, gb1, gl32, cl32, HG32⟩ := Kd.R_form HO533.out (by omega); (first | cases eo32 | (injection eo32 with ea_ en_ ec_; (first | subst ea_ | (injection ea_ with ea_; subst ea_)); subst ec_; clear en_)); have GB32 := Aside0.mk gb1; have GG32 := Aside0.mk HG32; clear gb1 gl32 HG32; obtain ⟨ce32, hcl32, hM32, hcc32, hfr32⟩ := Kd.R_elem HO533.out z48 (a2 : Int) p32 q32; obtain rfl := k48_openM hM32; have hx32_0 : w46.cell? ⟨go32, (a2 : Int).toNat * 3, none⟩ = some (.int .i64 ((rd_T48 y531 a2).f0)) := hcc32 0 _ rfl; have hx32_1 : w46.cell? ⟨go32, (a2 : Int).toNat * 3 + 1, none⟩ = some (.int .i64 ((rd_T48 y531 a2).f1)) := hcc32 1 _ rfl; have hx32_2 : w46.cell? ⟨go32, (a2 : Int).toNat * 3 + 2, none⟩ = some (.int .i64 ((rd_T48 y531 a2).f2)) := hcc32 2 _ rfl; have hf32_0 : w46.frozen? ⟨go32, (a2 : Int).toNat * 3, none⟩ = false := hfr32 0; have hf32_1 : w46.frozen? ⟨go32, (a2 : Int).toNat * 3 + 1, none⟩ = false := hfr32 1; have hf32_2 : w46.frozen? ⟨go32, (a2 : Int).toNat * 3 + 2, none⟩ = false := hfr32 2; clear hcl32 hcc32 hfr32 hM32; replace p32 := eq_true p32; replace q32 := eq_true q32; have HX49 := Aside0.mk (show Kd.R k48 48 w46 w.heap.size (fun k_ => k_ ≠ gb3) (.slice (some ⟨go32, 0, none⟩) y531.length co32) y531 from HO533.out); obtain ⟨ce49, hcl49, hM49, hcc49, hfr49⟩ := Kd.R_elem HX49.out z48 (a2 : Int) (of_decide_eq_true (by assumption)) (by have h_ : (a2 : Int) < ((y531.length : Int) : Int) := of_decide_eq_true (by assumption); first | exact h_ | (have e_ := (Kd.R_reads' HO533.out).1; omega) | simpa using h_); obtain rfl := k48_openM hM49; have HP49 := Kd.R_seg HX49.out (a2 : Int) (of_decide_eq_true (by assumption)) (by have h_ : (a2 : Int) < ((y531.length : Int) : Int) := of_decide_eq_true (by assumption); first | exact h_ | (have e_ := (Kd.R_reads' HO533.out).1; omega) | simpa using h_) (seg := [.int .i64 ((rd_T48 l1 a2).f0), .int .i64 x8_1, .int .i64 ((rd_T48 l1 a2).f2)]) (j := 0) hcl49 hcc49 (show 3 ≤ 3 from by decide) (x' := (⟨((rd_T48 l1 a2).f0), x8_1, ((rd_T48 l1 a2).f2)⟩ : S48)) (k48_mkM _ _ _ (⟨((rd_T48 l1 a2).f0), x8_1, ((rd_T48 l1 a2).f2)⟩ : S48) ) (fun _ hk => hk); have hx49_0 := hcc49 0 _ rfl; (try simp only [show (k48).sz = 3 from rfl, Nat.mul_one, Nat.add_zero] at hx49_0); have hf49_0 := hfr49 0; (try simp only [show (k48).sz = 3 from rfl, Nat.mul_one, Nat.add_zero] at hf49_0); have hx49_1 := hcc49 1 _ rfl; (try simp only [show (k48).sz = 3 from rfl, Nat.mul_one, Nat.add_zero] at hx49_1); have hf49_1 := hfr49 1; (try simp only [show (k48).sz = 3 from rfl, Nat.mul_one, Nat.add_zero] at hf49_1); have hx49_2 := hcc49 2 _ rfl; (try simp only [show (k48).sz = 3 from rfl, Nat.mul_one, Nat.add_zero] at hx49_2); have hf49_2 := hfr49 2; (try simp only [show (k48).sz = 3 from rfl, Nat.mul_one, Nat.add_zero] at hf49_2); clear hcl49 hcc49 hfr49 hM49) | ((with_reducible refine gate_store (t := 48) (p := 70) rfl ?_); refine store_event (t := 48) (p := 70) (v := ?vo_w50) (w1 := (((w46.setCell ⟨go32, (a2 : Int).toNat * 3, none⟩ (.int .i64 ((rd_T48 l1 a2).f0))).setCell ⟨go32, (a2 : Int).toNat * 3 + 1, none⟩ (.int .i64 x8_1)).setCell ⟨go32, (a2 : Int).toNat * 3 + 2, none⟩ (.int .i64 ((rd_T48 l1 a2).f2)))) ?hg ?ho ?hn ?hr ?_; (case ho => rfl); (case hg => rfl); (case hn => rfl); (case hr => first | (go_simp; done) | (go_simp; rfl)); intro w50 hw; have hg : w46.grownBy w50 (some go32) := (by rw [hw]; exact HP49.2); have hp_ : Kd.R k48 48 w50 w.heap.size (fun k_ => k_ ≠ gb3) (.slice (some ⟨go32, 0, none⟩) y531.length co32) y534 := (by rw [hw, Ny534.out]; exact HP49.1); clear HP49; replace BK2 := Aside0.mk (blk_grown (g := gb2) (o := .cells #[.slice A0_0 l0_0.length c0_0, .slice A0_1 l0_1.length c0_1, .slice A0_2 l0_2.length c0_2, .int .i64 a0_3] 26 (0, 0)) BK2.out hg (Kd.R_ne HO533.out BK2.out (by decide))); replace BK3 := Aside0.mk (blk_grown (g := gb3) (o := .cells #[.int .i64 ((rd_T48 l1 a2).f0), .int .i64 x8_1, .int .i64 ((rd_T48 l1 a2).f2)] 48 (0, 0)) BK3.out hg (Kd.R_away HO533.out (fun _ hk => hk))); replace HO533 := Aside0.mk (hp_); replace HB := Aside0.mk ((by rw [hw]; exact below_set (below_set (below_set (HB.out) GB32.out) GB32.out) GB32.out : Below w.heap.size w w50)); clear hg hw hp_; have hcz51 := blk_cell BK2.out; have hfz51 := blk_frozen BK2.out) | ((with_reducible refine gate_callee (f := 57) rfl ?_); refine goesL_ (some 76) rfl rfl Try.func57 (by kernel_rfl) rfl #[.agg #[.slice A0_0 l0_0.length c0_0, .slice A0_1 l0_1.length c0_1, .slice A0_2 l0_2.length c0_2, .int .i64 a0_3], .slice (some ⟨go32, 0, none⟩) y534.length co32, .int .i64 (wrap64 (a2 + 1))] rfl (by (try simp only [List.map_toArray, List.map_cons, List.map_nil]); first | done | (rw [show y534.length = y531.length from (Kd.R_reads' HO533.out).1.symm] <;> rfl) | rfl | (simp only [List.length_drop, List.length_take]; rfl)) ?_; (with_reducible refine (ih k2 (by have := HK1.out; have := HK2.out; omega) _ _ l0_0 _ _ l0_1 _ _ l0_2 a0_3 _ _ y534 (wrap64 (a2 + 1)) false _ ?side1 ?side2 ?side3 ?side4 ?side5 ?side6 ?side7 ?side8 A33.out).mono ?_); (case side1 => exact Kd.C_below HR0_0.out HB.out); (case side2 => exact HC0_0.out); (case side3 => exact Kd.C_below HR0_1.out HB.out); (case side4 => exact HC0_1.out); (case side5 => exact Kd.C_below HR0_2.out HB.out); (case side6 => exact HC0_2.out); (case side7 => exact (Kd.R_reads' HO533.out).2.2); (case side8 => rw [show y534.length = y531.length from (Kd.R_reads' HO533.out).1.symm]; exact (Kd.R_reads' HO533.out).2.1); rintro e w52 ⟨⟨v_, rfl⟩, hb⟩; refine ⟨_, rfl, ?_⟩; replace HO533 := Aside0.mk (Kd.R_below HO533.out hb); replace BK2 := mBb BK2 hb; replace BK3 := mBb BK3 hb; replace HB := mSt HB hb; (try clear hb)))
      go_roundg k2
      case measure => have := HK1.out; have := HK2.out; omega
      case rel => exact ⟨(wrap64 (x8_1 + 1)), rfl, H', ⟨by have := HK1.out; have := HK2.out; omega⟩, ⟨BK2.out⟩, ⟨HB.out⟩⟩
     rw [if_pos c17] at H
     have c17b0 := decide_eq_true c17
     clear c17
     by_cases c18 : x10_2 = true
     rotate_left
     ·
      replace c18 := Bool.eq_false_iff.mpr c18
      subst c18
      rw [if_neg (show ¬ (false = true) by decide)] at H
      have H' := Aside0.mk H
      clear H
      try go_wp2
      replace BK2 := Aside0.mk (blk_drew BK2.out); replace BK3 := Aside0.mk (blk_drew BK3.out); replace HB := Aside0.mk (below_drew1 HB.out)
      refine start_ (n := 21) (S := fun w' => True) (ds := []) #[false, false, false, false, false, false, false, false, false, false, false, false, false, false, false, false, false, false, false, false, false] (by kernel_rfl) rfl rfl trivial (fun hHeld => ?_); refine with_tabW dancestudioref50_roomyOk.tab12 dancestudioref50_roomyOk.bits12 (fun HT_ HW_ => ?_)
      generalize wr.drew = w27 at BK2 BK3 HB hHeld ⊢
      refine pM 0 42 HT_ ?_
      refine pM 1 43 HT_ ?_
      refine pure_ (i := 2) (N := some 44) (v := undef) (a' := ?_) #[true, true, true, false, false, false, false, false, false, false, false, false, false, false, false, false, false, false, false, false, false] rfl rfl (any_of HT_.out (by kernel_rfl)) (fun _ _ _ h => h) (Or.inr ⟨by rfl, rfl⟩) ?_ ?_
      rotate_left
      ·
       simp only [mP]
       rfl
      refine pure_ (i := 3) (N := some 45) (v := undef) (a' := ?_) #[true, true, true, true, false, false, false, false, false, false, false, false, false, false, false, false, false, false, false, false, false] rfl rfl (any_of HT_.out (by kernel_rfl)) (fun _ _ _ h => h) (Or.inr ⟨by rfl, rfl⟩) ?_ ?_
      rotate_left
      ·
       simp only [mP]
       rfl
      refine pure_ (i := 4) (N := some 46) (v := undef) (a' := ?_) #[true, true, true, true, true, false, false, false, false, false, false, false, false, false, false, false, false, false, false, false, false] rfl rfl (any_of HT_.out (by kernel_rfl)) (fun _ _ _ h => h) (Or.inr ⟨by rfl, rfl⟩) ?_ ?_
      rotate_left
      ·
       simp only [mP]
       rfl
      refine pure_ (i := 5) (N := some 47) (v := undef) (a' := ?_) #[true, true, true, true, true, true, false, false, false, false, false, false, false, false, false, false, false, false, false, false, false] rfl rfl (any_of HT_.out (by kernel_rfl)) (fun _ _ _ h => h) (Or.inr ⟨by rfl, rfl⟩) ?_ ?_
      rotate_left
      ·
       simp only [mP]
       rfl
      refine pure_ (i := 6) (N := some 48) (v := undef) (a' := ?_) #[true, true, true, true, true, true, true, false, false, false, false, false, false, false, false, false, false, false, false, false, false] rfl rfl (any_of HT_.out (by kernel_rfl)) (fun _ _ _ h => h) (Or.inr ⟨by rfl, rfl⟩) ?_ ?_
      rotate_left
      ·
       simp only [mP]
       rfl
      refine pure_ (i := 7) (N := some 49) (v := undef) (a' := ?_) #[true, true, true, true, true, true, true, true, false, false, false, false, false, false, false, false, false, false, false, false, false] rfl rfl (any_of HT_.out (by kernel_rfl)) (fun _ _ _ h => h) (Or.inr ⟨by rfl, rfl⟩) ?_ ?_
      rotate_left
      ·
       simp only [mP]
       rfl
      refine pure_ (i := 8) (N := some 50) (v := undef) (a' := ?_) #[true, true, true, true, true, true, true, true, true, false, false, false, false, false, false, false, false, false, false, false, false] rfl rfl (any_of HT_.out (by kernel_rfl)) (fun _ _ _ h => h) (Or.inr ⟨by rfl, rfl⟩) ?_ ?_
      rotate_left
      ·
       simp only [mP]
       rfl
      refine pure_ (i := 9) (N := some 51) (v := undef) (a' := ?_) #[true, true, true, true, true, true, true, true, true, true, false, false, false, false, false, false, false, false, false, false, false] rfl rfl (any_of HT_.out (by kernel_rfl)) (fun _ _ _ h => h) (Or.inr ⟨by rfl, rfl⟩) ?_ ?_
      rotate_left
      ·
       simp only [mP]
       rfl
      refine pure_ (i := 10) (N := some 52) (v := undef) (a' := ?_) #[true, true, true, true, true, true, true, true, true, true, true, false, false, false, false, false, false, false, false, false, false] rfl rfl (any_of HT_.out (by kernel_rfl)) (fun _ _ _ h => h) (Or.inr ⟨by rfl, rfl⟩) ?_ ?_
      rotate_left
      ·
       simp only [mP]
       rfl
      refine pure_ (i := 11) (N := some 53) (v := undef) (a' := ?_) #[true, true, true, true, true, true, true, true, true, true, true, true, false, false, false, false, false, false, false, false, false] rfl rfl (any_of HT_.out (by kernel_rfl)) (fun _ _ _ h => h) (Or.inr ⟨by rfl, rfl⟩) ?_ ?_
      rotate_left
      ·
       simp only [mP]
       rfl
      refine pure_ (i := 12) (N := some 54) (v := undef) (a' := ?_) #[true, true, true, true, true, true, true, true, true, true, true, true, true, false, false, false, false, false, false, false, false] rfl rfl (any_of HT_.out (by kernel_rfl)) (fun _ _ _ h => h) (Or.inr ⟨by rfl, rfl⟩) ?_ ?_
      rotate_left
      ·
       simp only [mP]
       rfl
      refine pure_ (i := 13) (N := some 55) (v := undef) (a' := ?_) #[true, true, true, true, true, true, true, true, true, true, true, true, true, true, false, false, false, false, false, false, false] rfl rfl (any_of HT_.out (by kernel_rfl)) (fun _ _ _ h => h) (Or.inr ⟨by rfl, rfl⟩) ?_ ?_
      rotate_left
      ·
       simp only [mP]
       rfl
      refine pure_ (i := 14) (N := some 56) (v := undef) (a' := ?_) #[true, true, true, true, true, true, true, true, true, true, true, true, true, true, true, false, false, false, false, false, false] rfl rfl (any_of HT_.out (by kernel_rfl)) (fun _ _ _ h => h) (Or.inr ⟨by rfl, rfl⟩) ?_ ?_
      rotate_left
      ·
       simp only [mP]
       rfl
      refine pure_ (i := 15) (N := some 57) (v := undef) (a' := ?_) #[true, true, true, true, true, true, true, true, true, true, true, true, true, true, true, true, false, false, false, false, false] rfl rfl (any_of HT_.out (by kernel_rfl)) (fun _ _ _ h => h) (Or.inr ⟨by rfl, rfl⟩) ?_ ?_
      rotate_left
      ·
       simp only [mP]
       rfl
      refine pure_ (i := 16) (N := some 58) (v := undef) (a' := ?_) #[true, true, true, true, true, true, true, true, true, true, true, true, true, true, true, true, true, false, false, false, false] rfl rfl (any_of HT_.out (by kernel_rfl)) (fun _ _ _ h => h) (Or.inr ⟨by rfl, rfl⟩) ?_ ?_
      rotate_left
      ·
       simp only [mP]
       rfl
      refine pure_ (i := 17) (N := some 59) (v := undef) (a' := ?_) #[true, true, true, true, true, true, true, true, true, true, true, true, true, true, true, true, true, true, false, false, false] rfl rfl (any_of HT_.out (by kernel_rfl)) (fun _ _ _ h => h) (Or.inr ⟨by rfl, rfl⟩) ?_ ?_
      rotate_left
      ·
       simp only [mP]
       rfl
      refine pure_ (i := 18) (N := some 60) (v := undef) (a' := ?_) #[true, true, true, true, true, true, true, true, true, true, true, true, true, true, true, true, true, true, true, false, false] rfl rfl (any_of HT_.out (by kernel_rfl)) (fun _ _ _ h => h) (Or.inr ⟨by rfl, rfl⟩) ?_ ?_
      rotate_left
      ·
       simp only [mP]
       rfl
      refine pM 19 61 HT_ ?_
      refine pM 20 10 HT_ ?_
      refine done_ (done_of HT_.out (by kernel_rfl)) ?_
      try go_wp2
      go_roundg k2
      case measure => have := HK1.out; have := HK2.out; omega
      case rel => exact ⟨(false), (wrap64 (x11_2 + 1)), rfl, rfl, H', ⟨by have := HK1.out; have := HK2.out; omega⟩, ⟨BK2.out⟩, ⟨BK3.out⟩, ⟨HB.out⟩⟩
     subst c18
     rw [if_pos rfl] at H
     obtain ⟨c19, H⟩ : (0 ≤ x11_2) ∧ _ := mIf H
     have c19b0 := decide_eq_true c19
     clear c19
     obtain ⟨c20, H⟩ : (x11_2 < (l1.length : Int)) ∧ _ := mIf H
     have c20b0 := decide_eq_true c20
     clear c20
     replace H := Option.bind_eq_some_iff.mp H
     obtain ⟨t526, A210, H⟩ := H
     try dsimp only at H
     have A21 := Aside0.mk A210
     clear A210
     by_cases c22 : t526 = true
     rotate_left
     ·
      replace c22 := Bool.eq_false_iff.mpr c22
      subst c22
      rw [if_neg (show ¬ (false = true) by decide)] at H
      have H' := Aside0.mk H
      clear H
      try go_wp2
      replace BK2 := Aside0.mk (blk_drew BK2.out); replace BK3 := Aside0.mk (blk_drew BK3.out); replace HB := Aside0.mk (below_drew1 HB.out)
      have p525 : 0 ≤ (x11_2 : Int) := of_decide_eq_true (by assumption)
      have q525 : x11_2 < (l1.length : Int) := of_decide_eq_true (by assumption)
      obtain ⟨ad525, e525, hx525_0, hx525_1, hx525_2⟩ := at_T48 HR1.out x11_2 p525 q525
      have hw525_2 := hx525_2
      have hw525_1 := hx525_1
      have hw525_0 := hx525_0
      obtain rfl : ad522 = ad525 := (by injection e525)
      replace hx525_0 := mHx HB hx525_0
      replace hx525_1 := mHx HB hx525_1
      replace hx525_2 := mHx HB hx525_2
      replace p525 := eq_true p525
      replace q525 := eq_true q525
      refine start_ (n := 21) (S := fun w' => w'.cell? ⟨gb2, 0, none⟩ = some (.slice A0_0 l0_0.length c0_0) ∧ w'.cell? ⟨gb2, 1, none⟩ = some (.slice A0_1 l0_1.length c0_1) ∧ w'.cell? ⟨gb2, 2, none⟩ = some (.slice A0_2 l0_2.length c0_2) ∧ w'.cell? ⟨gb2, 3, none⟩ = some (.int .i64 a0_3) ∧ w'.cell? ⟨gb3, 0, none⟩ = some (.int .i64 ((rd_T48 l1 a2).f0)) ∧ w'.cell? ⟨gb3, 1, none⟩ = some (.int .i64 x8_1) ∧ w'.cell? ⟨gb3, 2, none⟩ = some (.int .i64 ((rd_T48 l1 a2).f2)) ∧ w'.cell? (ad522.add ((x11_2).toNat * 3)) = some (.int .i64 ((rd_T48 l1 x11_2).f0)) ∧ w'.cell? ⟨(ad522.add ((x11_2).toNat * 3)).block, (ad522.add ((x11_2).toNat * 3)).off + 1, none⟩ = some (.int .i64 ((rd_T48 l1 x11_2).f1)) ∧ w'.cell? ⟨(ad522.add ((x11_2).toNat * 3)).block, (ad522.add ((x11_2).toNat * 3)).off + 2, none⟩ = some (.int .i64 ((rd_T48 l1 x11_2).f2))) (ds := []) #[false, false, false, false, false, false, false, false, false, false, false, false, false, false, false, false, false, false, false, false, false] (by kernel_rfl) rfl rfl ⟨(blk_cell BK2.out 0).trans rfl, (blk_cell BK2.out 1).trans rfl, (blk_cell BK2.out 2).trans rfl, (blk_cell BK2.out 3).trans rfl, (blk_cell BK3.out 0).trans rfl, (blk_cell BK3.out 1).trans rfl, (blk_cell BK3.out 2).trans rfl, ((HB.out.cell (World.block_lt_of_cell? w _ hw525_0)).trans hw525_0), ((HB.out.cell (World.block_lt_of_cell? w _ hw525_1)).trans hw525_1), ((HB.out.cell (World.block_lt_of_cell? w _ hw525_2)).trans hw525_2)⟩ (fun hHeld => ?_); refine with_tabW dancestudioref50_roomyOk.tab12 dancestudioref50_roomyOk.bits12 (fun HT_ HW_ => ?_)
      generalize wr.drew = w25 at BK2 BK3 HB hx525_0 hx525_1 hx525_2 hHeld ⊢
      refine pM 0 42 HT_ ?_
      refine pM 1 43 HT_ ?_
      refine pM 4 46 HT_ ?_
      refine pM 5 47 HT_ ?_
      refine pM 6 48 HT_ ?_
      refine tM 2 44 rfl HT_ HW_ (by rintro w' ⟨s0, s1, s2, s3, s4, s5, s6, s7, s8, s9⟩; go_simp; with_reducible rfl) hHeld ?_
      refine tM 3 45 rfl HT_ HW_ (by rintro w' ⟨s0, s1, s2, s3, s4, s5, s6, s7, s8, s9⟩; go_simp; with_reducible rfl) hHeld ?_
      refine tM 7 49 rfl HT_ HW_ (by rintro w' ⟨s0, s1, s2, s3, s4, s5, s6, s7, s8, s9⟩; go_simp; with_reducible rfl) hHeld ?_
      refine one_ (i := 8) (N := some 50) #[true, true, true, true, true, true, true, true, true, false, false, false, false, false, false, false, false, false, false, false, false] rfl rfl (one_of HT_.out (by kernel_rfl)) (by decide) (fun K hK => ?_)
      refine goes_ Try.func38 (by kernel_rfl) rfl #[.agg #[.slice A0_0 l0_0.length c0_0, .slice A0_1 l0_1.length c0_1, .slice A0_2 l0_2.length c0_2, .int .i64 a0_3], .agg #[.int .i64 ((rd_T48 l1 a2).f0), .int .i64 x8_1, .int .i64 ((rd_T48 l1 a2).f2)], .agg #[.int .i64 ((rd_T48 l1 x11_2).f0), .int .i64 ((rd_T48 l1 x11_2).f1), .int .i64 ((rd_T48 l1 x11_2).f2)]] (by rfl) rfl rfl (by (try simp only [List.map_toArray, List.map_cons, List.map_nil]); first | done | rfl | (simp only [List.length_drop, List.length_take]; rfl)) ?_
      with_reducible refine (dancestudioref50_meet.calls _ _ l0_0 _ _ l0_1 _ _ l0_2 a0_3 ((rd_T48 l1 a2).f0) x8_1 ((rd_T48 l1 a2).f2) ((rd_T48 l1 x11_2).f0) ((rd_T48 l1 x11_2).f1) ((rd_T48 l1 x11_2).f2) false _ ?side1 ?side2 ?side3 ?side4 ?side5 ?side6 A21.out).mono ?_
      (case side1 => exact Kd.C_below HR0_0.out HB.out)
      (case side2 => exact HC0_0.out)
      (case side3 => exact Kd.C_below HR0_1.out HB.out)
      (case side4 => exact HC0_1.out)
      (case side5 => exact Kd.C_below HR0_2.out HB.out)
      (case side6 => exact HC0_2.out)
      rintro e w26 ⟨rfl, hb⟩
      refine ⟨_, rfl, ?_⟩
      replace BK2 := mBb BK2 hb; replace BK3 := mBb BK3 hb; replace HB := mSt HB hb
      (try clear hb)
      (try clear hb2)
      (try clear hk)
      (try clear hi)
      refine hK.out _ _ ⟨blk_cell BK2.out 0, blk_cell BK2.out 1, blk_cell BK2.out 2, blk_cell BK2.out 3, blk_cell BK3.out 0, blk_cell BK3.out 1, blk_cell BK3.out 2, ((HB.out.cell (World.block_lt_of_cell? w _ hw525_0)).trans hw525_0), ((HB.out.cell (World.block_lt_of_cell? w _ hw525_1)).trans hw525_1), ((HB.out.cell (World.block_lt_of_cell? w _ hw525_2)).trans hw525_2)⟩ (fun hHeld => ?_)
      clear hK K
      refine norm_ (by show Act.put _ (some 50) _ = _; simp only [mP]; rfl) ?_
      refine pM 9 51 HT_ ?_
      refine pM 10 52 HT_ ?_
      refine pure_ (i := 11) (N := some 53) (v := undef) (a' := ?_) #[true, true, true, true, true, true, true, true, true, true, true, true, false, false, false, false, false, false, false, false, false] rfl rfl (any_of HT_.out (by kernel_rfl)) (fun _ _ _ h => h) (Or.inr ⟨by rfl, rfl⟩) ?_ ?_
      rotate_left
      ·
       simp only [mP]
       rfl
      refine pure_ (i := 12) (N := some 54) (v := undef) (a' := ?_) #[true, true, true, true, true, true, true, true, true, true, true, true, true, false, false, false, false, false, false, false, false] rfl rfl (any_of HT_.out (by kernel_rfl)) (fun _ _ _ h => h) (Or.inr ⟨by rfl, rfl⟩) ?_ ?_
      rotate_left
      ·
       simp only [mP]
       rfl
      refine pure_ (i := 13) (N := some 55) (v := undef) (a' := ?_) #[true, true, true, true, true, true, true, true, true, true, true, true, true, true, false, false, false, false, false, false, false] rfl rfl (any_of HT_.out (by kernel_rfl)) (fun _ _ _ h => h) (Or.inr ⟨by rfl, rfl⟩) ?_ ?_
      rotate_left
      ·
       simp only [mP]
       rfl
      refine pure_ (i := 14) (N := some 56) (v := undef) (a' := ?_) #[true, true, true, true, true, true, true, true, true, true, true, true, true, true, true, false, false, false, false, false, false] rfl rfl (any_of HT_.out (by kernel_rfl)) (fun _ _ _ h => h) (Or.inr ⟨by rfl, rfl⟩) ?_ ?_
      rotate_left
      ·
       simp only [mP]
       rfl
      refine pure_ (i := 15) (N := some 57) (v := undef) (a' := ?_) #[true, true, true, true, true, true, true, true, true, true, true, true, true, true, true, true, false, false, false, false, false] rfl rfl (any_of HT_.out (by kernel_rfl)) (fun _ _ _ h => h) (Or.inr ⟨by rfl, rfl⟩) ?_ ?_
      rotate_left
      ·
       simp only [mP]
       rfl
      refine pure_ (i := 16) (N := some 58) (v := undef) (a' := ?_) #[true, true, true, true, true, true, true, true, true, true, true, true, true, true, true, true, true, false, false, false, false] rfl rfl (any_of HT_.out (by kernel_rfl)) (fun _ _ _ h => h) (Or.inr ⟨by rfl, rfl⟩) ?_ ?_
      rotate_left
      ·
       simp only [mP]
       rfl
      refine pure_ (i := 17) (N := some 59) (v := undef) (a' := ?_) #[true, true, true, true, true, true, true, true, true, true, true, true, true, true, true, true, true, true, false, false, false] rfl rfl (any_of HT_.out (by kernel_rfl)) (fun _ _ _ h => h) (Or.inr ⟨by rfl, rfl⟩) ?_ ?_
      rotate_left
      ·
       simp only [mP]
       rfl
      refine pM 18 60 HT_ ?_
      refine pM 19 61 HT_ ?_
      refine pM 20 10 HT_ ?_
      refine done_ (done_of HT_.out (by kernel_rfl)) ?_
      try go_wp2
      go_roundg k2
      case measure => have := HK1.out; have := HK2.out; omega
      case rel => exact ⟨(true), (wrap64 (x11_2 + 1)), rfl, rfl, H', ⟨by have := HK1.out; have := HK2.out; omega⟩, ⟨BK2.out⟩, ⟨BK3.out⟩, ⟨HB.out⟩⟩
     subst c22
     rw [if_pos rfl] at H
     have H' := Aside0.mk H
     clear H
     try go_wp2
     replace BK2 := Aside0.mk (blk_drew BK2.out); replace BK3 := Aside0.mk (blk_drew BK3.out); replace HB := Aside0.mk (below_drew1 HB.out)
     have p525 : 0 ≤ (x11_2 : Int) := of_decide_eq_true (by assumption)
     have q525 : x11_2 < (l1.length : Int) := of_decide_eq_true (by assumption)
     obtain ⟨ad525, e525, hx525_0, hx525_1, hx525_2⟩ := at_T48 HR1.out x11_2 p525 q525
     have hw525_2 := hx525_2
     have hw525_1 := hx525_1
     have hw525_0 := hx525_0
     obtain rfl : ad522 = ad525 := (by injection e525)
     replace hx525_0 := mHx HB hx525_0
     replace hx525_1 := mHx HB hx525_1
     replace hx525_2 := mHx HB hx525_2
     replace p525 := eq_true p525
     replace q525 := eq_true q525
     have p527 : 0 ≤ (x11_2 : Int) := of_decide_eq_true (by assumption)
     have q527 : x11_2 < (l1.length : Int) := of_decide_eq_true (by assumption)
     obtain ⟨ad527, e527, hx527_0, hx527_1, hx527_2⟩ := at_T48 HR1.out x11_2 p527 q527
     have hw527_2 := hx527_2
     have hw527_1 := hx527_1
     have hw527_0 := hx527_0
     obtain rfl : ad522 = ad527 := (by injection e527)
     replace hx527_0 := mHx HB hx527_0
     replace hx527_1 := mHx HB hx527_1
     replace hx527_2 := mHx HB hx527_2
     replace p527 := eq_true p527
     replace q527 := eq_true q527
     refine start_ (n := 21) (S := fun w' => w'.cell? ⟨gb2, 0, none⟩ = some (.slice A0_0 l0_0.length c0_0) ∧ w'.cell? ⟨gb2, 1, none⟩ = some (.slice A0_1 l0_1.length c0_1) ∧ w'.cell? ⟨gb2, 2, none⟩ = some (.slice A0_2 l0_2.length c0_2) ∧ w'.cell? ⟨gb2, 3, none⟩ = some (.int .i64 a0_3) ∧ w'.cell? ⟨gb3, 0, none⟩ = some (.int .i64 ((rd_T48 l1 a2).f0)) ∧ w'.cell? ⟨gb3, 1, none⟩ = some (.int .i64 x8_1) ∧ w'.cell? ⟨gb3, 2, none⟩ = some (.int .i64 ((rd_T48 l1 a2).f2)) ∧ w'.cell? (ad522.add ((x11_2).toNat * 3)) = some (.int .i64 ((rd_T48 l1 x11_2).f0)) ∧ w'.cell? ⟨(ad522.add ((x11_2).toNat * 3)).block, (ad522.add ((x11_2).toNat * 3)).off + 1, none⟩ = some (.int .i64 ((rd_T48 l1 x11_2).f1)) ∧ w'.cell? ⟨(ad522.add ((x11_2).toNat * 3)).block, (ad522.add ((x11_2).toNat * 3)).off + 2, none⟩ = some (.int .i64 ((rd_T48 l1 x11_2).f2)) ∧ w'.cell? (ad522.add ((x11_2).toNat * 3)) = some (.int .i64 ((rd_T48 l1 x11_2).f0)) ∧ w'.cell? ⟨(ad522.add ((x11_2).toNat * 3)).block, (ad522.add ((x11_2).toNat * 3)).off + 1, none⟩ = some (.int .i64 ((rd_T48 l1 x11_2).f1)) ∧ w'.cell? ⟨(ad522.add ((x11_2).toNat * 3)).block, (ad522.add ((x11_2).toNat * 3)).off + 2, none⟩ = some (.int .i64 ((rd_T48 l1 x11_2).f2))) (ds := []) #[false, false, false, false, false, false, false, false, false, false, false, false, false, false, false, false, false, false, false, false, false] (by kernel_rfl) rfl rfl ⟨(blk_cell BK2.out 0).trans rfl, (blk_cell BK2.out 1).trans rfl, (blk_cell BK2.out 2).trans rfl, (blk_cell BK2.out 3).trans rfl, (blk_cell BK3.out 0).trans rfl, (blk_cell BK3.out 1).trans rfl, (blk_cell BK3.out 2).trans rfl, ((HB.out.cell (World.block_lt_of_cell? w _ hw525_0)).trans hw525_0), ((HB.out.cell (World.block_lt_of_cell? w _ hw525_1)).trans hw525_1), ((HB.out.cell (World.block_lt_of_cell? w _ hw525_2)).trans hw525_2), ((HB.out.cell (World.block_lt_of_cell? w _ hw527_0)).trans hw527_0), ((HB.out.cell (World.block_lt_of_cell? w _ hw527_1)).trans hw527_1), ((HB.out.cell (World.block_lt_of_cell? w _ hw527_2)).trans hw527_2)⟩ (fun hHeld => ?_); refine with_tabW dancestudioref50_roomyOk.tab12 dancestudioref50_roomyOk.bits12 (fun HT_ HW_ => ?_)
     generalize wr.drew = w23 at BK2 BK3 HB hx525_0 hx525_1 hx525_2 hx527_0 hx527_1 hx527_2 hHeld ⊢
     refine pM 0 42 HT_ ?_
     refine pM 1 43 HT_ ?_
     refine pM 4 46 HT_ ?_
     refine pM 5 47 HT_ ?_
     refine pM 6 48 HT_ ?_
     refine tM 2 44 rfl HT_ HW_ (by rintro w' ⟨s0, s1, s2, s3, s4, s5, s6, s7, s8, s9, s10, s11, s12⟩; go_simp; with_reducible rfl) hHeld ?_
     refine tM 3 45 rfl HT_ HW_ (by rintro w' ⟨s0, s1, s2, s3, s4, s5, s6, s7, s8, s9, s10, s11, s12⟩; go_simp; with_reducible rfl) hHeld ?_
     refine tM 7 49 rfl HT_ HW_ (by rintro w' ⟨s0, s1, s2, s3, s4, s5, s6, s7, s8, s9, s10, s11, s12⟩; go_simp; with_reducible rfl) hHeld ?_
     refine one_ (i := 8) (N := some 50) #[true, true, true, true, true, true, true, true, true, false, false, false, false, false, false, false, false, false, false, false, false] rfl rfl (one_of HT_.out (by kernel_rfl)) (by decide) (fun K hK => ?_)
     refine goes_ Try.func38 (by kernel_rfl) rfl #[.agg #[.slice A0_0 l0_0.length c0_0, .slice A0_1 l0_1.length c0_1, .slice A0_2 l0_2.length c0_2, .int .i64 a0_3], .agg #[.int .i64 ((rd_T48 l1 a2).f0), .int .i64 x8_1, .int .i64 ((rd_T48 l1 a2).f2)], .agg #[.int .i64 ((rd_T48 l1 x11_2).f0), .int .i64 ((rd_T48 l1 x11_2).f1), .int .i64 ((rd_T48 l1 x11_2).f2)]] (by rfl) rfl rfl (by (try simp only [List.map_toArray, List.map_cons, List.map_nil]); first | done | rfl | (simp only [List.length_drop, List.length_take]; rfl)) ?_
     with_reducible refine (dancestudioref50_meet.calls _ _ l0_0 _ _ l0_1 _ _ l0_2 a0_3 ((rd_T48 l1 a2).f0) x8_1 ((rd_T48 l1 a2).f2) ((rd_T48 l1 x11_2).f0) ((rd_T48 l1 x11_2).f1) ((rd_T48 l1 x11_2).f2) true _ ?side1 ?side2 ?side3 ?side4 ?side5 ?side6 A21.out).mono ?_
     (case side1 => exact Kd.C_below HR0_0.out HB.out)
     (case side2 => exact HC0_0.out)
     (case side3 => exact Kd.C_below HR0_1.out HB.out)
     (case side4 => exact HC0_1.out)
     (case side5 => exact Kd.C_below HR0_2.out HB.out)
     (case side6 => exact HC0_2.out)
     rintro e w24 ⟨rfl, hb⟩
     refine ⟨_, rfl, ?_⟩
     replace BK2 := mBb BK2 hb; replace BK3 := mBb BK3 hb; replace HB := mSt HB hb
     (try clear hb)
     (try clear hb2)
     (try clear hk)
     (try clear hi)
     refine hK.out _ _ ⟨blk_cell BK2.out 0, blk_cell BK2.out 1, blk_cell BK2.out 2, blk_cell BK2.out 3, blk_cell BK3.out 0, blk_cell BK3.out 1, blk_cell BK3.out 2, ((HB.out.cell (World.block_lt_of_cell? w _ hw525_0)).trans hw525_0), ((HB.out.cell (World.block_lt_of_cell? w _ hw525_1)).trans hw525_1), ((HB.out.cell (World.block_lt_of_cell? w _ hw525_2)).trans hw525_2), ((HB.out.cell (World.block_lt_of_cell? w _ hw527_0)).trans hw527_0), ((HB.out.cell (World.block_lt_of_cell? w _ hw527_1)).trans hw527_1), ((HB.out.cell (World.block_lt_of_cell? w _ hw527_2)).trans hw527_2)⟩ (fun hHeld => ?_)
     clear hK K
     refine norm_ (by show Act.put _ (some 50) _ = _; simp only [mP]; rfl) ?_
     refine pM 9 51 HT_ ?_
     refine pM 10 52 HT_ ?_
     refine pM 11 53 HT_ ?_
     refine pM 12 54 HT_ ?_
     refine pM 13 55 HT_ ?_
     refine pM 14 56 HT_ ?_
     refine pM 16 58 HT_ ?_
     refine tM 15 57 rfl HT_ HW_ (by rintro w' ⟨s0, s1, s2, s3, s4, s5, s6, s7, s8, s9, s10, s11, s12⟩; go_simp; with_reducible rfl) hHeld ?_
     refine pM 17 59 HT_ ?_
     refine pM 18 60 HT_ ?_
     refine pM 19 61 HT_ ?_
     refine pM 20 10 HT_ ?_
     refine done_ (done_of HT_.out (by kernel_rfl)) ?_
     try go_wp2
     go_roundg k2
     case measure => have := HK1.out; have := HK2.out; omega
     case rel => exact ⟨((((rd_T48 l1 x11_2).f1) != x8_1)), (wrap64 (x11_2 + 1)), rfl, rfl, H', ⟨by have := HK1.out; have := HK2.out; omega⟩, ⟨BK2.out⟩, ⟨BK3.out⟩, ⟨HB.out⟩⟩
end Go.Proofs.Ytjppjppapdflmaa.PAll
