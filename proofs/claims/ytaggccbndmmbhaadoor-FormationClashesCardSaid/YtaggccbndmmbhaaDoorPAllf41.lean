-- Written by wip/tools/handprint.py: walks of the functions that the law reaches; Lean checks them.
import Derived.Test.YtaggccbndmmbhaaDoorBase
import Derived.Test.YtaggccbndmmbhaaDoorPAllf11
namespace Go.Proofs.YtaggccbndmmbhaaDoor.PAll
open Go.RowKit Go.Proofs.YtaggccbndmmbhaaDoorW.PrintWords Go.Proofs.YtaggccbndmmbhaaDoorW.PrintLast Go.Proofs.YtaggccbndmmbhaaDoorW.PrintMore
attribute [local go_sem] max2_int min2_int max_two min_two max_three min_three max_four min_four   -- for this text's walks alone
set_option linter.unusedVariables false
set_option linter.unusedSimpArgs false

/-! ### formation_changed: function 41 -/
def formation_changed.l0 : Nat → List (S52) → Int → Int → ByteArray → List (S52) → Option (ByteArray × (List (S52)) × Int)
 | 0, _, _, _, _, _ => none
 | k + 1, x20, x21, x22, x359000, x359001 => if x22 < x21 then (if 0 ≤ x22 then (if x22 < (x20.length : Int) then ((formation_Mirror_fn1.f ((rd_T52 x20 x22).f0) ((rd_T52 x20 x22).f1)).bind fun bt361 => (if x359001.length < 8796093022208 then (formation_changed.l0 k x20 x21 (wrap64 (x22 + 1)) x359000 (x359001 ++ [(⟨bt361.1, bt361.2⟩ : S52)])) else (none))) else (none)) else (none)) else (some (x359000, x359001, 0))
def formation_changed.f (k : Nat) (a0_0 : ByteArray) (l0_1 : List (S52)) : Option (ByteArray × (List (S52)) × Int) := (formation_Check.f k a0_0 l0_1).bind fun t357 => (if t357 = 0 then (formation_changed.l0 k l0_1 (l0_1.length : Int) 0 a0_0 ([] : List (S52))) else (some ((⟨#[]⟩ : ByteArray), ([] : List (S52)), t357)))
def formation_changed.T8 : Bool × List (List Nat × List Nat) := (true, [([], []), ([0], [0]), ([], []), ([], []), ([2, 3], [2, 3]), ([4], [4]), ([1, 5, 4], [1, 5]), ([0, 1, 2, 3, 4, 5, 6], []), ([7, 6, 6, 0, 1, 2, 3, 4, 5, 6], [6, 7])])
def formation_changed.B8 : List Nat := [0, 1, 0, 0, 12, 28, 63, 127, 255]
theorem formation_changed.tab8 : rtab .any (opsOf Tryd.f41 8) = formation_changed.T8 := by kernel_rfl
theorem formation_changed.bits8 : waitsOk formation_changed.T8.2 formation_changed.B8 = true := by kernel_rfl
/-- A call of a function value, in a region that draws its order. -/
theorem formation_changed.goesV {P : Program} {ops : Array Oper} {Q : Exit → Act → World → Prop} {oi : Oper} {N : Option Tmp} {a : Act} {w : World} {K : Act → World → Prop} {f : FuncId} {fn : Func} {ar : Array Operand} {s : Operand} {ts : Array TypeId} (hf : P.funcs[f]? = some fn) (hname : (fn.name == "runtime.NumGoroutine") = false) (hb : fn.body.isSome = true) (args cap : Array Value)
  (hw : Region.wanted oi (yielded ops a.tmps) = true) (hN : oi.dst = N) (hop : oi.op = .call { callee := .value s, args := ar, argTypes := ts }) (hs : a.eval s = .func (.func f) #[] cap) (hargs : ar.map a.eval ++ cap = args)
  (h : Calls P f args w fun e w' => ∃ v, e = .returned v ∧ K (a.put N v) w') : if Region.wanted oi (yielded ops a.tmps) = true then Oper.wp P oi a w K Q else K (a.put N undef) w := by
 refine call_ f args hw hN ?_ h
 have he := enters_ hf hname hb args w
 unfold execOp
 simp [hop, resolve, Deferred.ofValue, invoke, hs, hargs, he]
set_option maxHeartbeats 8000000 in
set_option maxRecDepth 100000 in
theorem formation_changed.calls (k : Nat) (a0_0 : ByteArray) (A0_1 : Option Addr) (c0_1 : Nat) (l0_1 : List (S52)) (r1 : ByteArray) (r2 : List (S52)) (r3 : Int) (w : World) (hr0_1 : Kd.C k52 w A0_1 l0_1.length l0_1) (hc0_1 : l0_1.length ≤ c0_1) (hmx : Mx w) (h : formation_changed.f k a0_0 l0_1 = some (r1, r2, r3)) :
  Calls Tryd.prog 41 #[.agg #[.string a0_0, .slice A0_1 l0_1.length c0_1], .func (.func 42) #[] #[]] w fun e w' => ∃ v1_ : Value, e = .returned (.tuple #[.agg #[.string r1, v1_], .int .i64 r3]) ∧ Kd.R k52 52 w' w.heap.size (fun _ => True) v1_ r2 ∧ Below w.heap.size w w' := by
 have HMX_ := Aside0.mk hmx
 clear hmx
 have hu24 := Tryd.underlying24
 have hu52 := Tryd.underlying52
 have HR0_1 := Aside0.mk hr0_1
 have HC0_1 := Aside0.mk hc0_1
 clear hr0_1 hc0_1
 have HB := Aside0.mk (Below.refl w.heap.size w)
 have H := h
 unfold formation_changed.f at H
 clear h
 replace H := Option.bind_eq_some_iff.mp H
 obtain ⟨t357, A20, H⟩ := H
 try dsimp only at H
 have A2 := Aside0.mk A20
 clear A20
 by_cases c3 : t357 = 0
 rotate_left
 ·
  rw [if_neg c3] at H
  have c3b0 := beq_eq_false_iff_ne.mpr c3
  have c3b1 := bne_iff_ne.mpr c3
  simp only [Option.some.injEq, Prod.mk.injEq] at H
  obtain ⟨rfl, rfl, rfl⟩ := H
  go_enter Tryd.func41, Tryd.ntmps41
  go_wp2_with (first | ((with_reducible refine gate_dst (N := 2) rfl ?_); refine box_event rfl (N := 2) rfl (cs := #[.string a0_0, .slice A0_1 l0_1.length c0_1]) (t := 24) (by first | (go_simp; done) | (go_simp; rfl)) ?_; intro gb1 hg w37 hbox hb; have BK1 := Aside0.mk hbox; have GW1 := mGw HB hg; have GE1 := GW1; replace HB := mSt HB hb; clear hb hbox hg) | ((with_reducible refine gate_dst (N := 4) rfl ?_); refine box_event rfl (N := 4) rfl (cs := #[.string (⟨#[]⟩ : ByteArray), .slice none 0 0]) (t := 24) (by first | (go_simp; done) | (go_simp; rfl)) ?_; intro gb2 hg w38 hbox hb; have BK2 := Aside0.mk hbox; have GW2 := mGw HB hg; have GE2 := GW2; replace HB := mSt HB hb; have NB1_2 := mNe BK1 hg; have NB2_1 := mSy NB1_2; replace BK1 := mBb BK1 hb; clear hb hbox hg; have hnb39 := NB1_2.out; have hnc39 := NB2_1.out; have hcz40 := blk_cell BK1.out; have hfz40 := blk_frozen BK1.out) | ((with_reducible refine gate_callee (f := 11) rfl ?_); refine goesL_ (some 11) rfl rfl Tryd.func11 (by kernel_rfl) rfl #[.agg #[.string a0_0, .slice A0_1 l0_1.length c0_1]] rfl (mA1 rfl) ?_; (with_reducible refine (formation_Check.calls k a0_0 _ _ l0_1 t357 _ (Kd.C_below HR0_1.out HB.out) HC0_1.out (Mx.below HMX_.out HB.out) A2.out).mono ?_); rintro e w41 ⟨rfl, hb⟩; refine ⟨_, rfl, ?_⟩; replace BK1 := mBb BK1 hb; replace BK2 := mBb BK2 hb; replace HB := mSt HB hb; (try clear hb); have hcz42 := blk_cell BK2.out; have hfz42 := blk_frozen BK2.out))
  refine bodyPost_ret (results_ct rfl _ _ gb2 24 #[.string (⟨#[]⟩ : ByteArray), .slice none 0 0] (0, 0) _ rfl (by refine blk_put (cs := #[.string (⟨#[]⟩ : ByteArray), .slice none 0 0]) ?_ 1 _ rfl; refine blk_put (cs := #[.string (⟨#[]⟩ : ByteArray), .slice none 0 0]) ?_ 0 _ rfl; exact BK2.out) Tryd.underlying24 rfl (by kernel_rfl)) rfl ?_
  exact ⟨_, rfl, by first | exact Kd.R_nil _ _ _ _ _ | exact Kd.N_nil _ _ _ _ _ | exact Kd.V_nil _ _ _ _ _ | exact Kd.Q_nil _ _ _ _ _ | exact Kd.S_nil _ _ _ _ _, hO HB⟩
 rw [if_pos c3] at H
 have c3b0 := beq_iff_eq.mpr c3
 have c3b1 := bne_eq_false_iff_eq.mpr c3
 clear c3
 have H' := Aside0.mk H
 clear H
 go_enter Tryd.func41, Tryd.ntmps41
 go_wp2_with (first | ((with_reducible refine gate_dst (N := 2) rfl ?_); refine box_event rfl (N := 2) rfl (cs := #[.string a0_0, .slice A0_1 l0_1.length c0_1]) (t := 24) (by first | (go_simp; done) | (go_simp; rfl)) ?_; intro gb1 hg w4 hbox hb; have BK1 := Aside0.mk hbox; have GW1 := mGw HB hg; have GE1 := GW1; replace HB := mSt HB hb; clear hb hbox hg) | ((with_reducible refine gate_dst (N := 4) rfl ?_); refine box_event rfl (N := 4) rfl (cs := #[.string (⟨#[]⟩ : ByteArray), .slice none 0 0]) (t := 24) (by first | (go_simp; done) | (go_simp; rfl)) ?_; intro gb2 hg w5 hbox hb; have BK2 := Aside0.mk hbox; have GW2 := mGw HB hg; have GE2 := GW2; replace HB := mSt HB hb; have NB1_2 := mNe BK1 hg; have NB2_1 := mSy NB1_2; replace BK1 := mBb BK1 hb; clear hb hbox hg; have hnb6 := NB1_2.out; have hnc6 := NB2_1.out; have hcz7 := blk_cell BK1.out; have hfz7 := blk_frozen BK1.out) | ((with_reducible refine gate_callee (f := 11) rfl ?_); refine goesL_ (some 11) rfl rfl Tryd.func11 (by kernel_rfl) rfl #[.agg #[.string a0_0, .slice A0_1 l0_1.length c0_1]] rfl (mA1 rfl) ?_; (with_reducible refine (formation_Check.calls k a0_0 _ _ l0_1 t357 _ (Kd.C_below HR0_1.out HB.out) HC0_1.out (Mx.below HMX_.out HB.out) A2.out).mono ?_); rintro e w8 ⟨rfl, hb⟩; refine ⟨_, rfl, ?_⟩; replace BK1 := mBb BK1 hb; replace BK2 := mBb BK2 hb; replace HB := mSt HB hb; (try clear hb); have hcz9 := blk_cell BK1.out; have hfz9 := blk_frozen BK1.out) | ((with_reducible refine gate_dst (N := 7) rfl ?_); refine box_event rfl (N := 7) rfl (cs := #[.string (⟨#[]⟩ : ByteArray), .slice none 0 0]) (t := 24) (by first | (go_simp; done) | (go_simp; rfl)) ?_; intro gb3 hg w10 hbox hb; have BK3 := Aside0.mk hbox; have GW3 := mGw HB hg; have GE3 := GW3; replace HB := mSt HB hb; have NB1_3 := mNe BK1 hg; have NB3_1 := mSy NB1_3; replace BK1 := mBb BK1 hb; have NB2_3 := mNe BK2 hg; have NB3_2 := mSy NB2_3; replace BK2 := mBb BK2 hb; clear hb hbox hg; have hnb11 := NB3_1.out; have hnc11 := NB1_3.out; have hnb12 := NB3_2.out; have hnc12 := NB2_3.out; have hcz13 := blk_cell BK3.out; have hfz13 := blk_frozen BK3.out; have hcz14 := blk_cell BK1.out; have hfz14 := blk_frozen BK1.out))
 go_loopg [22] k (fun kq v22 w' => ∃ (x22_1 : Int) (x359001_1 : List (S52)) (u359001 : Value), v22 = .int .i64 x22_1 ∧ Aside0 (formation_changed.l0 kq l0_1 (l0_1.length : Int) x22_1 a0_0 x359001_1 = some (r1, r2, r3)) ∧ Aside0 (kq ≤ k) ∧ Aside0 (Kd.R k52 52 w' w.heap.size (fun _ => True) u359001 x359001_1) ∧ Aside0 (w'.heap[gb1]? = some (.cells #[.string a0_0, (.slice A0_1 l0_1.length c0_1)] 24 (0, 0))) ∧ Aside0 (w'.heap[gb2]? = some (.cells #[.string (⟨#[]⟩ : ByteArray), (.slice none 0 0)] 24 (0, 0))) ∧ Aside0 (w'.heap[gb3]? = some (.cells #[.string a0_0, u359001] 24 (0, 0))) ∧ Aside0 (Below w.heap.size w w'))
 case atStart => exact ⟨(0), (([] : List (S52))), (.slice none 0 0), rfl, H', ⟨Nat.le_refl _⟩, ⟨by first | exact Kd.R_nil _ _ _ _ _ | exact Kd.N_nil _ _ _ _ _ | exact Kd.V_nil _ _ _ _ _ | exact Kd.Q_nil _ _ _ _ _ | exact Kd.S_nil _ _ _ _ _⟩, ⟨by refine blk_far ?_ NB1_3.out _; refine blk_far ?_ NB1_3.out _; exact BK1.out⟩, ⟨by refine blk_far ?_ NB2_3.out _; refine blk_far ?_ NB2_3.out _; exact BK2.out⟩, ⟨by refine blk_put (cs := #[.string a0_0, .slice none 0 0]) ?_ 1 _ rfl; refine blk_put (cs := #[.string (⟨#[]⟩ : ByteArray), .slice none 0 0]) ?_ 0 _ rfl; exact BK3.out⟩, ⟨hO HB⟩⟩
 case round =>
  clear H'
  clear c3b0 c3b1
  obtain ⟨x22_1, x359001_1, u359001, rfl, HA, HK1, HO_359001, BK1, BK2, BK3, HB⟩ := hrel
  cases gk with
  | zero => exact absurd HA.out (by simp [formation_changed.l0])
  | succ k1 =>
   have H := HA.out
   clear HA
   simp only [formation_changed.l0] at H
   by_cases c15 : x22_1 < (l0_1.length : Int)
   rotate_left
   ·
    rw [if_neg c15] at H
    have c15b0 := decide_eq_false c15
    clear c15
    simp only [Option.some.injEq, Prod.mk.injEq] at H
    obtain ⟨rfl, rfl, rfl⟩ := H
    have hnb31 := NB3_1.out
    have hnc31 := NB1_3.out
    have hnb32 := NB3_2.out
    have hnc32 := NB2_3.out
    have hcz33 := blk_cell BK3.out; have hfz33 := blk_frozen BK3.out
    have hnb34 := NB2_1.out
    have hnc34 := NB1_2.out
    have hcz35 := blk_cell BK2.out; have hfz35 := blk_frozen BK2.out
    obtain ⟨Ao36, co36, eo36⟩ := Kd.R_slice HO_359001.out
    subst eo36
    go_wp2
    refine bodyPost_ret (results_ct rfl _ _ gb2 24 #[.string a0_0, .slice Ao36 x359001_1.length co36] (0, 0) _ rfl (by refine blk_put (cs := #[.string a0_0, .slice none 0 0]) ?_ 1 _ rfl; refine blk_put (cs := #[.string (⟨#[]⟩ : ByteArray), .slice none 0 0]) ?_ 0 _ rfl; exact BK2.out) Tryd.underlying24 rfl (by kernel_rfl)) rfl ?_
    exact ⟨_, rfl, by exact Kd.R_mono (Kd.R_far (p := ⟨gb2, 1, none⟩) (Kd.R_far (p := ⟨gb2, 0, none⟩) (Kd.R_types HO_359001.out BK2.out (by decide)) (fun _ hk => hk.2) (.string a0_0)) (fun _ hk => hk.2) (.slice Ao36 x359001_1.length co36)) (fun _ hk => trivial), hO HB⟩
   rw [if_pos c15] at H
   have c15b0 := decide_eq_true c15
   clear c15
   obtain ⟨c16, H⟩ : (0 ≤ x22_1) ∧ _ := mIf H
   have c16b0 := decide_eq_true c16
   clear c16
   obtain ⟨c17, H⟩ : (x22_1 < (l0_1.length : Int)) ∧ _ := mIf H
   have c17b0 := decide_eq_true c17
   clear c17
   replace H := Option.bind_eq_some_iff.mp H
   obtain ⟨⟨t361, t362⟩, A180, H⟩ := H
   try dsimp only at H
   have A18 := Aside0.mk A180
   clear A180
   obtain ⟨c19, H⟩ : (x359001_1.length < 8796093022208) ∧ _ := mIf H
   have LMc19 := Aside0.mk c19
   clear c19
   obtain ⟨y363, hy363⟩ : ∃ y_ : List (S52), y_ = (x359001_1 ++ [(⟨t361, t362⟩ : S52)]) := ⟨_, rfl⟩
   rw [← hy363] at H
   have Ny363 := Aside0.mk hy363
   clear hy363
   have H' := Aside0.mk H
   clear H
   have p359 : 0 ≤ (x22_1 : Int) := of_decide_eq_true (by assumption)
   have q359 : x22_1 < (l0_1.length : Int) := of_decide_eq_true (by assumption)
   obtain ⟨ad359, e359, hx359_0, hx359_1⟩ := at_T52 HR0_1.out x22_1 p359 q359
   cases e359
   replace hx359_0 := mHx HB hx359_0
   replace hx359_1 := mHx HB hx359_1
   replace p359 := eq_true p359
   replace q359 := eq_true q359
   try go_wp2_with (first | ((with_reducible refine gate_dst (N := 9) rfl ?_); refine box_event rfl (N := 9) rfl (cs := #[.int .i64 0, .int .i64 0]) (t := 52) (by first | (go_simp; done) | (go_simp; rfl)) ?_; intro gb4 hg w20 hbox hb; replace HO_359001 := Aside0.mk (Kd.R_below (Kd.R_elderB HO_359001.out gb4 (Nat.le_of_eq hg.symm)) hb); have BK4 := Aside0.mk hbox; have GW4 := mGw HB hg; have GE4 := GW4; replace HB := mSt HB hb; have NB1_4 := mNe BK1 hg; have NB4_1 := mSy NB1_4; replace BK1 := mBb BK1 hb; have NB2_4 := mNe BK2 hg; have NB4_2 := mSy NB2_4; replace BK2 := mBb BK2 hb; have NB3_4 := mNe BK3 hg; have NB4_3 := mSy NB3_4; replace BK3 := mBb BK3 hb; clear hb hbox hg; have hnb21 := NB4_1.out; have hnc21 := NB1_4.out; have hnb22 := NB4_2.out; have hnc22 := NB2_4.out; have hnb23 := NB4_3.out; have hnc23 := NB3_4.out; have hcz24 := blk_cell BK4.out; have hfz24 := blk_frozen BK4.out))
   have n0_ : Aside0 (Kd.R k52 52 ((w20.setCell ⟨gb4, 0, none⟩ (.int .i64 ((rd_T52 l0_1 x22_1).f0))).setCell ⟨gb4, 1, none⟩ (.int .i64 ((rd_T52 l0_1 x22_1).f1))) w.heap.size (fun k_ => k_ ≠ gb4) u359001 x359001_1) := ⟨Kd.R_mono (Kd.R_far (p := ⟨gb4, 1, none⟩) (Kd.R_far (p := ⟨gb4, 0, none⟩) (Kd.R_mono HO_359001.out (fun k_ hk => (⟨hk, hk.2⟩ : _ ∧ k_ ≠ gb4))) (fun _ hk => hk.2) (.int .i64 ((rd_T52 l0_1 x22_1).f0))) (fun _ hk => hk.2) (.int .i64 ((rd_T52 l0_1 x22_1).f1))) (fun _ hk => hk.1.2)⟩
   have n1_ : Aside0 (((w20.setCell ⟨gb4, 0, none⟩ (.int .i64 ((rd_T52 l0_1 x22_1).f0))).setCell ⟨gb4, 1, none⟩ (.int .i64 ((rd_T52 l0_1 x22_1).f1))).heap[gb1]? = some (.cells #[.string a0_0, .slice (some ad359) l0_1.length c0_1] 24 (0, 0))) := ⟨by refine blk_far ?_ NB1_4.out _; refine blk_far ?_ NB1_4.out _; exact BK1.out⟩
   have n2_ : Aside0 (((w20.setCell ⟨gb4, 0, none⟩ (.int .i64 ((rd_T52 l0_1 x22_1).f0))).setCell ⟨gb4, 1, none⟩ (.int .i64 ((rd_T52 l0_1 x22_1).f1))).heap[gb2]? = some (.cells #[.string (⟨#[]⟩ : ByteArray), .slice none 0 0] 24 (0, 0))) := ⟨by refine blk_far ?_ NB2_4.out _; refine blk_far ?_ NB2_4.out _; exact BK2.out⟩
   have n3_ : Aside0 (((w20.setCell ⟨gb4, 0, none⟩ (.int .i64 ((rd_T52 l0_1 x22_1).f0))).setCell ⟨gb4, 1, none⟩ (.int .i64 ((rd_T52 l0_1 x22_1).f1))).heap[gb3]? = some (.cells #[.string a0_0, u359001] 24 (0, 0))) := ⟨by refine blk_far ?_ NB3_4.out _; refine blk_far ?_ NB3_4.out _; exact BK3.out⟩
   have n4_ : Aside0 (((w20.setCell ⟨gb4, 0, none⟩ (.int .i64 ((rd_T52 l0_1 x22_1).f0))).setCell ⟨gb4, 1, none⟩ (.int .i64 ((rd_T52 l0_1 x22_1).f1))).heap[gb4]? = some (.cells #[.int .i64 ((rd_T52 l0_1 x22_1).f0), .int .i64 ((rd_T52 l0_1 x22_1).f1)] 52 (0, 0))) := ⟨by refine blk_put (cs := #[.int .i64 ((rd_T52 l0_1 x22_1).f0), .int .i64 0]) ?_ 1 _ rfl; refine blk_put (cs := #[.int .i64 0, .int .i64 0]) ?_ 0 _ rfl; exact BK4.out⟩
   have n5_ : Aside0 (Below w.heap.size w ((w20.setCell ⟨gb4, 0, none⟩ (.int .i64 ((rd_T52 l0_1 x22_1).f0))).setCell ⟨gb4, 1, none⟩ (.int .i64 ((rd_T52 l0_1 x22_1).f1)))) := ⟨hO HB⟩
   (try clear HO_359001)
   (try clear BK1)
   (try clear BK2)
   (try clear BK3)
   (try clear BK4)
   (try clear HB)
   generalize ((w20.setCell ⟨gb4, 0, none⟩ (.int .i64 ((rd_T52 l0_1 x22_1).f0))).setCell ⟨gb4, 1, none⟩ (.int .i64 ((rd_T52 l0_1 x22_1).f1))) = w25 at n0_ n1_ n2_ n3_ n4_ n5_ ⊢
   have HO_359001 := n0_
   have BK1 := n1_
   have BK2 := n2_
   have BK3 := n3_
   have BK4 := n4_
   have HB := n5_
   clear n0_ n1_ n2_ n3_ n4_ n5_
   replace HO_359001 := Aside0.mk (Kd.R_drew HO_359001.out); replace BK1 := Aside0.mk (blk_drew BK1.out); replace BK2 := Aside0.mk (blk_drew BK2.out); replace BK3 := Aside0.mk (blk_drew BK3.out); replace BK4 := Aside0.mk (blk_drew BK4.out); replace HB := Aside0.mk (below_drew1 HB.out)
   refine start_ (n := 9) (S := fun w' => w'.cell? ⟨gb3, 0, none⟩ = some (.string a0_0) ∧ w'.cell? ⟨gb3, 1, none⟩ = some (u359001) ∧ w'.cell? ⟨gb4, 0, none⟩ = some (.int .i64 ((rd_T52 l0_1 x22_1).f0)) ∧ w'.cell? ⟨gb4, 1, none⟩ = some (.int .i64 ((rd_T52 l0_1 x22_1).f1))) (ds := [8]) #[false, false, false, false, false, false, false, false, false] (by kernel_rfl) rfl rfl ⟨(blk_cell BK3.out 0).trans rfl, (blk_cell BK3.out 1).trans rfl, (blk_cell BK4.out 0).trans rfl, (blk_cell BK4.out 1).trans rfl⟩ (fun hHeld => ?_); refine with_tabW formation_changed.tab8 formation_changed.bits8 (fun HT_ HW_ => ?_)
   generalize w25.drew = w26 at HO_359001 BK1 BK2 BK3 BK4 HB hHeld ⊢
   refine pM 0 26 HT_ ?_
   refine pM 2 28 HT_ ?_
   refine tM 1 27 rfl HT_ HW_ (by rintro w' ⟨s0, s1, s2, s3⟩; go_simp; with_reducible rfl) hHeld ?_
   refine tM 3 29 rfl HT_ HW_ (by rintro w' ⟨s0, s1, s2, s3⟩; go_simp; with_reducible rfl) hHeld ?_
   refine one_ (i := 4) (N := some 30) #[true, true, true, true, true, false, false, false, false] rfl rfl (one_of HT_.out (by kernel_rfl)) (by decide) (fun K hK => ?_)
   refine formation_changed.goesV Tryd.func42 (by kernel_rfl) rfl #[.agg #[.int .i64 ((rd_T52 l0_1 x22_1).f0), .int .i64 ((rd_T52 l0_1 x22_1).f1)]] #[] (by rfl) rfl rfl (by first | rfl | (go_simp; rfl)) (by (try simp only [List.map_toArray, List.map_cons, List.map_nil]); first | done | rfl | (simp only [List.length_drop, List.length_take]; rfl)) ?_
   with_reducible refine (formation_Mirror_fn1.calls ((rd_T52 l0_1 x22_1).f0) ((rd_T52 l0_1 x22_1).f1) t361 t362 _ A18.out).mono ?_
   rintro e w27 ⟨rfl, hb⟩
   refine ⟨_, rfl, ?_⟩
   replace HO_359001 := Aside0.mk (Kd.R_below HO_359001.out hb); replace BK1 := mBb BK1 hb; replace BK2 := mBb BK2 hb; replace BK3 := mBb BK3 hb; replace BK4 := mBb BK4 hb; replace HB := mSt HB hb
   (try clear hb)
   (try clear hb2)
   (try clear hk)
   (try clear hi)
   refine hK.out _ _ ⟨blk_cell BK3.out 0, blk_cell BK3.out 1, blk_cell BK4.out 0, blk_cell BK4.out 1⟩ (fun hHeld => ?_)
   clear hK K
   refine norm_ (by show Act.put _ (some 30) _ = _; simp only [mP]; rfl) ?_
   refine one_ (i := 5) (N := some 31) #[true, true, true, true, true, true, false, false, false] rfl rfl (one_of HT_.out (by kernel_rfl)) (by decide) (fun K hK => ?_)
   refine value_ (w1 := ?_) (v := ?_) (by rfl) rfl ?_ ?_
   rotate_left 2
   ·
    go_simp
    constructor
    ·
     rfl
    ·
     rfl
   refine hK.out _ _ ⟨(blk_cell (blk_alloc BK3.out _) 0).trans rfl, (blk_cell (blk_alloc BK3.out _) 1).trans rfl, (blk_cell (blk_alloc BK4.out _) 0).trans rfl, (blk_cell (blk_alloc BK4.out _) 1).trans rfl⟩ (fun hHeld => ?_)
   clear hK K
   refine norm_ (by show Act.put _ (some 31) _ = _; simp only [mP]; rfl) ?_
   refine one_ (i := 6) (N := some 32) #[true, true, true, true, true, true, true, false, false] rfl rfl (one_of HT_.out (by kernel_rfl)) (by decide) (fun K hK => ?_)
   refine Kd.R_append_step k52 (w0 := w) w.heap.size (by rfl) (.tmp 27) (.tmp 31) 22 52 (.agg #[(.int .i64 0), (.int .i64 0)]) 16 rfl Tryd.underlying22 info52 rfl (by decide) (by omega) u359001 x359001_1 (⟨t361, t362⟩ : S52) [.int .i64 t361, .int .i64 t362] (fun k_ => k_ ≠ gb4) (fun _ => False) rfl rfl ?aP (fun _ hk => hk.elim) ?aF ?aO ?aB ?aS ?aL ?_
   (case aP => exact k52_mkM _ _ _ (⟨t361, t362⟩ : S52))
   (case aB => exact HB.out)
   (case aF => exact (fun k_ hk => Kd.freshB (g := gb4) (o := .cells #[.int .i64 ((rd_T52 l0_1 x22_1).f0), .int .i64 ((rd_T52 l0_1 x22_1).f1)] 52 (0, 0)) BK4.out k_ hk))
   (case aO => exact HO_359001.out)
   (case aS => exact (below_size HB.out))
   (case aL => have := LMc19.out; omega)
   intro v364 w28 ho hb hg hat
   rw [← Ny363.out] at ho
   replace BK1 := Aside0.mk (blk_grown (g := gb1) (o := .cells #[.string a0_0, .slice (some ad359) l0_1.length c0_1] 24 (0, 0)) BK1.out hg (Kd.R_ne HO_359001.out BK1.out (by decide))); replace BK2 := Aside0.mk (blk_grown (g := gb2) (o := .cells #[.string (⟨#[]⟩ : ByteArray), .slice none 0 0] 24 (0, 0)) BK2.out hg (Kd.R_ne HO_359001.out BK2.out (by decide))); replace BK3 := Aside0.mk (blk_grown (g := gb3) (o := .cells #[.string a0_0, u359001] 24 (0, 0)) BK3.out hg (Kd.R_ne HO_359001.out BK3.out (by decide))); replace BK4 := Aside0.mk (blk_grown (g := gb4) (o := .cells #[.int .i64 ((rd_T52 l0_1 x22_1).f0), .int .i64 ((rd_T52 l0_1 x22_1).f1)] 52 (0, 0)) BK4.out hg (Kd.R_away HO_359001.out (fun _ hk => hk))); replace HB := Aside0.mk hb; have HO365 := Aside0.mk ho; clear HO_359001
   clear ho hb hg hat
   obtain ⟨Ao29, co29, eo29⟩ := Kd.R_slice HO365.out
   subst eo29
   refine hK.out _ _ ⟨blk_cell BK3.out 0, blk_cell BK3.out 1, blk_cell BK4.out 0, blk_cell BK4.out 1⟩ (fun hHeld => ?_)
   clear hK K
   refine norm_ (by show Act.put _ (some 32) _ = _; simp only [mP]; rfl) ?_
   refine pM 7 33 HT_ ?_
   refine last_ (i := 8) (N := none) #[true, true, true, true, true, true, true, true, true] rfl rfl (one_of HT_.out (by kernel_rfl)) (by decide) (fun K hK => ?_)
   have hs30 : w28.cell? ⟨gb3, 1, none⟩ = some (u359001) := (blk_cell BK3.out 1).trans rfl
   have hfs30 := blk_frozen BK3.out 1
   have hns30_0 := NB1_3.out
   have hns30_1 := NB2_3.out
   have hns30_3 := NB4_3.out
   have hms30_0 := NB3_1.out
   have hms30_1 := NB3_2.out
   have hms30_3 := NB3_4.out
   refine skip_ (w1 := ?_) (by rfl) rfl ?_ ?_
   rotate_left
   ·
    go_simp
    rfl
   refine hK.out _ _ ?_
   clear hK K
   refine done_ (done_of HT_.out (by kernel_rfl)) ?_
   try go_wp2
   go_roundg k1
   case measure => have := HK1.out; omega
   case rel => exact ⟨(wrap64 (x22_1 + 1)), (y363), (.slice Ao29 y363.length co29), rfl, H', ⟨by have := HK1.out; omega⟩, ⟨Kd.R_mono (Kd.R_far (p := ⟨gb3, 1, none⟩) (Kd.R_types HO365.out BK3.out (by decide)) (fun _ hk => hk.2) (.slice Ao29 y363.length co29)) (fun _ hk => trivial)⟩, ⟨by refine blk_far ?_ NB1_3.out _; exact BK1.out⟩, ⟨by refine blk_far ?_ NB2_3.out _; exact BK2.out⟩, ⟨by refine blk_put (cs := #[.string a0_0, u359001]) ?_ 1 _ rfl; exact BK3.out⟩, ⟨hO HB⟩⟩
end Go.Proofs.YtaggccbndmmbhaaDoor.PAll
