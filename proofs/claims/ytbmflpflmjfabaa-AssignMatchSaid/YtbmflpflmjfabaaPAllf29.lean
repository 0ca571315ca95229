-- Written by wip/tools/handprint.py: walks of the functions that the law reaches; Lean checks them.
import Derived.Test.YtbmflpflmjfabaaPAllx0
import Derived.Test.YtbmflpflmjfabaaMini
import Derived.Test.YtbmflpflmjfabaaPAllf30
import Derived.Test.YtbmflpflmjfabaaPAllf33
namespace Go.Proofs.Ytbmflpflmjfabaa.PAll
open Go.RowKit Go.Proofs.YtbmflpflmjfabaaW.PrintWords Go.Proofs.YtbmflpflmjfabaaW.PrintLast Go.Proofs.YtbmflpflmjfabaaW.PrintMore
attribute [local go_sem] max2_int min2_int max_two min_two max_three min_three max_four min_four   -- for this text's walks alone
set_option linter.unusedVariables false
set_option linter.unusedSimpArgs false

/-! ### match_greatest: function 29 -/
mutual
def match_greatest.l0 : Nat → Int → Int → Int → List (List Bool) → List Bool → List Int → Option (List Int × Int)
 | 0, _, _, _, _, _, _ => none
 | k + 1, x1, x18, x19, x502000, x503000, x508000 => if x19 < x18 then (if 0 ≤ x19 then (if x19 < (x508000.length : Int) then (match_greatest.l0 k x1 x18 (wrap64 (x19 + 1)) x502000 x503000 (x508000.set (x19 : Int).toNat (-1))) else (none)) else (none)) else (match_greatest.l1 k 0 x1 x502000 x503000 x508000)
def match_greatest.l1 : Nat → Int → Int → List (List Bool) → List Bool → List Int → Option (List Int × Int)
 | 0, _, _, _, _, _ => none
 | k + 1, x12, x13, x502000, x503000, x508000 => if x13 < (x502000.length : Int) then (if 0 ≤ (x508000.length : Int) then (if ((x508000.length : Int) : Int).toNat ≤ 281474976710656 then ((match_greatest_fn1.f k x13 x502000 x503000 (List.replicate ((x508000.length : Int) : Int).toNat false) x508000).bind fun bt514 => (if bt514.1 = true then (match_greatest.l1 k (wrap64 (x12 + 1)) (wrap64 (x13 + 1)) x502000 x503000 bt514.2.2) else (match_greatest.l1 k x12 (wrap64 (x13 + 1)) x502000 x503000 bt514.2.2))) else (none)) else (none)) else (some (x508000, x12))
end
def match_greatest.f (k : Nat) (l0 : List (List Bool)) (a1 : Int) (l2 : List Bool) : Option (List Int × Int) := (match_columns.f l0).bind fun t503 => (if 0 ≤ t503 then (if (t503 : Int).toNat ≤ 35184372088832 then ((some (List.replicate (t503 : Int).toNat 0 : List Int)).bind fun y504 => (match_greatest.l0 k a1 (y504.length : Int) 0 l0 l2 y504)) else (none)) else (none))
theorem match_greatest.mono_l : ∀ k, (∀ y0 y1 y2 y3 y4 y5, LeO (match_greatest.l0 k y0 y1 y2 y3 y4 y5) (match_greatest.l0 (k + 1) y0 y1 y2 y3 y4 y5)) ∧ (∀ y0 y1 y2 y3 y4, LeO (match_greatest.l1 k y0 y1 y2 y3 y4) (match_greatest.l1 (k + 1) y0 y1 y2 y3 y4))
 | 0 => ⟨fun _ _ _ _ _ _ r h => by simp [match_greatest.l0] at h, fun _ _ _ _ _ r h => by simp [match_greatest.l1] at h⟩
 | k + 1 => by
  obtain ⟨ih0, ih1⟩ := match_greatest.mono_l k
  refine ⟨?_, ?_⟩
  ·
   intro y0 y1 y2 y3 y4 y5
   unfold match_greatest.l0
   repeat' first
   | (with_reducible exact ih0 _ _ _ _ _ _)
   | (with_reducible exact ih1 _ _ _ _ _)
   | (with_reducible exact match_greatest_fn1.mono _ _ _ _ _ _)
   | (with_reducible exact LeO.refl _)
   | (with_reducible exact LeO.none _)
   | (with_reducible refine LeO.ite ?_ ?_)
   | (with_reducible refine LeO.bind ?_ (fun _ => ?_))
   | exact ih0 _ _ _ _ _ _
   | exact ih1 _ _ _ _ _
   | exact match_greatest_fn1.mono _ _ _ _ _ _
   | exact LeO.none _
   | refine LeO.ite ?_ ?_
   | refine LeO.bind ?_ (fun _ => ?_)
  ·
   intro y0 y1 y2 y3 y4
   unfold match_greatest.l1
   repeat' first
   | (with_reducible exact ih0 _ _ _ _ _ _)
   | (with_reducible exact ih1 _ _ _ _ _)
   | (with_reducible exact match_greatest_fn1.mono _ _ _ _ _ _)
   | (with_reducible exact LeO.refl _)
   | (with_reducible exact LeO.none _)
   | (with_reducible refine LeO.ite ?_ ?_)
   | (with_reducible refine LeO.bind ?_ (fun _ => ?_))
   | exact ih0 _ _ _ _ _ _
   | exact ih1 _ _ _ _ _
   | exact match_greatest_fn1.mono _ _ _ _ _ _
   | exact LeO.none _
   | refine LeO.ite ?_ ?_
   | refine LeO.bind ?_ (fun _ => ?_)
theorem match_greatest.mono : ∀ a0 a1 a2 k, LeO (match_greatest.f k a0 a1 a2) (match_greatest.f (k + 1) a0 a1 a2) := by
 intro a0 a1 a2 k
 obtain ⟨ih0, ih1⟩ := match_greatest.mono_l k
 unfold match_greatest.f
 repeat' first
   | (with_reducible exact ih0 _ _ _ _ _ _)
   | (with_reducible exact ih1 _ _ _ _ _)
   | (with_reducible exact match_greatest_fn1.mono _ _ _ _ _ _)
   | (with_reducible exact LeO.refl _)
   | (with_reducible exact LeO.none _)
   | (with_reducible refine LeO.ite ?_ ?_)
   | (with_reducible refine LeO.bind ?_ (fun _ => ?_))
   | exact ih0 _ _ _ _ _ _
   | exact ih1 _ _ _ _ _
   | exact match_greatest_fn1.mono _ _ _ _ _ _
   | exact LeO.none _
   | refine LeO.ite ?_ ?_
   | refine LeO.bind ?_ (fun _ => ?_)
theorem match_greatest.run_store_func {P : Program} {w : World} {a : Addr} {m : Mode} (fn : Fn) (first cap : Array Value) : (store a (.func fn first cap) m).run P w = stored P w a (.func fn first cap) m := run_store P w a _ m rfl
attribute [local go_sem] match_greatest.run_store_func
set_option maxHeartbeats 8000000 in
set_option maxRecDepth 100000 in
theorem match_greatest.calls (k : Nat) (A0 : Option Addr) (c0 : Nat) (l0 : List (List Bool)) (a1 : Int) (A2 : Option Addr) (c2 : Nat) (l2 : List Bool) (r1 : List Int) (r2 : Int) (w : World) (hr0 : Kd.C (Kd.slice 4 Kd.bool) w A0 l0.length l0) (hc0 : l0.length ≤ c0) (hr2 : Kd.C Kd.bool w A2 l2.length l2) (hc2 : l2.length ≤ c2) (h : match_greatest.f k l0 a1 l2 = some (r1, r2)) :
  Calls Try.prog 29 #[.slice A0 l0.length c0, .int .i64 a1, .slice A2 l2.length c2] w fun e w' => ∃ v0_ : Value, e = .returned (.tuple #[v0_, .int .i64 r2]) ∧ Kd.R (Kd.int .i64) 3 w' w.heap.size (fun _ => True) v0_ r1 ∧ Below w.heap.size w w' := by
 have HR0 := Aside0.mk hr0
 have HC0 := Aside0.mk hc0
 clear hr0 hc0
 have HR2 := Aside0.mk hr2
 have HC2 := Aside0.mk hc2
 clear hr2 hc2
 have HB := Aside0.mk (Below.refl w.heap.size w)
 have H : ((match_columns.f l0).bind fun t503 => (if 0 ≤ t503 then (if (t503 : Int).toNat ≤ 35184372088832 then ((some (List.replicate (t503 : Int).toNat 0 : List Int)).bind fun y504 => (match_greatest.l0 k a1 (y504.length : Int) 0 l0 l2 y504)) else (none)) else (none))) = some (r1, r2) := h
 clear h
 replace H := Option.bind_eq_some_iff.mp H
 obtain ⟨t503, A40, H⟩ := H
 try dsimp only at H
 have A4 := Aside0.mk A40
 clear A40
 by_cases c5 : 0 ≤ t503
 rotate_left
 ·
  rw [if_neg c5] at H
  exact absurd H (by simp)
 rw [if_pos c5] at H
 have c5b0 := eq_true c5
 have c5b1 : decide (0 ≤ t503) = true := decide_eq_true c5
 clear c5
 by_cases c6 : (t503 : Int).toNat ≤ 35184372088832
 rotate_left
 ·
  rw [if_neg c6] at H
  exact absurd H (by simp)
 rw [if_pos c6] at H
 have c6b0 := eq_true c6
 have c6b1 : decide ((t503 : Int).toNat ≤ 35184372088832) = true := decide_eq_true c6
 clear c6
 obtain ⟨y504, hy504⟩ : ∃ y_ : List Int, y_ = (List.replicate (t503 : Int).toNat 0) := ⟨_, rfl⟩
 rw [← hy504] at H
 have Ny504 := Aside0.mk hy504
 clear hy504
 have H' := Aside0.mk H
 clear H
 have hmf : ∀ (fn : Fn) (first cap : Array Value) (w : World), (Instr.makeFunc fn first cap).run Try.prog w = .ok (.func fn first cap) w := fun _ _ _ _ => rfl
 go_enter Try.func29, Try.ntmps29
 go_wp2_with (first | ((with_reducible refine gate_dst (N := 3) rfl ?_); refine box_event ?hg (N := 3) ?hd (cs := #[.slice A0 l0.length c0]) (t := 38) ?hr ?_; (case hd => rfl); (case hg => rfl); (case hr => first | (go_simp; done) | (go_simp; rfl)); intro gb2 hg w7 hbox hb; have BK2 := Aside0.mk hbox; have GW2 := Aside0.mk ((by rw [hg]; exact (below_size (by repeat (first | (with_reducible first | exact HB.out | apply below_alloc | apply pw_below_drewN | apply below_drew1) | exact HB.out))) : w.heap.size ≤ gb2)); have GE2 := GW2; replace HB := Aside0.mk (below_step (by repeat (first | (with_reducible first | exact HB.out | apply below_alloc | apply pw_below_drewN | apply below_drew1) | exact HB.out)) hb); clear hb hbox hg) | ((with_reducible refine gate_dst (N := 5) rfl ?_); refine box_event ?hg (N := 5) ?hd (cs := #[.slice A2 l2.length c2]) (t := 39) ?hr ?_; (case hd => rfl); (case hg => rfl); (case hr => first | (go_simp; done) | (go_simp; rfl)); intro gb3 hg w8 hbox hb; have BK3 := Aside0.mk hbox; have GW3 := Aside0.mk ((by rw [hg]; exact (below_size (by repeat (first | (with_reducible first | exact HB.out | apply below_alloc | apply pw_below_drewN | apply below_drew1 | refine below_set ?_ GE2.out) | exact HB.out))) : w.heap.size ≤ gb3)); have GE3 := GW3; replace HB := Aside0.mk (below_step (by repeat (first | (with_reducible first | exact HB.out | apply below_alloc | apply pw_below_drewN | apply below_drew1 | refine below_set ?_ GE2.out) | exact HB.out)) hb); have NB2_3 := mNe BK2 hg; have NB3_2 := mSy NB2_3; replace BK2 := mBb BK2 hb; clear hb hbox hg; have hnb9 := NB2_3.out; have hnc9 := NB3_2.out; have hcz10 := blk_cell BK2.out; have hfz10 := blk_frozen BK2.out) | ((with_reducible refine gate_callee (f := 30) rfl ?_); refine goesL_ (some 15) rfl rfl Try.func30 (by kernel_rfl) rfl #[.slice A0 l0.length c0] rfl (by (try simp only [List.map_toArray, List.map_cons, List.map_nil]); first | done | rfl | (simp only [List.length_drop, List.length_take]; rfl)) ?_; (with_reducible refine (match_columns.calls _ _ l0 t503 _ ?side1 ?side2 A4.out).mono ?_); (case side1 => repeat (first | exact (Kd.C_below HR0.out HB.out) | (with_reducible refine Kd.C_alloc ?_ _) | (with_reducible refine Kd.C_drewN ?_ _) | (with_reducible refine Kd.C_drew ?_))); (case side2 => exact HC0.out); rintro e w' ⟨rfl, ⟨nd, rfl⟩⟩; refine ⟨_, rfl, ?_⟩; (try (rw [drewN_self w8]; generalize hq_ : World.drewN w8 _ = w8; have n0_ : Aside0 (w8.heap[gb2]? = some (.cells #[.slice A0 l0.length c0] 38 (0, 0))) := ⟨by rw [← hq_]; exact BK2.out⟩; have n1_ : Aside0 (w8.heap[gb3]? = some (.cells #[.slice A2 l2.length c2] 39 (0, 0))) := ⟨by rw [← hq_]; exact BK3.out⟩; have n2_ : Aside0 (Below w.heap.size w w8) := ⟨by rw [← hq_]; exact (by repeat (first | (with_reducible first | exact HB.out | apply below_alloc | apply pw_below_drewN | apply below_drew1 | refine below_set ?_ GE2.out | refine below_set ?_ GE3.out) | exact HB.out))⟩; clear BK2 BK3 HB hq_; have BK2 := n0_; have BK3 := n1_; have HB := n2_; clear n0_ n1_ n2_))) | ((with_reducible refine gate_dst (N := 16) rfl ?_); refine Kd.R_make (Kd.int .i64) _ 3 rfl (N := 16) rfl 23 _ _ rfl t503 rfl rfl Try.underlying23 (.int .i64 0) 8 info3 rfl (by decide) (by omega) 0 (ok := fun _ => True) (okp := fun _ => True) rfl (fun _ hk => hk) trivial (of_decide_eq_true (by first | (with_reducible assumption) | assumption)) (Nat.le_trans (Nat.mul_le_mul_right _ (of_decide_eq_true (by first | (with_reducible assumption) | assumption) : t503.toNat ≤ 35184372088832)) (by omega)) (Below.refl _ _) (Nat.le_refl _) ?_; intro v505 w11 ho12 hb hg_ hnew_; clear hg_ hnew_; (first | rw [← Ny504.out] at ho12 | (simp only [Int.reduceToNat] at ho12; rw [← Ny504.out] at ho12)); have HO506 := Aside0.mk (Kd.R_lower ho12 (below_size (by repeat (first | (with_reducible first | exact HB.out | apply below_alloc | apply pw_below_drewN | apply below_drew1 | refine below_set ?_ GE2.out | refine below_set ?_ GE3.out) | exact HB.out)))); replace BK2 := mBb BK2 hb; replace BK3 := mBb BK3 hb; replace HB := Aside0.mk (below_step (by repeat (first | (with_reducible first | exact HB.out | apply below_alloc | apply pw_below_drewN | apply below_drew1 | refine below_set ?_ GE2.out | refine below_set ?_ GE3.out) | exact HB.out)) hb); clear hb ho12) | ((with_reducible refine gate_dst (N := 8) rfl ?_); refine box_event ?hg (N := 8) ?hd (cs := #[.slice none 0 0]) (t := 23) ?hr ?_; (case hd => rfl); (case hg => rfl); (case hr => first | (go_simp; done) | (go_simp; rfl)); intro gb4 hg w13 hbox hb; replace HO506 := Aside0.mk (Kd.R_below (by (with_reducible repeat (first | apply Kd.R_alloc | apply Kd.R_drewN | apply Kd.R_drew)); exact HO506.out) hb); have BK4 := Aside0.mk hbox; have GW4 := Aside0.mk ((by rw [hg]; exact (below_size (by repeat (first | (with_reducible first | exact HB.out | apply below_alloc | apply pw_below_drewN | apply below_drew1 | refine below_set ?_ GE2.out | refine below_set ?_ GE3.out) | exact HB.out))) : w.heap.size ≤ gb4)); have GE4 := GW4; replace HB := Aside0.mk (below_step (by repeat (first | (with_reducible first | exact HB.out | apply below_alloc | apply pw_below_drewN | apply below_drew1 | refine below_set ?_ GE2.out | refine below_set ?_ GE3.out) | exact HB.out)) hb); have NB2_4 := mNe BK2 hg; have NB4_2 := mSy NB2_4; replace BK2 := mBb BK2 hb; have NB3_4 := mNe BK3 hg; have NB4_3 := mSy NB3_4; replace BK3 := mBb BK3 hb; clear hb hbox hg; obtain ⟨Ao14, co14, eo14⟩ := Kd.R_slice HO506.out; subst eo14; have hnb15 := NB4_2.out; have hnc15 := NB2_4.out; have hnb16 := NB4_3.out; have hnc16 := NB3_4.out; have hcz17 := blk_cell BK4.out; have hfz17 := blk_frozen BK4.out))
 go_loopg [19] k (fun kq v19 w' => ∃ (x19_1 : Int) (x508000_1 : List Int) (u508000 : Value), v19 = .int .i64 x19_1 ∧ Aside0 (match_greatest.l0 kq a1 (y504.length : Int) x19_1 l0 l2 x508000_1 = some (r1, r2)) ∧ Aside0 (kq ≤ k) ∧ Aside0 (Kd.R (Kd.int .i64) 3 w' w.heap.size (fun _ => True) u508000 x508000_1) ∧ Aside0 (w'.heap[gb2]? = some (.cells #[(.slice A0 l0.length c0)] 38 (0, 0))) ∧ Aside0 (w'.heap[gb3]? = some (.cells #[(.slice A2 l2.length c2)] 39 (0, 0))) ∧ Aside0 (w'.heap[gb4]? = some (.cells #[u508000] 23 (0, 0))) ∧ Aside0 (Below w.heap.size w w'))
 case atStart => exact ⟨(0), (y504), (.slice Ao14 y504.length co14), (by first | rfl | (simp; done) | (simp [*]; done)), H', ⟨Nat.le_refl _⟩, ⟨by (with_reducible repeat (first | apply Kd.R_alloc | apply Kd.R_drewN | apply Kd.R_drew)); exact Kd.R_mono (Kd.R_far (p := ⟨gb4, 0, none⟩) (Kd.R_types HO506.out BK4.out (by decide)) (fun _ hk => hk.2) (.slice Ao14 y504.length co14)) (fun _ hk => trivial)⟩, ⟨by (with_reducible repeat (first | refine blk_drewN ?_ _ | refine blk_drew ?_ | refine blk_alloc ?_ _)); refine blk_far ?_ NB2_4.out _; (with_reducible repeat (first | refine blk_drewN ?_ _ | refine blk_drew ?_ | refine blk_alloc ?_ _)); exact BK2.out⟩, ⟨by (with_reducible repeat (first | refine blk_drewN ?_ _ | refine blk_drew ?_ | refine blk_alloc ?_ _)); refine blk_far ?_ NB3_4.out _; (with_reducible repeat (first | refine blk_drewN ?_ _ | refine blk_drew ?_ | refine blk_alloc ?_ _)); exact BK3.out⟩, ⟨by (with_reducible repeat (first | refine blk_drewN ?_ _ | refine blk_drew ?_ | refine blk_alloc ?_ _)); refine blk_put (cs := #[.slice none 0 0]) ?_ 0 _ rfl; (with_reducible repeat (first | refine blk_drewN ?_ _ | refine blk_drew ?_ | refine blk_alloc ?_ _)); exact BK4.out⟩, ⟨by repeat (first | (with_reducible first | exact HB.out | apply below_alloc | apply pw_below_drewN | apply below_drew1 | refine below_set ?_ GE2.out | refine below_set ?_ GE3.out | refine below_set ?_ GE4.out) | exact HB.out)⟩⟩
 case round =>
  clear H'
  try clear c1; try clear c2; try clear p2; try clear c3; try clear c5; try clear c5b0; try clear c5b1; try clear c6; try clear c6b0; try clear c6b1; try clear c9; try clear c15; try clear c16; try clear hcz10_0; try clear hcz17_0; try clear hfz10_0; try clear hfz17_0
  obtain ⟨x19_1, x508000_1, u508000, rfl, HA, HK1, HO_508000, BK2, BK3, BK4, HB⟩ := hrel
  cases gk with
  | zero => exact absurd HA.out (by simp [match_greatest.l0])
  | succ k1 =>
   have H := HA.out
   clear HA
   simp only [match_greatest.l0] at H
   by_cases c18 : x19_1 < (y504.length : Int)
   ·
    rw [if_pos c18] at H
    have c18b0 : decide (x19_1 < (y504.length : Int)) = true := decide_eq_true c18
    clear c18
    by_cases c19 : 0 ≤ x19_1
    rotate_left
    ·
     rw [if_neg c19] at H
     exact absurd H (by simp)
    rw [if_pos c19] at H
    have c19b0 : decide (0 ≤ x19_1) = true := decide_eq_true c19
    clear c19
    by_cases c20 : x19_1 < (x508000_1.length : Int)
    rotate_left
    ·
     rw [if_neg c20] at H
     exact absurd H (by simp)
    rw [if_pos c20] at H
    have c20b0 : decide (x19_1 < (x508000_1.length : Int)) = true := decide_eq_true c20
    clear c20
    obtain ⟨y508, hy508⟩ : ∃ y_ : List Int, y_ = (x508000_1.set (x19_1 : Int).toNat (-1)) := ⟨_, rfl⟩
    rw [← hy508] at H
    have Ny508 := Aside0.mk hy508
    clear hy508
    have H' := Aside0.mk H
    clear H
    have hnb22 := NB4_2.out
    have hnc22 := NB2_4.out
    have hnb23 := NB4_3.out
    have hnc23 := NB3_4.out
    have hcz24 := blk_cell BK4.out; have hfz24 := blk_frozen BK4.out
    have p21 : 0 ≤ (x19_1 : Int) := of_decide_eq_true (by first | (with_reducible assumption) | assumption)
    have q21 : (x19_1 : Int) < ((x508000_1.length : Int) : Int) := of_decide_eq_true (by first | (with_reducible assumption) | assumption)
    obtain ⟨go21, co21, eo21, gb1, gl21, cl21, HG21⟩ := Kd.R_form HO_508000.out (by omega)
    (first | cases eo21 | (injection eo21 with ea_ en_ ec_; (first | subst ea_ | (injection ea_ with ea_; subst ea_)); subst ec_; clear en_))
    have GB21 := Aside0.mk gb1
    have GG21 := Aside0.mk HG21
    clear gb1 gl21 HG21
    obtain ⟨hx21_0, hf21_0⟩ := Kd.R_celln 0 HO_508000.out (x19_1 : Int) p21 q21
    replace p21 := eq_true p21
    replace q21 := eq_true q21
    have HP25 := Kd.R_putg HO_508000.out (x19_1 : Int) (-1)
    go_wp2_with (first | ((with_reducible refine gate_store (t := 3) (p := 24) rfl ?_); refine store_event (t := 3) (p := 24) (v := ?vo_w26) (w1 := (wr.setCell ⟨go21, (x19_1 : Int).toNat, none⟩ (.int .i64 (-1)))) ?hg ?ho ?hn ?hr ?_; (case ho => rfl); (case hg => rfl); (case hn => rfl); (case hr => first | (go_simp; done) | (go_simp; rfl)); intro w26 hw; have hg : wr.grownBy w26 (some go21) := (by rw [hw]; exact HP25.2); have hp_ : Kd.R (Kd.int .i64) 3 w26 w.heap.size (fun _ => True) (.slice (some ⟨go21, 0, none⟩) x508000_1.length co21) y508 := (by rw [hw, Ny508.out]; exact HP25.1); clear HP25; replace BK2 := Aside0.mk (blk_grown (g := gb2) (o := .cells #[.slice A0 l0.length c0] 38 (0, 0)) BK2.out hg (Kd.R_ne HO_508000.out BK2.out (by decide))); replace BK3 := Aside0.mk (blk_grown (g := gb3) (o := .cells #[.slice A2 l2.length c2] 39 (0, 0)) BK3.out hg (Kd.R_ne HO_508000.out BK3.out (by decide))); replace BK4 := Aside0.mk (blk_grown (g := gb4) (o := .cells #[.slice (some ⟨go21, 0, none⟩) x508000_1.length co21] 23 (0, 0)) BK4.out hg (Kd.R_ne HO_508000.out BK4.out (by decide))); replace HO_508000 := Aside0.mk (hp_); replace HB := Aside0.mk ((by rw [hw]; exact below_set (HB.out) GB21.out : Below w.heap.size w w26)); clear hg hw hp_))
    go_roundg k1
    case measure => have := HK1.out; omega
    case rel => exact ⟨(wrap64 (x19_1 + 1)), (y508), (.slice (some ⟨go21, 0, none⟩) x508000_1.length co21), (by first | rfl | (simp; done) | (simp [*]; done)), H', ⟨by have := HK1.out; omega⟩, ⟨by (with_reducible repeat (first | apply Kd.R_alloc | apply Kd.R_drewN | apply Kd.R_drew)); exact HO_508000.out⟩, ⟨BK2.out⟩, ⟨BK3.out⟩, ⟨BK4.out⟩, ⟨HB.out⟩⟩
   rw [if_neg c18] at H
   have c18b0 : decide (x19_1 < (y504.length : Int)) = false := decide_eq_false c18
   clear c18
   have H' := Aside0.mk H
   clear H
   go_wp2_with (first | ((with_reducible refine gate_dst (N := 10) rfl ?_); refine box_event ?hg (N := 10) ?hd (cs := #[.slice none 0 0]) (t := 39) ?hr ?_; (case hd => rfl); (case hg => rfl); (case hr => first | (go_simp; done) | (go_simp; rfl)); intro gb5 hg w27 hbox hb; replace HO_508000 := Aside0.mk (Kd.R_below HO_508000.out hb); have BK5 := Aside0.mk hbox; have GW5 := mGw HB hg; have GE5 := GW5; replace HB := mSt HB hb; have NB2_5 := mNe BK2 hg; have NB5_2 := mSy NB2_5; replace BK2 := mBb BK2 hb; have NB3_5 := mNe BK3 hg; have NB5_3 := mSy NB3_5; replace BK3 := mBb BK3 hb; have NB4_5 := mNe BK4 hg; have NB5_4 := mSy NB4_5; replace BK4 := mBb BK4 hb; clear hb hbox hg) | ((with_reducible refine gate_dst (N := 11) rfl ?_); refine box_event ?hg (N := 11) ?hd (cs := #[.nilFunc]) (t := 55) ?hr ?_; (case hd => rfl); (case hg => rfl); (case hr => first | (go_simp; done) | (go_simp; rfl)); intro gb6 hg w28 hbox hb; replace HO_508000 := Aside0.mk (Kd.R_below HO_508000.out hb); have BK6 := Aside0.mk hbox; have GW6 := mGw HB hg; have GE6 := GW6; replace HB := mSt HB hb; have NB2_6 := mNe BK2 hg; have NB6_2 := mSy NB2_6; replace BK2 := mBb BK2 hb; have NB3_6 := mNe BK3 hg; have NB6_3 := mSy NB3_6; replace BK3 := mBb BK3 hb; have NB4_6 := mNe BK4 hg; have NB6_4 := mSy NB4_6; replace BK4 := mBb BK4 hb; have NB5_6 := mNe BK5 hg; have NB6_5 := mSy NB5_6; replace BK5 := mBb BK5 hb; clear hb hbox hg; have hnb29 := NB6_2.out; have hnc29 := NB2_6.out; have hnb30 := NB6_3.out; have hnc30 := NB3_6.out; have hnb31 := NB6_4.out; have hnc31 := NB4_6.out; have hnb32 := NB6_5.out; have hnc32 := NB5_6.out; have hcz33 := blk_cell BK6.out; have hfz33 := blk_frozen BK6.out))
   go_loopg [12, 13] k1 (fun kq v12 v13 w' => ∃ (x12_2 : Int) (x13_2 : Int) (x508000_2 : List Int) (x510000_2 : List Bool) (u508000 : Value) (u510000 : Value), v12 = .int .i64 x12_2 ∧ v13 = .int .i64 x13_2 ∧ Aside0 (match_greatest.l1 kq x12_2 x13_2 l0 l2 x508000_2 = some (r1, r2)) ∧ Aside0 (kq ≤ k1) ∧ Aside0 (Kd.R (Kd.int .i64) 3 w' w.heap.size (fun _ => True) u508000 x508000_2) ∧ Aside0 (Kd.R Kd.bool 4 w' w.heap.size (fun _ => True) u510000 x510000_2) ∧ Aside0 (w'.heap[gb2]? = some (.cells #[(.slice A0 l0.length c0)] 38 (0, 0))) ∧ Aside0 (w'.heap[gb3]? = some (.cells #[(.slice A2 l2.length c2)] 39 (0, 0))) ∧ Aside0 (w'.heap[gb4]? = some (.cells #[u508000] 23 (0, 0))) ∧ Aside0 (w'.heap[gb5]? = some (.cells #[u510000] 39 (0, 0))) ∧ Aside0 (w'.heap[gb6]? = some (.cells #[.func (.func 33) #[] #[.pointer (some ⟨gb2, 0, none⟩), .pointer (some ⟨gb3, 0, none⟩), .pointer (some ⟨gb5, 0, none⟩), .pointer (some ⟨gb4, 0, none⟩), .pointer (some ⟨gb6, 0, none⟩)]] 55 (0, 0))) ∧ Aside0 (Below w.heap.size w w'))
   case atStart => exact ⟨(0), (a1), (x508000_1), (([] : List Bool)), (u508000), (.slice none 0 0), (by first | rfl | (simp; done) | (simp [*]; done)), (by first | rfl | (simp; done) | (simp [*]; done)), H', ⟨Nat.le_refl _⟩, ⟨by (with_reducible repeat (first | apply Kd.R_alloc | apply Kd.R_drewN | apply Kd.R_drew)); exact Kd.R_mono (Kd.R_far (p := ⟨gb6, 0, none⟩) (Kd.R_types HO_508000.out BK6.out (by decide)) (fun _ hk => hk.2) (.func (.func 33) #[] #[.pointer (some ⟨gb2, 0, none⟩), .pointer (some ⟨gb3, 0, none⟩), .pointer (some ⟨gb5, 0, none⟩), .pointer (some ⟨gb4, 0, none⟩), .pointer (some ⟨gb6, 0, none⟩)])) (fun _ hk => trivial)⟩, ⟨by first | exact Kd.R_nil _ _ _ _ _ | exact Kd.N_nil _ _ _ _ _ | exact Kd.V_nil _ _ _ _ _ | exact Kd.Q_nil _ _ _ _ _ | exact Kd.S_nil _ _ _ _ _⟩, ⟨by (with_reducible repeat (first | refine blk_drewN ?_ _ | refine blk_drew ?_ | refine blk_alloc ?_ _)); refine blk_far ?_ NB2_6.out _; (with_reducible repeat (first | refine blk_drewN ?_ _ | refine blk_drew ?_ | refine blk_alloc ?_ _)); exact BK2.out⟩, ⟨by (with_reducible repeat (first | refine blk_drewN ?_ _ | refine blk_drew ?_ | refine blk_alloc ?_ _)); refine blk_far ?_ NB3_6.out _; (with_reducible repeat (first | refine blk_drewN ?_ _ | refine blk_drew ?_ | refine blk_alloc ?_ _)); exact BK3.out⟩, ⟨by (with_reducible repeat (first | refine blk_drewN ?_ _ | refine blk_drew ?_ | refine blk_alloc ?_ _)); refine blk_far ?_ NB4_6.out _; (with_reducible repeat (first | refine blk_drewN ?_ _ | refine blk_drew ?_ | refine blk_alloc ?_ _)); exact BK4.out⟩, ⟨by (with_reducible repeat (first | refine blk_drewN ?_ _ | refine blk_drew ?_ | refine blk_alloc ?_ _)); refine blk_far ?_ NB5_6.out _; (with_reducible repeat (first | refine blk_drewN ?_ _ | refine blk_drew ?_ | refine blk_alloc ?_ _)); exact BK5.out⟩, ⟨by (with_reducible repeat (first | refine blk_drewN ?_ _ | refine blk_drew ?_ | refine blk_alloc ?_ _)); refine blk_put (cs := #[.nilFunc]) ?_ 0 _ rfl; (with_reducible repeat (first | refine blk_drewN ?_ _ | refine blk_drew ?_ | refine blk_alloc ?_ _)); exact BK6.out⟩, ⟨by repeat (first | (with_reducible first | exact HB.out | apply below_alloc | apply pw_below_drewN | apply below_drew1 | refine below_set ?_ GE2.out | refine below_set ?_ GE3.out | refine below_set ?_ GE4.out | refine below_set ?_ GE5.out | refine below_set ?_ GE6.out) | exact HB.out)⟩⟩
   case round =>
    clear H'
    try clear c1; try clear c2; try clear p2; try clear q2; try clear hx2; try clear c3; try clear c5; try clear c5b0; try clear c5b1; try clear c6; try clear c6b0; try clear c6b1; try clear p6; try clear c9; try clear c15; try clear c16; try clear c18; try clear c18b0; try clear c19; try clear c19b0; try clear c20; try clear c20b0; try clear p21; try clear q21; try clear hx21; try clear hf21; try clear c22; try clear c23; try clear c29; try clear c30; try clear c31; try clear c32; try clear hcz10_0; try clear hcz17_0; try clear hcz24_0; try clear hcz33_0; try clear hfz10_0; try clear hfz17_0; try clear hfz24_0; try clear hfz33_0; try clear hx21_0
    obtain ⟨x12_2, x13_2, x508000_2, x510000_2, u508000, u510000, rfl, rfl, HA, HK2, HO_508000, HO_510000, BK2, BK3, BK4, BK5, BK6, HB⟩ := hrel
    cases gk with
    | zero => exact absurd HA.out (by simp [match_greatest.l1])
    | succ k2 =>
     have H := HA.out
     clear HA
     simp only [match_greatest.l1] at H
     by_cases c34 : x13_2 < (l0.length : Int)
     rotate_left
     ·
      rw [if_neg c34] at H
      have c34b0 : decide (x13_2 < (l0.length : Int)) = false := decide_eq_false c34
      clear c34
      simp only [Option.some.injEq, Prod.mk.injEq] at H
      obtain ⟨rfl, rfl⟩ := H
      have hnb87 := NB2_3.out
      have hnc87 := NB3_2.out
      have hnb88 := NB2_4.out
      have hnc88 := NB4_2.out
      have hnb89 := NB2_5.out
      have hnc89 := NB5_2.out
      have hnb90 := NB2_6.out
      have hnc90 := NB6_2.out
      have hcz91 := blk_cell BK2.out; have hfz91 := blk_frozen BK2.out
      have hnb92 := NB4_3.out
      have hnc92 := NB3_4.out
      have hnb93 := NB4_5.out
      have hnc93 := NB5_4.out
      have hnb94 := NB4_6.out
      have hnc94 := NB6_4.out
      have hcz95 := blk_cell BK4.out; have hfz95 := blk_frozen BK4.out
      go_wp2
      go_ret2
      exact ⟨_, by first | rfl | (simp [errW_none, errW_some] <;> rfl) | (simp [*, errW_none, errW_some] <;> rfl), by (with_reducible repeat (first | apply Kd.R_alloc | apply Kd.R_drewN | apply Kd.R_drew)); exact HO_508000.out, HB.out⟩
     rw [if_pos c34] at H
     have c34b0 : decide (x13_2 < (l0.length : Int)) = true := decide_eq_true c34
     clear c34
     by_cases c35 : 0 ≤ (x508000_2.length : Int)
     rotate_left
     ·
      rw [if_neg c35] at H
      exact absurd H (by simp)
     rw [if_pos c35] at H
     have c35b0 := eq_true c35
     have c35b1 : decide (0 ≤ (x508000_2.length : Int)) = true := decide_eq_true c35
     clear c35
     by_cases c36 : ((x508000_2.length : Int) : Int).toNat ≤ 281474976710656
     rotate_left
     ·
      rw [if_neg c36] at H
      exact absurd H (by simp)
     rw [if_pos c36] at H
     have c36b0 := eq_true c36
     have c36b1 : decide (((x508000_2.length : Int) : Int).toNat ≤ 281474976710656) = true := decide_eq_true c36
     clear c36
     obtain ⟨y511, hy511⟩ : ∃ y_ : List Bool, y_ = (List.replicate ((x508000_2.length : Int) : Int).toNat false) := ⟨_, rfl⟩
     rw [← hy511] at H
     have Ny511 := Aside0.mk hy511
     clear hy511
     replace H := Option.bind_eq_some_iff.mp H
     obtain ⟨⟨t514, t515, t516⟩, A370, H⟩ := H
     try dsimp only at H
     have A37 := Aside0.mk A370
     clear A370
     by_cases c38 : t514 = true
     ·
      subst c38
      rw [if_pos rfl] at H
      have H' := Aside0.mk H
      clear H
      have hnb39 := NB2_3.out
      have hnc39 := NB3_2.out
      have hnb40 := NB2_4.out
      have hnc40 := NB4_2.out
      have hnb41 := NB2_5.out
      have hnc41 := NB5_2.out
      have hnb42 := NB2_6.out
      have hnc42 := NB6_2.out
      have hcz43 := blk_cell BK2.out; have hfz43 := blk_frozen BK2.out
      have hnb44 := NB4_3.out
      have hnc44 := NB3_4.out
      have hnb45 := NB4_5.out
      have hnc45 := NB5_4.out
      have hnb46 := NB4_6.out
      have hnc46 := NB6_4.out
      have hcz47 := blk_cell BK4.out; have hfz47 := blk_frozen BK4.out
      obtain ⟨Ao48, co48, eo48⟩ := Kd.R_slice HO_508000.out
      subst eo48
      go_wp2_with (first | ((with_reducible refine gate_dst (N := 36) rfl ?_); refine Kd.R_make Kd.bool _ 4 rfl (N := 36) rfl 39 _ _ rfl (x508000_2.length : Int) rfl rfl Try.underlying39 (.bool false) 1 info4 rfl (by decide) (by omega) false (ok := fun _ => True) (okp := fun _ => True) rfl (fun _ hk => hk) trivial (of_decide_eq_true (by first | (with_reducible assumption) | assumption)) (Nat.le_trans (Nat.mul_le_mul_right _ (of_decide_eq_true (by first | (with_reducible assumption) | assumption) : (x508000_2.length : Int).toNat ≤ 281474976710656)) (by omega)) (Below.refl _ _) (Nat.le_refl _) ?_; intro v512 w49 ho50 hb hg_ hnew_; clear hg_ hnew_; (first | rw [← Ny511.out] at ho50 | (simp only [Int.reduceToNat] at ho50; rw [← Ny511.out] at ho50)); replace HO_508000 := Aside0.mk (Kd.R_below (by (with_reducible repeat (first | apply Kd.R_alloc | apply Kd.R_drewN | apply Kd.R_drew)); exact HO_508000.out) hb); have HO513 := Aside0.mk (Kd.R_lower (Kd.R_new' ho50 (Kd.R_lt (by (with_reducible repeat (first | apply Kd.R_alloc | apply Kd.R_drewN | apply Kd.R_drew)); exact HO_510000.out))) (below_size (by repeat (first | (with_reducible first | exact HB.out | apply below_alloc | apply pw_below_drewN | apply below_drew1 | refine below_set ?_ GE2.out | refine below_set ?_ GE3.out | refine below_set ?_ GE4.out | refine below_set ?_ GE5.out | refine below_set ?_ GE6.out) | exact HB.out)))); replace HO_510000 := Aside0.mk (Kd.R_elder' (by (with_reducible repeat (first | apply Kd.R_alloc | apply Kd.R_drewN | apply Kd.R_drew)); exact HO_510000.out) (Kd.R_base ho50) hb); replace BK2 := mBb BK2 hb; replace BK3 := mBb BK3 hb; replace BK4 := mBb BK4 hb; replace BK5 := mBb BK5 hb; replace BK6 := mBb BK6 hb; replace HB := Aside0.mk (below_step (by repeat (first | (with_reducible first | exact HB.out | apply below_alloc | apply pw_below_drewN | apply below_drew1 | refine below_set ?_ GE2.out | refine below_set ?_ GE3.out | refine below_set ?_ GE4.out | refine below_set ?_ GE5.out | refine below_set ?_ GE6.out) | exact HB.out)) hb); clear hb ho50; obtain ⟨Ao51, co51, eo51⟩ := Kd.R_slice HO513.out; subst eo51; have hnb52 := NB5_3.out; have hnc52 := NB3_5.out; have hnb53 := NB5_6.out; have hnc53 := NB6_5.out; have hcz54 := blk_cell BK5.out; have hfz54 := blk_frozen BK5.out) | ((with_reducible refine gate_store (t := 39) (p := 10) rfl ?_); refine store_event (t := 39) (p := 10) (v := ?vo_w55) (w1 := (w49.setCell ⟨gb5, 0, none⟩ (.slice Ao51 y511.length co51))) ?hg ?ho ?hn ?hr ?_; (case ho => rfl); (case hg => rfl); (case hn => rfl); (case hr => first | (go_simp; done) | (go_simp; rfl)); intro w55 hw; have n0_ : Aside0 (Kd.R (Kd.int .i64) 3 w55 w.heap.size (fun _ => True) (.slice Ao48 x508000_2.length co48) x508000_2) := ⟨(by rw [hw]; exact (by (with_reducible repeat (first | apply Kd.R_alloc | apply Kd.R_drewN | apply Kd.R_drew)); exact Kd.R_mono (Kd.R_far (p := ⟨gb5, 0, none⟩) (Kd.R_types HO_508000.out BK5.out (by decide)) (fun _ hk => hk.2) (.slice Ao51 y511.length co51)) (fun _ hk => trivial)))⟩; have n1_ : Aside0 (Kd.R Kd.bool 4 w55 w.heap.size (fun k_ => some k_ ≠ (.slice Ao51 y511.length co51 : Value).ownBlock) u510000 x510000_2) := ⟨(by rw [hw]; exact (by (with_reducible repeat (first | apply Kd.R_alloc | apply Kd.R_drewN | apply Kd.R_drew)); exact Kd.R_mono (Kd.R_far (p := ⟨gb5, 0, none⟩) (Kd.R_types HO_510000.out BK5.out (by decide)) (fun _ hk => hk.2) (.slice Ao51 y511.length co51)) (fun _ hk => hk.1.2)))⟩; have n2_ : Aside0 (Kd.R Kd.bool 4 w55 w.heap.size (fun k_ => some k_ ≠ (u510000 : Value).ownBlock) (.slice Ao51 y511.length co51) y511) := ⟨(by rw [hw]; exact (by (with_reducible repeat (first | apply Kd.R_alloc | apply Kd.R_drewN | apply Kd.R_drew)); exact Kd.R_mono (Kd.R_far (p := ⟨gb5, 0, none⟩) (Kd.R_types HO513.out BK5.out (by decide)) (fun _ hk => hk.2) (.slice Ao51 y511.length co51)) (fun _ hk => hk.1.2)))⟩; have n3_ : Aside0 (w55.heap[gb2]? = some (.cells #[.slice A0 l0.length c0] 38 (0, 0))) := ⟨(by rw [hw]; exact (by (with_reducible repeat (first | refine blk_drewN ?_ _ | refine blk_drew ?_ | refine blk_alloc ?_ _)); refine blk_far ?_ NB2_5.out _; (with_reducible repeat (first | refine blk_drewN ?_ _ | refine blk_drew ?_ | refine blk_alloc ?_ _)); exact BK2.out))⟩; have n4_ : Aside0 (w55.heap[gb3]? = some (.cells #[.slice A2 l2.length c2] 39 (0, 0))) := ⟨(by rw [hw]; exact (by (with_reducible repeat (first | refine blk_drewN ?_ _ | refine blk_drew ?_ | refine blk_alloc ?_ _)); refine blk_far ?_ NB3_5.out _; (with_reducible repeat (first | refine blk_drewN ?_ _ | refine blk_drew ?_ | refine blk_alloc ?_ _)); exact BK3.out))⟩; have n5_ : Aside0 (w55.heap[gb4]? = some (.cells #[.slice Ao48 x508000_2.length co48] 23 (0, 0))) := ⟨(by rw [hw]; exact (by (with_reducible repeat (first | refine blk_drewN ?_ _ | refine blk_drew ?_ | refine blk_alloc ?_ _)); refine blk_far ?_ NB4_5.out _; (with_reducible repeat (first | refine blk_drewN ?_ _ | refine blk_drew ?_ | refine blk_alloc ?_ _)); exact BK4.out))⟩; have n6_ : Aside0 (w55.heap[gb5]? = some (.cells #[.slice Ao51 y511.length co51] 39 (0, 0))) := ⟨(by rw [hw]; exact (by (with_reducible repeat (first | refine blk_drewN ?_ _ | refine blk_drew ?_ | refine blk_alloc ?_ _)); refine blk_put (cs := #[u510000]) ?_ 0 _ rfl; (with_reducible repeat (first | refine blk_drewN ?_ _ | refine blk_drew ?_ | refine blk_alloc ?_ _)); exact BK5.out))⟩; have n7_ : Aside0 (w55.heap[gb6]? = some (.cells #[.func (.func 33) #[] #[.pointer (some ⟨gb2, 0, none⟩), .pointer (some ⟨gb3, 0, none⟩), .pointer (some ⟨gb5, 0, none⟩), .pointer (some ⟨gb4, 0, none⟩), .pointer (some ⟨gb6, 0, none⟩)]] 55 (0, 0))) := ⟨(by rw [hw]; exact (by (with_reducible repeat (first | refine blk_drewN ?_ _ | refine blk_drew ?_ | refine blk_alloc ?_ _)); refine blk_far ?_ NB6_5.out _; (with_reducible repeat (first | refine blk_drewN ?_ _ | refine blk_drew ?_ | refine blk_alloc ?_ _)); exact BK6.out))⟩; have n8_ : Aside0 (Below w.heap.size w w55) := ⟨(by rw [hw]; exact (by repeat (first | (with_reducible first | exact HB.out | apply below_alloc | apply pw_below_drewN | apply below_drew1 | refine below_set ?_ GE2.out | refine below_set ?_ GE3.out | refine below_set ?_ GE4.out | refine below_set ?_ GE5.out | refine below_set ?_ GE6.out) | exact HB.out)))⟩; clear hw; clear HO_508000; clear HO_510000; clear HO513; clear BK2; clear BK3; clear BK4; clear BK5; clear BK6; clear HB; have HO_508000 := n0_; have HO_510000 := n1_; have HO513 := n2_; have BK2 := n3_; have BK3 := n4_; have BK4 := n5_; have BK5 := n6_; have BK6 := n7_; have HB := n8_; clear n0_ n1_ n2_ n3_ n4_ n5_ n6_ n7_ n8_; have hnb56 := NB6_3.out; have hnc56 := NB3_6.out; have hcz57 := blk_cell BK6.out; have hfz57 := blk_frozen BK6.out; have hcz58 := blk_cell BK2.out; have hfz58 := blk_frozen BK2.out; have hcz59 := blk_cell BK3.out; have hfz59 := blk_frozen BK3.out; have hcz60 := blk_cell BK5.out; have hfz60 := blk_frozen BK5.out; have hcz61 := blk_cell BK4.out; have hfz61 := blk_frozen BK4.out) | (go_at_call 33; (with_reducible refine (match_greatest_fn1.calls k2 x13_2 A0 c0 l0 A2 c2 l2 (fun k_ => some k_ = (.slice Ao51 y511.length co51 : Value).ownBlock) (.slice Ao51 y511.length co51) y511 (fun k_ => some k_ = (.slice Ao48 x508000_2.length co48 : Value).ownBlock) (.slice Ao48 x508000_2.length co48) x508000_2 true t515 t516 w _ ?side1 ?side2 ?side3 ?side4 ?side5 ?side6 ?side7 gb2 gb3 gb5 gb4 gb6 ?sg1 ?sg2 ?sg3 ?sg4 ?sg5 ?sn1 ?sn2 ?sn3 ?sn4 ?sn5 A37.out).mono ?_); (case sg1 => exact (blk_cell BK2.out 0).trans rfl); (case sg2 => exact (blk_cell BK3.out 0).trans rfl); (case sg3 => exact (blk_cell BK5.out 0).trans rfl); (case sg4 => exact (blk_cell BK4.out 0).trans rfl); (case sg5 => exact (blk_cell BK6.out 0).trans rfl); (case sn1 => exact (fun hs_ => Or.elim hs_ (fun e_ => (fun e_ => (Kd.R_ne HO513.out BK2.out (by decide)) e_) e_) (fun e_ => (fun e_ => (Kd.R_ne HO_508000.out BK2.out (by decide)) e_) e_))); (case sn2 => exact (fun hs_ => Or.elim hs_ (fun e_ => (fun e_ => (Kd.R_ne HO513.out BK3.out (by decide)) e_) e_) (fun e_ => (fun e_ => (Kd.R_ne HO_508000.out BK3.out (by decide)) e_) e_))); (case sn3 => exact (fun hs_ => Or.elim hs_ (fun e_ => (fun e_ => (Kd.R_ne HO513.out BK5.out (by decide)) e_) e_) (fun e_ => (fun e_ => (Kd.R_ne HO_508000.out BK5.out (by decide)) e_) e_))); (case sn4 => exact (fun hs_ => Or.elim hs_ (fun e_ => (fun e_ => (Kd.R_ne HO513.out BK4.out (by decide)) e_) e_) (fun e_ => (fun e_ => (Kd.R_ne HO_508000.out BK4.out (by decide)) e_) e_))); (case sn5 => exact (fun hs_ => Or.elim hs_ (fun e_ => (fun e_ => (Kd.R_ne HO513.out BK6.out (by decide)) e_) e_) (fun e_ => (fun e_ => (Kd.R_ne HO_508000.out BK6.out (by decide)) e_) e_))); (case side1 => repeat (first | (with_reducible first | exact HB.out | apply below_alloc | apply pw_below_drewN | apply below_drew1 | refine below_set ?_ GE2.out | refine below_set ?_ GE3.out | refine below_set ?_ GE4.out | refine below_set ?_ GE5.out | refine below_set ?_ GE6.out) | exact HB.out)); (case side2 => exact HR0.out); (case side3 => exact HC0.out); (case side4 => exact HR2.out); (case side5 => exact HC2.out); (case side6 => exact Kd.R_tight rfl HO513.out); (case side7 => exact Kd.R_tight rfl HO_508000.out); rintro e w62 ⟨rfl, hy0, hy1, hb, hkp⟩; replace HO_510000 := Aside0.mk (Kd.R_mono (ok' := fun k_ => some k_ ≠ (.slice Ao51 y511.length co51 : Value).ownBlock) (Kd.R_keptB ((Kd.R_apart' HO_510000.out (Kd.R_typed HO_508000.out) (by decide))) hkp (fun k_ hk_ hs_ => Or.elim hs_ (fun e_ => (hk_.1) e_) (fun e_ => (hk_.2) e_))) (fun k_ hk_ => hk_.1.1)); replace BK2 := Aside0.mk (blk_kept BK2.out hkp (fun hs_ => Or.elim hs_ (fun e_ => (fun e_ => (Kd.R_ne HO513.out BK2.out (by decide)) e_) e_) (fun e_ => (fun e_ => (Kd.R_ne HO_508000.out BK2.out (by decide)) e_) e_))); replace BK3 := Aside0.mk (blk_kept BK3.out hkp (fun hs_ => Or.elim hs_ (fun e_ => (fun e_ => (Kd.R_ne HO513.out BK3.out (by decide)) e_) e_) (fun e_ => (fun e_ => (Kd.R_ne HO_508000.out BK3.out (by decide)) e_) e_))); replace BK4 := Aside0.mk (blk_kept BK4.out hkp (fun hs_ => Or.elim hs_ (fun e_ => (fun e_ => (Kd.R_ne HO513.out BK4.out (by decide)) e_) e_) (fun e_ => (fun e_ => (Kd.R_ne HO_508000.out BK4.out (by decide)) e_) e_))); replace BK5 := Aside0.mk (blk_kept BK5.out hkp (fun hs_ => Or.elim hs_ (fun e_ => (fun e_ => (Kd.R_ne HO513.out BK5.out (by decide)) e_) e_) (fun e_ => (fun e_ => (Kd.R_ne HO_508000.out BK5.out (by decide)) e_) e_))); replace BK6 := Aside0.mk (blk_kept BK6.out hkp (fun hs_ => Or.elim hs_ (fun e_ => (fun e_ => (Kd.R_ne HO513.out BK6.out (by decide)) e_) e_) (fun e_ => (fun e_ => (Kd.R_ne HO_508000.out BK6.out (by decide)) e_) e_))); replace HO_508000 := Aside0.mk (Kd.R_reok rfl hy1 (fun k_ e_ => HO_508000.out.1 k_ e_)); replace HO513 := Aside0.mk (Kd.R_reok rfl hy0 (fun k_ e_ => HO513.out.1 k_ e_)); replace HB := Aside0.mk hb; (try clear hb); (try clear hkp); (try clear hy0); (try clear hy1)))
      go_roundg k2
      case measure => have := HK1.out; have := HK2.out; omega
      case rel => exact ⟨(wrap64 (x12_2 + 1)), (wrap64 (x13_2 + 1)), (t516), (t515), (.slice Ao48 x508000_2.length co48), (.slice Ao51 y511.length co51), (by first | rfl | (simp; done) | (simp [*]; done)), (by first | rfl | (simp; done) | (simp [*]; done)), H', ⟨by have := HK1.out; have := HK2.out; omega⟩, ⟨by (with_reducible repeat (first | apply Kd.R_alloc | apply Kd.R_drewN | apply Kd.R_drew)); exact HO_508000.out⟩, ⟨by (with_reducible repeat (first | apply Kd.R_alloc | apply Kd.R_drewN | apply Kd.R_drew)); exact Kd.R_mono HO513.out (fun _ hk => trivial)⟩, ⟨BK2.out⟩, ⟨BK3.out⟩, ⟨BK4.out⟩, ⟨BK5.out⟩, ⟨BK6.out⟩, ⟨HB.out⟩⟩
     replace c38 := Bool.eq_false_iff.mpr c38
     subst c38
     rw [if_neg (show ¬ (false = true) by decide)] at H
     have H' := Aside0.mk H
     clear H
     have hnb63 := NB2_3.out
     have hnc63 := NB3_2.out
     have hnb64 := NB2_4.out
     have hnc64 := NB4_2.out
     have hnb65 := NB2_5.out
     have hnc65 := NB5_2.out
     have hnb66 := NB2_6.out
     have hnc66 := NB6_2.out
     have hcz67 := blk_cell BK2.out; have hfz67 := blk_frozen BK2.out
     have hnb68 := NB4_3.out
     have hnc68 := NB3_4.out
     have hnb69 := NB4_5.out
     have hnc69 := NB5_4.out
     have hnb70 := NB4_6.out
     have hnc70 := NB6_4.out
     have hcz71 := blk_cell BK4.out; have hfz71 := blk_frozen BK4.out
     obtain ⟨Ao72, co72, eo72⟩ := Kd.R_slice HO_508000.out
     subst eo72
     go_wp2_with (first | ((with_reducible refine gate_dst (N := 36) rfl ?_); refine Kd.R_make Kd.bool _ 4 rfl (N := 36) rfl 39 _ _ rfl (x508000_2.length : Int) rfl rfl Try.underlying39 (.bool false) 1 info4 rfl (by decide) (by omega) false (ok := fun _ => True) (okp := fun _ => True) rfl (fun _ hk => hk) trivial (of_decide_eq_true (by first | (with_reducible assumption) | assumption)) (Nat.le_trans (Nat.mul_le_mul_right _ (of_decide_eq_true (by first | (with_reducible assumption) | assumption) : (x508000_2.length : Int).toNat ≤ 281474976710656)) (by omega)) (Below.refl _ _) (Nat.le_refl _) ?_; intro v512 w73 ho74 hb hg_ hnew_; clear hg_ hnew_; (first | rw [← Ny511.out] at ho74 | (simp only [Int.reduceToNat] at ho74; rw [← Ny511.out] at ho74)); replace HO_508000 := Aside0.mk (Kd.R_below (by (with_reducible repeat (first | apply Kd.R_alloc | apply Kd.R_drewN | apply Kd.R_drew)); exact HO_508000.out) hb); have HO513 := Aside0.mk (Kd.R_lower (Kd.R_new' ho74 (Kd.R_lt (by (with_reducible repeat (first | apply Kd.R_alloc | apply Kd.R_drewN | apply Kd.R_drew)); exact HO_510000.out))) (below_size (by repeat (first | (with_reducible first | exact HB.out | apply below_alloc | apply pw_below_drewN | apply below_drew1 | refine below_set ?_ GE2.out | refine below_set ?_ GE3.out | refine below_set ?_ GE4.out | refine below_set ?_ GE5.out | refine below_set ?_ GE6.out) | exact HB.out)))); replace HO_510000 := Aside0.mk (Kd.R_elder' (by (with_reducible repeat (first | apply Kd.R_alloc | apply Kd.R_drewN | apply Kd.R_drew)); exact HO_510000.out) (Kd.R_base ho74) hb); replace BK2 := mBb BK2 hb; replace BK3 := mBb BK3 hb; replace BK4 := mBb BK4 hb; replace BK5 := mBb BK5 hb; replace BK6 := mBb BK6 hb; replace HB := Aside0.mk (below_step (by repeat (first | (with_reducible first | exact HB.out | apply below_alloc | apply pw_below_drewN | apply below_drew1 | refine below_set ?_ GE2.out | refine below_set ?_ GE3.out | refine below_set ?_ GE4.out | refine below_set ?_ GE5.out | refine below_set ?_ GE6.out) | exact HB.out)) hb); clear hb ho74; obtain ⟨Ao75, co75, eo75⟩ := Kd.R_slice HO513.out; subst eo75; have hnb76 := NB5_3.out; have hnc76 := NB3_5.out; have hnb77 := NB5_6.out; have hnc77 := NB6_5.out; have hcz78 := blk_cell BK5.out; have hfz78 := blk_frozen BK5.out) | ((with_reducible refine gate_store (t := 39) (p := 10) rfl ?_); refine store_event (t := 39) (p := 10) (v := ?vo_w79) (w1 := (w73.setCell ⟨gb5, 0, none⟩ (.slice Ao75 y511.length co75))) ?hg ?ho ?hn ?hr ?_; (case ho => rfl); (case hg => rfl); (case hn => rfl); (case hr => first | (go_simp; done) | (go_simp; rfl)); intro w79 hw; have n0_ : Aside0 (Kd.R (Kd.int .i64) 3 w79 w.heap.size (fun _ => True) (.slice Ao72 x508000_2.length co72) x508000_2) := ⟨(by rw [hw]; exact (by (with_reducible repeat (first | apply Kd.R_alloc | apply Kd.R_drewN | apply Kd.R_drew)); exact Kd.R_mono (Kd.R_far (p := ⟨gb5, 0, none⟩) (Kd.R_types HO_508000.out BK5.out (by decide)) (fun _ hk => hk.2) (.slice Ao75 y511.length co75)) (fun _ hk => trivial)))⟩; have n1_ : Aside0 (Kd.R Kd.bool 4 w79 w.heap.size (fun k_ => some k_ ≠ (.slice Ao75 y511.length co75 : Value).ownBlock) u510000 x510000_2) := ⟨(by rw [hw]; exact (by (with_reducible repeat (first | apply Kd.R_alloc | apply Kd.R_drewN | apply Kd.R_drew)); exact Kd.R_mono (Kd.R_far (p := ⟨gb5, 0, none⟩) (Kd.R_types HO_510000.out BK5.out (by decide)) (fun _ hk => hk.2) (.slice Ao75 y511.length co75)) (fun _ hk => hk.1.2)))⟩; have n2_ : Aside0 (Kd.R Kd.bool 4 w79 w.heap.size (fun k_ => some k_ ≠ (u510000 : Value).ownBlock) (.slice Ao75 y511.length co75) y511) := ⟨(by rw [hw]; exact (by (with_reducible repeat (first | apply Kd.R_alloc | apply Kd.R_drewN | apply Kd.R_drew)); exact Kd.R_mono (Kd.R_far (p := ⟨gb5, 0, none⟩) (Kd.R_types HO513.out BK5.out (by decide)) (fun _ hk => hk.2) (.slice Ao75 y511.length co75)) (fun _ hk => hk.1.2)))⟩; have n3_ : Aside0 (w79.heap[gb2]? = some (.cells #[.slice A0 l0.length c0] 38 (0, 0))) := ⟨(by rw [hw]; exact (by (with_reducible repeat (first | refine blk_drewN ?_ _ | refine blk_drew ?_ | refine blk_alloc ?_ _)); refine blk_far ?_ NB2_5.out _; (with_reducible repeat (first | refine blk_drewN ?_ _ | refine blk_drew ?_ | refine blk_alloc ?_ _)); exact BK2.out))⟩; have n4_ : Aside0 (w79.heap[gb3]? = some (.cells #[.slice A2 l2.length c2] 39 (0, 0))) := ⟨(by rw [hw]; exact (by (with_reducible repeat (first | refine blk_drewN ?_ _ | refine blk_drew ?_ | refine blk_alloc ?_ _)); refine blk_far ?_ NB3_5.out _; (with_reducible repeat (first | refine blk_drewN ?_ _ | refine blk_drew ?_ | refine blk_alloc ?_ _)); exact BK3.out))⟩; have n5_ : Aside0 (w79.heap[gb4]? = some (.cells #[.slice Ao72 x508000_2.length co72] 23 (0, 0))) := ⟨(by rw [hw]; exact (by (with_reducible repeat (first | refine blk_drewN ?_ _ | refine blk_drew ?_ | refine blk_alloc ?_ _)); refine blk_far ?_ NB4_5.out _; (with_reducible repeat (first | refine blk_drewN ?_ _ | refine blk_drew ?_ | refine blk_alloc ?_ _)); exact BK4.out))⟩; have n6_ : Aside0 (w79.heap[gb5]? = some (.cells #[.slice Ao75 y511.length co75] 39 (0, 0))) := ⟨(by rw [hw]; exact (by (with_reducible repeat (first | refine blk_drewN ?_ _ | refine blk_drew ?_ | refine blk_alloc ?_ _)); refine blk_put (cs := #[u510000]) ?_ 0 _ rfl; (with_reducible repeat (first | refine blk_drewN ?_ _ | refine blk_drew ?_ | refine blk_alloc ?_ _)); exact BK5.out))⟩; have n7_ : Aside0 (w79.heap[gb6]? = some (.cells #[.func (.func 33) #[] #[.pointer (some ⟨gb2, 0, none⟩), .pointer (some ⟨gb3, 0, none⟩), .pointer (some ⟨gb5, 0, none⟩), .pointer (some ⟨gb4, 0, none⟩), .pointer (some ⟨gb6, 0, none⟩)]] 55 (0, 0))) := ⟨(by rw [hw]; exact (by (with_reducible repeat (first | refine blk_drewN ?_ _ | refine blk_drew ?_ | refine blk_alloc ?_ _)); refine blk_far ?_ NB6_5.out _; (with_reducible repeat (first | refine blk_drewN ?_ _ | refine blk_drew ?_ | refine blk_alloc ?_ _)); exact BK6.out))⟩; have n8_ : Aside0 (Below w.heap.size w w79) := ⟨(by rw [hw]; exact (by repeat (first | (with_reducible first | exact HB.out | apply below_alloc | apply pw_below_drewN | apply below_drew1 | refine below_set ?_ GE2.out | refine below_set ?_ GE3.out | refine below_set ?_ GE4.out | refine below_set ?_ GE5.out | refine below_set ?_ GE6.out) | exact HB.out)))⟩; clear hw; clear HO_508000; clear HO_510000; clear HO513; clear BK2; clear BK3; clear BK4; clear BK5; clear BK6; clear HB; have HO_508000 := n0_; have HO_510000 := n1_; have HO513 := n2_; have BK2 := n3_; have BK3 := n4_; have BK4 := n5_; have BK5 := n6_; have BK6 := n7_; have HB := n8_; clear n0_ n1_ n2_ n3_ n4_ n5_ n6_ n7_ n8_; have hnb80 := NB6_3.out; have hnc80 := NB3_6.out; have hcz81 := blk_cell BK6.out; have hfz81 := blk_frozen BK6.out; have hcz82 := blk_cell BK2.out; have hfz82 := blk_frozen BK2.out; have hcz83 := blk_cell BK3.out; have hfz83 := blk_frozen BK3.out; have hcz84 := blk_cell BK5.out; have hfz84 := blk_frozen BK5.out; have hcz85 := blk_cell BK4.out; have hfz85 := blk_frozen BK4.out) | (go_at_call 33; (with_reducible refine (match_greatest_fn1.calls k2 x13_2 A0 c0 l0 A2 c2 l2 (fun k_ => some k_ = (.slice Ao75 y511.length co75 : Value).ownBlock) (.slice Ao75 y511.length co75) y511 (fun k_ => some k_ = (.slice Ao72 x508000_2.length co72 : Value).ownBlock) (.slice Ao72 x508000_2.length co72) x508000_2 false t515 t516 w _ ?side1 ?side2 ?side3 ?side4 ?side5 ?side6 ?side7 gb2 gb3 gb5 gb4 gb6 ?sg1 ?sg2 ?sg3 ?sg4 ?sg5 ?sn1 ?sn2 ?sn3 ?sn4 ?sn5 A37.out).mono ?_); (case sg1 => exact (blk_cell BK2.out 0).trans rfl); (case sg2 => exact (blk_cell BK3.out 0).trans rfl); (case sg3 => exact (blk_cell BK5.out 0).trans rfl); (case sg4 => exact (blk_cell BK4.out 0).trans rfl); (case sg5 => exact (blk_cell BK6.out 0).trans rfl); (case sn1 => exact (fun hs_ => Or.elim hs_ (fun e_ => (fun e_ => (Kd.R_ne HO513.out BK2.out (by decide)) e_) e_) (fun e_ => (fun e_ => (Kd.R_ne HO_508000.out BK2.out (by decide)) e_) e_))); (case sn2 => exact (fun hs_ => Or.elim hs_ (fun e_ => (fun e_ => (Kd.R_ne HO513.out BK3.out (by decide)) e_) e_) (fun e_ => (fun e_ => (Kd.R_ne HO_508000.out BK3.out (by decide)) e_) e_))); (case sn3 => exact (fun hs_ => Or.elim hs_ (fun e_ => (fun e_ => (Kd.R_ne HO513.out BK5.out (by decide)) e_) e_) (fun e_ => (fun e_ => (Kd.R_ne HO_508000.out BK5.out (by decide)) e_) e_))); (case sn4 => exact (fun hs_ => Or.elim hs_ (fun e_ => (fun e_ => (Kd.R_ne HO513.out BK4.out (by decide)) e_) e_) (fun e_ => (fun e_ => (Kd.R_ne HO_508000.out BK4.out (by decide)) e_) e_))); (case sn5 => exact (fun hs_ => Or.elim hs_ (fun e_ => (fun e_ => (Kd.R_ne HO513.out BK6.out (by decide)) e_) e_) (fun e_ => (fun e_ => (Kd.R_ne HO_508000.out BK6.out (by decide)) e_) e_))); (case side1 => repeat (first | (with_reducible first | exact HB.out | apply below_alloc | apply pw_below_drewN | apply below_drew1 | refine below_set ?_ GE2.out | refine below_set ?_ GE3.out | refine below_set ?_ GE4.out | refine below_set ?_ GE5.out | refine below_set ?_ GE6.out) | exact HB.out)); (case side2 => exact HR0.out); (case side3 => exact HC0.out); (case side4 => exact HR2.out); (case side5 => exact HC2.out); (case side6 => exact Kd.R_tight rfl HO513.out); (case side7 => exact Kd.R_tight rfl HO_508000.out); rintro e w86 ⟨rfl, hy0, hy1, hb, hkp⟩; replace HO_510000 := Aside0.mk (Kd.R_mono (ok' := fun k_ => some k_ ≠ (.slice Ao75 y511.length co75 : Value).ownBlock) (Kd.R_keptB ((Kd.R_apart' HO_510000.out (Kd.R_typed HO_508000.out) (by decide))) hkp (fun k_ hk_ hs_ => Or.elim hs_ (fun e_ => (hk_.1) e_) (fun e_ => (hk_.2) e_))) (fun k_ hk_ => hk_.1.1)); replace BK2 := Aside0.mk (blk_kept BK2.out hkp (fun hs_ => Or.elim hs_ (fun e_ => (fun e_ => (Kd.R_ne HO513.out BK2.out (by decide)) e_) e_) (fun e_ => (fun e_ => (Kd.R_ne HO_508000.out BK2.out (by decide)) e_) e_))); replace BK3 := Aside0.mk (blk_kept BK3.out hkp (fun hs_ => Or.elim hs_ (fun e_ => (fun e_ => (Kd.R_ne HO513.out BK3.out (by decide)) e_) e_) (fun e_ => (fun e_ => (Kd.R_ne HO_508000.out BK3.out (by decide)) e_) e_))); replace BK4 := Aside0.mk (blk_kept BK4.out hkp (fun hs_ => Or.elim hs_ (fun e_ => (fun e_ => (Kd.R_ne HO513.out BK4.out (by decide)) e_) e_) (fun e_ => (fun e_ => (Kd.R_ne HO_508000.out BK4.out (by decide)) e_) e_))); replace BK5 := Aside0.mk (blk_kept BK5.out hkp (fun hs_ => Or.elim hs_ (fun e_ => (fun e_ => (Kd.R_ne HO513.out BK5.out (by decide)) e_) e_) (fun e_ => (fun e_ => (Kd.R_ne HO_508000.out BK5.out (by decide)) e_) e_))); replace BK6 := Aside0.mk (blk_kept BK6.out hkp (fun hs_ => Or.elim hs_ (fun e_ => (fun e_ => (Kd.R_ne HO513.out BK6.out (by decide)) e_) e_) (fun e_ => (fun e_ => (Kd.R_ne HO_508000.out BK6.out (by decide)) e_) e_))); replace HO_508000 := Aside0.mk (Kd.R_reok rfl hy1 (fun k_ e_ => HO_508000.out.1 k_ e_)); replace HO513 := Aside0.mk (Kd.R_reok rfl hy0 (fun k_ e_ => HO513.out.1 k_ e_)); replace HB := Aside0.mk hb; (try clear hb); (try clear hkp); (try clear hy0); (try clear hy1)))
     go_roundg k2
     case measure => have := HK1.out; have := HK2.out; omega
     case rel => exact ⟨(x12_2), (wrap64 (x13_2 + 1)), (t516), (t515), (.slice Ao72 x508000_2.length co72), (.slice Ao75 y511.length co75), (by first | rfl | (simp; done) | (simp [*]; done)), (by first | rfl | (simp; done) | (simp [*]; done)), H', ⟨by have := HK1.out; have := HK2.out; omega⟩, ⟨by (with_reducible repeat (first | apply Kd.R_alloc | apply Kd.R_drewN | apply Kd.R_drew)); exact HO_508000.out⟩, ⟨by (with_reducible repeat (first | apply Kd.R_alloc | apply Kd.R_drewN | apply Kd.R_drew)); exact Kd.R_mono HO513.out (fun _ hk => trivial)⟩, ⟨BK2.out⟩, ⟨BK3.out⟩, ⟨BK4.out⟩, ⟨BK5.out⟩, ⟨BK6.out⟩, ⟨HB.out⟩⟩
end Go.Proofs.Ytbmflpflmjfabaa.PAll
