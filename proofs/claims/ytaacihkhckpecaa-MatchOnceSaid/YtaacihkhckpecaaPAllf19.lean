-- Written by wip/tools/handprint.py: walks of the functions that the law reaches; Lean checks them.
import Derived.Test.YtaacihkhckpecaaPAllx0
import Derived.Test.YtaacihkhckpecaaMini
import Derived.Test.YtaacihkhckpecaaPAllf13
import Derived.Test.YtaacihkhckpecaaPAllf24
import Derived.Test.YtaacihkhckpecaaPAllf25
import Derived.Test.YtaacihkhckpecaaPAllf30
namespace Go.Proofs.Ytaacihkhckpecaa.PAll
open Go.RowKit Go.Proofs.YtaacihkhckpecaaW.PrintWords Go.Proofs.YtaacihkhckpecaaW.PrintLast Go.Proofs.YtaacihkhckpecaaW.PrintMore
attribute [local go_sem] max2_int min2_int max_two min_two max_three min_three max_four min_four   -- for this text's walks alone
set_option linter.unusedVariables false
set_option linter.unusedSimpArgs false

/-! ### match_Cover: function 19 -/
mutual
def match_Cover.l0 : Nat → List Bool → List Int → Int → Int → List (List Bool) → List Int → Option (List Int × List Int × Int)
 | 0, _, _, _, _, _, _ => none
 | k + 1, x8, x37, x38, x39, x205000, x215000 => if x39 < x38 then (if 0 ≤ x39 then (if x39 < (x37.length : Int) then (if (rd x37 x39) ≥ 0 then (if 0 ≤ (rd x37 x39) then (if (rd x37 x39) < (x8.length : Int) then (match_Cover.l0 k (x8.set ((rd x37 x39) : Int).toNat true) x37 x38 (wrap64 (x39 + 1)) x205000 x215000) else (none)) else (none)) else (match_Cover.l0 k x8 x37 x38 (wrap64 (x39 + 1)) x205000 x215000)) else (none)) else (none)) else (if 0 ≤ (x205000.length : Int) then (if ((x205000.length : Int) : Int).toNat ≤ 281474976710656 then (if 0 ≤ (x215000.length : Int) then (if ((x215000.length : Int) : Int).toNat ≤ 281474976710656 then (match_Cover.l1 k x8 (x205000.length : Int) 0 x205000 x215000 (List.replicate ((x205000.length : Int) : Int).toNat false) (List.replicate ((x215000.length : Int) : Int).toNat false)) else (none)) else (none)) else (none)) else (none))
def match_Cover.l1 : Nat → List Bool → Int → Int → List (List Bool) → List Int → List Bool → List Bool → Option (List Int × List Int × Int)
 | 0, _, _, _, _, _, _, _ => none
 | k + 1, x8, x57, x58, x205000, x215000, x227000, x228000 => if x58 < x57 then (if 0 ≤ x58 then (if x58 < (x8.length : Int) then (if rdOf false x8 x58 = true then (match_Cover.l1 k x8 x57 (wrap64 (x58 + 1)) x205000 x215000 x227000 x228000) else ((match_Cover_fn1.f k x58 x227000 x205000 x228000 x215000).bind fun bt230 => (match_Cover.l1 k x8 x57 (wrap64 (x58 + 1)) x205000 x215000 bt230.1 bt230.2))) else (none)) else (none)) else (match_Cover.l2 k ([] : List Int) x227000 (x227000.length : Int) 0 x228000)
def match_Cover.l2 : Nat → List Int → List Bool → Int → Int → List Bool → Option (List Int × List Int × Int)
 | 0, _, _, _, _, _ => none
 | k + 1, x15, x70, x71, x72, x228000 => if x72 < x71 then (if 0 ≤ x72 then (if x72 < (x70.length : Int) then (if rdOf false x70 x72 = true then (match_Cover.l2 k x15 x70 x71 (wrap64 (x72 + 1)) x228000) else (if x15.length < 17592186044416 then (match_Cover.l2 k (x15 ++ [x72]) x70 x71 (wrap64 (x72 + 1)) x228000) else (none))) else (none)) else (none)) else (match_Cover.l3 k x15 ([] : List Int) x228000 (x228000.length : Int) 0)
def match_Cover.l3 : Nat → List Int → List Int → List Bool → Int → Int → Option (List Int × List Int × Int)
 | 0, _, _, _, _, _ => none
 | k + 1, x15, x16, x84, x85, x86 => if x86 < x85 then (if 0 ≤ x86 then (if x86 < (x84.length : Int) then (if rdOf false x84 x86 = true then (if x16.length < 17592186044416 then (match_Cover.l3 k x15 (x16 ++ [x86]) x84 x85 (wrap64 (x86 + 1))) else (none)) else (match_Cover.l3 k x15 x16 x84 x85 (wrap64 (x86 + 1)))) else (none)) else (none)) else (some (x15, x16, 0))
end
def match_Cover.f (k : Nat) (l0 : List (List Bool)) : Option (List Int × List Int × Int) := (match_Check.f k l0).bind fun t205 => (if t205 = 0 then ((match_columns.f l0).bind fun t206 => (if 0 ≤ t206 then (if (t206 : Int).toNat ≤ 281474976710656 then ((match_greatest.f k l0 0 (List.replicate (t206 : Int).toNat false)).bind fun bt210 => (if 0 ≤ (l0.length : Int) then (if ((l0.length : Int) : Int).toNat ≤ 281474976710656 then (match_Cover.l0 k (List.replicate ((l0.length : Int) : Int).toNat false) bt210.1 (bt210.1.length : Int) 0 l0 bt210.1) else (none)) else (none))) else (none)) else (none))) else (some (([] : List Int), ([] : List Int), t205)))
theorem match_Cover.mono_l : ∀ k, (∀ y0 y1 y2 y3 y4 y5, LeO (match_Cover.l0 k y0 y1 y2 y3 y4 y5) (match_Cover.l0 (k + 1) y0 y1 y2 y3 y4 y5)) ∧ (∀ y0 y1 y2 y3 y4 y5 y6, LeO (match_Cover.l1 k y0 y1 y2 y3 y4 y5 y6) (match_Cover.l1 (k + 1) y0 y1 y2 y3 y4 y5 y6)) ∧ (∀ y0 y1 y2 y3 y4, LeO (match_Cover.l2 k y0 y1 y2 y3 y4) (match_Cover.l2 (k + 1) y0 y1 y2 y3 y4)) ∧ (∀ y0 y1 y2 y3 y4, LeO (match_Cover.l3 k y0 y1 y2 y3 y4) (match_Cover.l3 (k + 1) y0 y1 y2 y3 y4))
 | 0 => ⟨fun _ _ _ _ _ _ r h => by simp [match_Cover.l0] at h, fun _ _ _ _ _ _ _ r h => by simp [match_Cover.l1] at h, fun _ _ _ _ _ r h => by simp [match_Cover.l2] at h, fun _ _ _ _ _ r h => by simp [match_Cover.l3] at h⟩
 | k + 1 => by
  obtain ⟨ih0, ih1, ih2, ih3⟩ := match_Cover.mono_l k
  refine ⟨?_, ?_, ?_, ?_⟩
  ·
   intro y0 y1 y2 y3 y4 y5
   unfold match_Cover.l0
   repeat' first
   | (with_reducible exact ih0 _ _ _ _ _ _)
   | (with_reducible exact ih1 _ _ _ _ _ _ _)
   | (with_reducible exact ih2 _ _ _ _ _)
   | (with_reducible exact ih3 _ _ _ _ _)
   | (with_reducible exact match_Check.mono _ _)
   | (with_reducible exact match_Cover_fn1.mono _ _ _ _ _ _)
   | (with_reducible exact match_greatest.mono _ _ _ _)
   | (with_reducible exact LeO.refl _)
   | (with_reducible exact LeO.none _)
   | (with_reducible refine LeO.ite ?_ ?_)
   | (with_reducible refine LeO.bind ?_ (fun _ => ?_))
   | exact ih0 _ _ _ _ _ _
   | exact ih1 _ _ _ _ _ _ _
   | exact ih2 _ _ _ _ _
   | exact ih3 _ _ _ _ _
   | exact match_Check.mono _ _
   | exact match_Cover_fn1.mono _ _ _ _ _ _
   | exact match_greatest.mono _ _ _ _
   | exact LeO.none _
   | refine LeO.ite ?_ ?_
   | refine LeO.bind ?_ (fun _ => ?_)
  ·
   intro y0 y1 y2 y3 y4 y5 y6
   unfold match_Cover.l1
   repeat' first
   | (with_reducible exact ih0 _ _ _ _ _ _)
   | (with_reducible exact ih1 _ _ _ _ _ _ _)
   | (with_reducible exact ih2 _ _ _ _ _)
   | (with_reducible exact ih3 _ _ _ _ _)
   | (with_reducible exact match_Check.mono _ _)
   | (with_reducible exact match_Cover_fn1.mono _ _ _ _ _ _)
   | (with_reducible exact match_greatest.mono _ _ _ _)
   | (with_reducible exact LeO.refl _)
   | (with_reducible exact LeO.none _)
   | (with_reducible refine LeO.ite ?_ ?_)
   | (with_reducible refine LeO.bind ?_ (fun _ => ?_))
   | exact ih0 _ _ _ _ _ _
   | exact ih1 _ _ _ _ _ _ _
   | exact ih2 _ _ _ _ _
   | exact ih3 _ _ _ _ _
   | exact match_Check.mono _ _
   | exact match_Cover_fn1.mono _ _ _ _ _ _
   | exact match_greatest.mono _ _ _ _
   | exact LeO.none _
   | refine LeO.ite ?_ ?_
   | refine LeO.bind ?_ (fun _ => ?_)
  ·
   intro y0 y1 y2 y3 y4
   unfold match_Cover.l2
   repeat' first
   | (with_reducible exact ih0 _ _ _ _ _ _)
   | (with_reducible exact ih1 _ _ _ _ _ _ _)
   | (with_reducible exact ih2 _ _ _ _ _)
   | (with_reducible exact ih3 _ _ _ _ _)
   | (with_reducible exact match_Check.mono _ _)
   | (with_reducible exact match_Cover_fn1.mono _ _ _ _ _ _)
   | (with_reducible exact match_greatest.mono _ _ _ _)
   | (with_reducible exact LeO.refl _)
   | (with_reducible exact LeO.none _)
   | (with_reducible refine LeO.ite ?_ ?_)
   | (with_reducible refine LeO.bind ?_ (fun _ => ?_))
   | exact ih0 _ _ _ _ _ _
   | exact ih1 _ _ _ _ _ _ _
   | exact ih2 _ _ _ _ _
   | exact ih3 _ _ _ _ _
   | exact match_Check.mono _ _
   | exact match_Cover_fn1.mono _ _ _ _ _ _
   | exact match_greatest.mono _ _ _ _
   | exact LeO.none _
   | refine LeO.ite ?_ ?_
   | refine LeO.bind ?_ (fun _ => ?_)
  ·
   intro y0 y1 y2 y3 y4
   unfold match_Cover.l3
   repeat' first
   | (with_reducible exact ih0 _ _ _ _ _ _)
   | (with_reducible exact ih1 _ _ _ _ _ _ _)
   | (with_reducible exact ih2 _ _ _ _ _)
   | (with_reducible exact ih3 _ _ _ _ _)
   | (with_reducible exact match_Check.mono _ _)
   | (with_reducible exact match_Cover_fn1.mono _ _ _ _ _ _)
   | (with_reducible exact match_greatest.mono _ _ _ _)
   | (with_reducible exact LeO.refl _)
   | (with_reducible exact LeO.none _)
   | (with_reducible refine LeO.ite ?_ ?_)
   | (with_reducible refine LeO.bind ?_ (fun _ => ?_))
   | exact ih0 _ _ _ _ _ _
   | exact ih1 _ _ _ _ _ _ _
   | exact ih2 _ _ _ _ _
   | exact ih3 _ _ _ _ _
   | exact match_Check.mono _ _
   | exact match_Cover_fn1.mono _ _ _ _ _ _
   | exact match_greatest.mono _ _ _ _
   | exact LeO.none _
   | refine LeO.ite ?_ ?_
   | refine LeO.bind ?_ (fun _ => ?_)
theorem match_Cover.mono : ∀ a0 k, LeO (match_Cover.f k a0) (match_Cover.f (k + 1) a0) := by
 intro a0 k
 obtain ⟨ih0, ih1, ih2, ih3⟩ := match_Cover.mono_l k
 unfold match_Cover.f
 repeat' first
   | (with_reducible exact ih0 _ _ _ _ _ _)
   | (with_reducible exact ih1 _ _ _ _ _ _ _)
   | (with_reducible exact ih2 _ _ _ _ _)
   | (with_reducible exact ih3 _ _ _ _ _)
   | (with_reducible exact match_Check.mono _ _)
   | (with_reducible exact match_Cover_fn1.mono _ _ _ _ _ _)
   | (with_reducible exact match_greatest.mono _ _ _ _)
   | (with_reducible exact LeO.refl _)
   | (with_reducible exact LeO.none _)
   | (with_reducible refine LeO.ite ?_ ?_)
   | (with_reducible refine LeO.bind ?_ (fun _ => ?_))
   | exact ih0 _ _ _ _ _ _
   | exact ih1 _ _ _ _ _ _ _
   | exact ih2 _ _ _ _ _
   | exact ih3 _ _ _ _ _
   | exact match_Check.mono _ _
   | exact match_Cover_fn1.mono _ _ _ _ _ _
   | exact match_greatest.mono _ _ _ _
   | exact LeO.none _
   | refine LeO.ite ?_ ?_
   | refine LeO.bind ?_ (fun _ => ?_)
def match_Cover.T4 : Bool × List (List Nat × List Nat) := (true, [([], []), ([], []), ([1], [1]), ([2, 2], [2]), ([0, 3, 2], [0, 3]), ([4], [4]), ([5], [5]), ([5], [5]), ([], []), ([8, 6, 4, 0, 1, 2, 3, 4, 5, 6, 8], [6, 8]), ([7, 9, 0, 1, 2, 3, 4, 5, 6, 7, 8, 9], [7])])
def match_Cover.B4 : List Nat := [0, 0, 2, 6, 15, 31, 63, 63, 0, 383, 1023]
theorem match_Cover.tab4 : rtab .any (opsOf Try.f19 4) = match_Cover.T4 := by kernel_rfl
theorem match_Cover.bits4 : waitsOk match_Cover.T4.2 match_Cover.B4 = true := by kernel_rfl
def match_Cover.T12 : Bool × List (List Nat × List Nat) := (true, [([], []), ([0], [0]), ([1, 1], [1]), ([], []), ([3], [3]), ([4, 4], [4]), ([], []), ([], []), ([6, 2, 0, 1, 2, 6, 7], [2, 6]), ([7, 5, 8, 0, 1, 2, 3, 4, 5, 6, 7, 8], [5, 7])])
def match_Cover.B12 : List Nat := [0, 1, 3, 0, 8, 24, 0, 0, 199, 511]
theorem match_Cover.tab12 : rtab .any (opsOf Try.f19 12) = match_Cover.T12 := by kernel_rfl
theorem match_Cover.bits12 : waitsOk match_Cover.T12.2 match_Cover.B12 = true := by kernel_rfl
theorem match_Cover.run_store_func {P : Program} {w : World} {a : Addr} {m : Mode} (fn : Fn) (first cap : Array Value) : (store a (.func fn first cap) m).run P w = stored P w a (.func fn first cap) m := run_store P w a _ m rfl
attribute [local go_sem] match_Cover.run_store_func
set_option maxHeartbeats 8000000 in
set_option maxRecDepth 100000 in
theorem match_Cover.calls (k : Nat) (A0 : Option Addr) (c0 : Nat) (l0 : List (List Bool)) (r1 : List Int) (r2 : List Int) (r3 : Int) (w : World) (hr0 : Kd.C (Kd.slice 4 Kd.bool) w A0 l0.length l0) (hc0 : l0.length ≤ c0) (h : match_Cover.f k l0 = some (r1, r2, r3)) :
  Calls Try.prog 19 #[.slice A0 l0.length c0] w fun e w' => ∃ v0_ v1_ : Value, e = .returned (.tuple #[v0_, v1_, .int .i64 r3]) ∧ Kd.R (Kd.int .i64) 3 w' w.heap.size (fun k_ => some k_ ≠ (v1_ : Value).ownBlock) v0_ r1 ∧ Kd.R (Kd.int .i64) 3 w' w.heap.size (fun k_ => some k_ ≠ (v0_ : Value).ownBlock) v1_ r2 ∧ Below w.heap.size w w' := by
 have HR0 := Aside0.mk hr0
 have HC0 := Aside0.mk hc0
 clear hr0 hc0
 have HB := Aside0.mk (Below.refl w.heap.size w)
 have H : ((match_Check.f k l0).bind fun t205 => (if t205 = 0 then ((match_columns.f l0).bind fun t206 => (if 0 ≤ t206 then (if (t206 : Int).toNat ≤ 281474976710656 then ((match_greatest.f k l0 0 (List.replicate (t206 : Int).toNat false)).bind fun bt210 => (if 0 ≤ (l0.length : Int) then (if ((l0.length : Int) : Int).toNat ≤ 281474976710656 then (match_Cover.l0 k (List.replicate ((l0.length : Int) : Int).toNat false) bt210.1 (bt210.1.length : Int) 0 l0 bt210.1) else (none)) else (none))) else (none)) else (none))) else (some (([] : List Int), ([] : List Int), t205)))) = some (r1, r2, r3) := h
 clear h
 replace H := Option.bind_eq_some_iff.mp H
 obtain ⟨t205, A20, H⟩ := H
 try dsimp only at H
 have A2 := Aside0.mk A20
 clear A20
 by_cases c3 : t205 = 0
 rotate_left
 ·
  rw [if_neg c3] at H
  have c3b0 : (t205 == 0) = false := beq_eq_false_iff_ne.mpr c3
  have c3b1 : (t205 != 0) = true := bne_iff_ne.mpr c3
  simp only [Option.some.injEq, Prod.mk.injEq] at H
  obtain ⟨rfl, rfl, rfl⟩ := H
  have hmf : ∀ (fn : Fn) (first cap : Array Value) (w : World), (Instr.makeFunc fn first cap).run Try.prog w = .ok (.func fn first cap) w := fun _ _ _ _ => rfl
  go_enter Try.func19, Try.ntmps19
  go_wp2_with (first | ((with_reducible refine gate_dst (N := 1) rfl ?_); refine box_event ?hg (N := 1) ?hd (cs := #[.slice A0 l0.length c0]) (t := 22) ?hr ?_; (case hd => rfl); (case hg => rfl); (case hr => first | (go_simp; done) | (go_simp; rfl)); intro gb2 hg w113 hbox hb; have BK2 := Aside0.mk hbox; have GW2 := Aside0.mk ((by rw [hg]; exact (below_size (by repeat (first | (with_reducible first | exact HB.out | apply below_alloc | apply pw_below_drewN | apply below_drew1) | exact HB.out))) : w.heap.size ≤ gb2)); have GE2 := GW2; replace HB := Aside0.mk (below_step (by repeat (first | (with_reducible first | exact HB.out | apply below_alloc | apply pw_below_drewN | apply below_drew1) | exact HB.out)) hb); clear hb hbox hg; have hcz114 := blk_cell BK2.out; have hfz114 := blk_frozen BK2.out) | ((with_reducible refine gate_callee (f := 13) rfl ?_); refine goesL_ (some 22) rfl rfl Try.func13 (by kernel_rfl) rfl #[.slice A0 l0.length c0] rfl (by (try simp only [List.map_toArray, List.map_cons, List.map_nil]); first | done | rfl | (simp only [List.length_drop, List.length_take]; rfl)) ?_; (with_reducible refine (match_Check.calls k _ _ l0 t205 _ ?side1 ?side2 A2.out).mono ?_); (case side1 => repeat (first | exact (Kd.C_below HR0.out HB.out) | (with_reducible refine Kd.C_alloc ?_ _) | (with_reducible refine Kd.C_drewN ?_ _) | (with_reducible refine Kd.C_drew ?_))); (case side2 => exact HC0.out); rintro e w' ⟨rfl, ⟨nd, rfl⟩⟩; refine ⟨_, rfl, ?_⟩))
  go_ret3
  exact ⟨_, _, by first | rfl | (simp [errW_none, errW_some] <;> rfl) | (simp [*, errW_none, errW_some] <;> rfl), by first | exact Kd.R_nil _ _ _ _ _ | exact Kd.N_nil _ _ _ _ _ | exact Kd.V_nil _ _ _ _ _ | exact Kd.Q_nil _ _ _ _ _ | exact Kd.S_nil _ _ _ _ _, by first | exact Kd.R_nil _ _ _ _ _ | exact Kd.N_nil _ _ _ _ _ | exact Kd.V_nil _ _ _ _ _ | exact Kd.Q_nil _ _ _ _ _ | exact Kd.S_nil _ _ _ _ _, by repeat (first | (with_reducible first | exact HB.out | apply below_alloc | apply pw_below_drewN | apply below_drew1 | refine below_set ?_ GE2.out) | exact HB.out)⟩
 rw [if_pos c3] at H
 have c3b0 : (t205 == 0) = true := beq_iff_eq.mpr c3
 have c3b1 : (t205 != 0) = false := bne_eq_false_iff_eq.mpr c3
 clear c3
 replace H := Option.bind_eq_some_iff.mp H
 obtain ⟨t206, A40, H⟩ := H
 try dsimp only at H
 have A4 := Aside0.mk A40
 clear A40
 by_cases c5 : 0 ≤ t206
 rotate_left
 ·
  rw [if_neg c5] at H
  exact absurd H (by simp)
 rw [if_pos c5] at H
 have c5b0 := eq_true c5
 have c5b1 : decide (0 ≤ t206) = true := decide_eq_true c5
 clear c5
 by_cases c6 : (t206 : Int).toNat ≤ 281474976710656
 rotate_left
 ·
  rw [if_neg c6] at H
  exact absurd H (by simp)
 rw [if_pos c6] at H
 have c6b0 := eq_true c6
 have c6b1 : decide ((t206 : Int).toNat ≤ 281474976710656) = true := decide_eq_true c6
 clear c6
 obtain ⟨y207, hy207⟩ : ∃ y_ : List Bool, y_ = (List.replicate (t206 : Int).toNat false) := ⟨_, rfl⟩
 rw [← hy207] at H
 have Ny207 := Aside0.mk hy207
 clear hy207
 replace H := Option.bind_eq_some_iff.mp H
 obtain ⟨⟨t210, t211⟩, A70, H⟩ := H
 try dsimp only at H
 have A7 := Aside0.mk A70
 clear A70
 by_cases c8 : 0 ≤ (l0.length : Int)
 rotate_left
 ·
  rw [if_neg c8] at H
  exact absurd H (by simp)
 rw [if_pos c8] at H
 have c8b0 := eq_true c8
 have c8b1 : decide (0 ≤ (l0.length : Int)) = true := decide_eq_true c8
 clear c8
 by_cases c9 : ((l0.length : Int) : Int).toNat ≤ 281474976710656
 rotate_left
 ·
  rw [if_neg c9] at H
  exact absurd H (by simp)
 rw [if_pos c9] at H
 have c9b0 := eq_true c9
 have c9b1 : decide (((l0.length : Int) : Int).toNat ≤ 281474976710656) = true := decide_eq_true c9
 clear c9
 obtain ⟨y215, hy215⟩ : ∃ y_ : List Bool, y_ = (List.replicate ((l0.length : Int) : Int).toNat false) := ⟨_, rfl⟩
 rw [← hy215] at H
 have Ny215 := Aside0.mk hy215
 clear hy215
 have H' := Aside0.mk H
 clear H
 have hmf : ∀ (fn : Fn) (first cap : Array Value) (w : World), (Instr.makeFunc fn first cap).run Try.prog w = .ok (.func fn first cap) w := fun _ _ _ _ => rfl
 go_enter Try.func19, Try.ntmps19
 try go_wp2_with (first | ((with_reducible refine gate_dst (N := 1) rfl ?_); refine box_event ?hg (N := 1) ?hd (cs := #[.slice A0 l0.length c0]) (t := 22) ?hr ?_; (case hd => rfl); (case hg => rfl); (case hr => first | (go_simp; done) | (go_simp; rfl)); intro gb2 hg w10 hbox hb; have BK2 := Aside0.mk hbox; have GW2 := Aside0.mk ((by rw [hg]; exact (below_size (by repeat (first | (with_reducible first | exact HB.out | apply below_alloc | apply pw_below_drewN | apply below_drew1) | exact HB.out))) : w.heap.size ≤ gb2)); have GE2 := GW2; replace HB := Aside0.mk (below_step (by repeat (first | (with_reducible first | exact HB.out | apply below_alloc | apply pw_below_drewN | apply below_drew1) | exact HB.out)) hb); clear hb hbox hg; have hcz11 := blk_cell BK2.out; have hfz11 := blk_frozen BK2.out) | ((with_reducible refine gate_callee (f := 13) rfl ?_); refine goesL_ (some 22) rfl rfl Try.func13 (by kernel_rfl) rfl #[.slice A0 l0.length c0] rfl (by (try simp only [List.map_toArray, List.map_cons, List.map_nil]); first | done | rfl | (simp only [List.length_drop, List.length_take]; rfl)) ?_; (with_reducible refine (match_Check.calls k _ _ l0 t205 _ ?side1 ?side2 A2.out).mono ?_); (case side1 => repeat (first | exact (Kd.C_below HR0.out HB.out) | (with_reducible refine Kd.C_alloc ?_ _) | (with_reducible refine Kd.C_drewN ?_ _) | (with_reducible refine Kd.C_drew ?_))); (case side2 => exact HC0.out); rintro e w' ⟨rfl, ⟨nd, rfl⟩⟩; refine ⟨_, rfl, ?_⟩; (try (rw [drewN_self w10]; generalize hq_ : World.drewN w10 _ = w10; have n0_ : Aside0 (w10.heap[gb2]? = some (.cells #[.slice A0 l0.length c0] 22 (0, 0))) := ⟨by rw [← hq_]; exact BK2.out⟩; have n1_ : Aside0 (Below w.heap.size w w10) := ⟨by rw [← hq_]; exact (by repeat (first | (with_reducible first | exact HB.out | apply below_alloc | apply pw_below_drewN | apply below_drew1 | refine below_set ?_ GE2.out) | exact HB.out))⟩; clear BK2 HB hq_; have BK2 := n0_; have HB := n1_; clear n0_ n1_))))
 replace BK2 := Aside0.mk (blk_drew BK2.out); replace HB := Aside0.mk (below_drew1 HB.out)
 refine start_ (n := 11) (S := fun w' => w'.cell? ⟨gb2, 0, none⟩ = some (.slice A0 l0.length c0)) (ds := []) #[false, false, false, false, false, false, false, false, false, false, false] (by kernel_rfl) rfl rfl ((blk_cell BK2.out 0).trans rfl) (fun hHeld => ?_); refine with_tabW match_Cover.tab4 match_Cover.bits4 (fun HT_ HW_ => ?_)
 generalize w10.drew = w12 at BK2 HB hHeld ⊢
 refine take_ (i := 0) (N := some 27) (v := ?_) (a' := ?_) #[true, false, false, false, false, false, false, false, false, false, false] rfl rfl (take_ofW HT_.out HW_.out (by kernel_rfl)) (fun _ _ _ h => h) (Or.inl ⟨by rfl, ?_⟩) hHeld ?_ ?_
 rotate_left
 ·
  intro w' s0
  go_simp
  with_reducible rfl
 rotate_left
 ·
  simp only [Act.put, List.setIfInBounds_toArray, List.set_cons_zero, List.set_cons_succ, i64_w, i32_w]
  rfl
 refine take_ (i := 1) (N := some 28) (v := ?_) (a' := ?_) #[true, true, false, false, false, false, false, false, false, false, false] rfl rfl (take_ofW HT_.out HW_.out (by kernel_rfl)) (fun _ _ _ h => h) (Or.inl ⟨by rfl, ?_⟩) hHeld ?_ ?_
 rotate_left
 ·
  intro w' s0
  go_simp
  with_reducible rfl
 rotate_left
 ·
  simp only [Act.put, List.setIfInBounds_toArray, List.set_cons_zero, List.set_cons_succ, i64_w, i32_w]
  rfl
 refine join_ (σ := Value × Value × Nat) 2 #[true, true, true, true, true, true, true, true, true, false, false] (fun s_ => [(29, .int .i64 t206), (30, s_.1), (31, .tuple #[s_.2.1, .int .i64 t211]), (6, .pointer (some ⟨s_.2.2, 0, none⟩)), (26, .tuple #[s_.2.1, .int .i64 t211]), (32, s_.2.1), (33, .int .i64 t211)]) (fun s_ w' => (w'.cell? ⟨gb2, 0, none⟩ = some (.slice A0 l0.length c0)) ∧ (Kd.R Kd.bool 4 w' w.heap.size (fun _ => True) s_.1 y207) ∧ (Kd.R (Kd.int .i64) 3 w' w.heap.size (fun _ => True) s_.2.1 t210) ∧ (w'.heap[gb2]? = some (.cells #[.slice A0 l0.length c0] 22 (0, 0))) ∧ (w'.heap[s_.2.2]? = some (.cells #[.slice none 0 0] 29 (0, 0))) ∧ (w.heap.size ≤ s_.2.2) ∧ (w.heap.size ≤ s_.2.2) ∧ (gb2 ≠ s_.2.2) ∧ (s_.2.2 ≠ gb2) ∧ (Below w.heap.size w w')) ?_ ?_
 rotate_left
 ·
  intro hCont
  refine two_ (i := 2) (j := 8) (Ni := some 29) (Nj := some 6) #[true, true, true, false, false, false, false, false, false, false, false] #[true, true, false, false, false, false, false, false, true, false, false] rfl rfl rfl rfl (two_of HT_.out (by kernel_rfl)) (by decide) (by decide) (fun K hK => ?_) (fun K hK => ?_)
  ·
   skip
   refine goes_ Try.func25 (by kernel_rfl) rfl #[.slice A0 l0.length c0] (by rfl) rfl rfl (by (try simp only [List.map_toArray, List.map_cons, List.map_nil]); first | done | rfl | (simp only [List.length_drop, List.length_take]; rfl)) ?_
   with_reducible refine (match_columns.calls _ _ l0 t206 _ ?side1 ?side2 A4.out).mono ?_
   (case side1 => repeat (first | exact (Kd.C_below HR0.out HB.out) | (with_reducible refine Kd.C_alloc ?_ _) | (with_reducible refine Kd.C_drewN ?_ _) | (with_reducible refine Kd.C_drew ?_)))
   (case side2 => exact HC0.out)
   rintro e w' ⟨rfl, ⟨nd, rfl⟩⟩
   refine ⟨_, rfl, ?_⟩
   refine hK.out _ _ (blk_cell BK2.out 0) (fun hHeld => ?_)
   clear hK K
   refine norm_ (a' := ?_) ?_ ?_
   rotate_left
   ·
    show Act.put _ (some 29) _ = _
    simp only [Act.put, List.setIfInBounds_toArray, List.set_cons_zero, List.set_cons_succ, i64_w, i32_w]
    rfl
   refine two_ (i := 3) (j := 8) (Ni := some 30) (Nj := some 6) #[true, true, true, true, false, false, false, false, false, false, false] #[true, true, true, false, false, false, false, false, true, false, false] rfl rfl rfl rfl (two_of HT_.out (by kernel_rfl)) (by decide) (by decide) (fun K hK => ?_) (fun K hK => ?_)
   ·
    skip
    refine Kd.R_make_step Kd.bool _ 4 (by rfl) (N := 30) rfl 38 _ _ rfl t206 rfl rfl Try.underlying38 (.bool false) 1 info4 rfl (by decide) (by omega) false (ok := fun _ => True) (okp := fun _ => True) rfl (fun _ hk => hk) trivial (of_decide_eq_true (by first | (with_reducible assumption) | assumption)) (Nat.le_trans (Nat.mul_le_mul_right _ (of_decide_eq_true (by first | (with_reducible assumption) | assumption) : t206.toNat ≤ 281474976710656)) (by omega)) (Below.refl _ _) (Nat.le_refl _) ?_
    intro v208 w13 ho14 hb hg_ hnew_
    clear hg_ hnew_
    (first | rw [← Ny207.out] at ho14 | (simp only [Int.reduceToNat] at ho14; rw [← Ny207.out] at ho14))
    have n0_ := Aside0.mk (Kd.R_lower ho14 (below_size (by repeat (first | (with_reducible first | exact HB.out | apply below_alloc | apply pw_below_drewN | apply below_drew1 | refine below_set ?_ GE2.out) | exact HB.out)))); have n1_ := Aside0.mk (blk_below (g := gb2) (o := .cells #[.slice A0 l0.length c0] 22 (0, 0)) (by (with_reducible repeat (first | refine blk_drewN ?_ _ | refine blk_drew ?_ | refine blk_alloc ?_ _)); exact BK2.out) hb); have n2_ := Aside0.mk (below_step (by repeat (first | (with_reducible first | exact HB.out | apply below_alloc | apply pw_below_drewN | apply below_drew1 | refine below_set ?_ GE2.out) | exact HB.out)) hb); clear BK2; clear HB; have HO209 := n0_; have BK2 := n1_; have HB := n2_; clear n0_ n1_ n2_
    clear hb ho14
    obtain ⟨Ao15, co15, eo15⟩ := Kd.R_slice HO209.out
    (first | subst eo15 | (injection eo15 with f1_ f2_ f3_; have f4_ := f1_.symm; have f5_ := f3_.symm; clear f1_ f2_ f3_; subst f4_; subst f5_))
    refine hK.out _ _ (blk_cell BK2.out 0) (fun hHeld => ?_)
    clear hK K
    refine norm_ (a' := ?_) ?_ ?_
    rotate_left
    ·
     show Act.put _ (some 30) _ = _
     simp only [Act.put, List.setIfInBounds_toArray, List.set_cons_zero, List.set_cons_succ, i64_w, i32_w]
     rfl
    refine two_ (i := 4) (j := 8) (Ni := some 31) (Nj := some 6) #[true, true, true, true, true, false, false, false, false, false, false] #[true, true, true, true, false, false, false, false, true, false, false] rfl rfl rfl rfl (two_of HT_.out (by kernel_rfl)) (by decide) (by decide) (fun K hK => ?_) (fun K hK => ?_)
    ·
     skip
     refine goes_ Try.func24 (by kernel_rfl) rfl #[.slice A0 l0.length c0, .int .i64 0, .slice Ao15 y207.length co15] (by rfl) rfl rfl (by (try simp only [List.map_toArray, List.map_cons, List.map_nil]); first | done | rfl | (simp only [List.length_drop, List.length_take]; rfl)) ?_
     with_reducible refine (match_greatest.calls k _ _ l0 0 _ _ y207 t210 t211 _ ?side1 ?side2 ?side3 ?side4 A7.out).mono ?_
     (case side1 => repeat (first | exact (Kd.C_below HR0.out HB.out) | (with_reducible refine Kd.C_alloc ?_ _) | (with_reducible refine Kd.C_drewN ?_ _) | (with_reducible refine Kd.C_drew ?_)))
     (case side2 => exact HC0.out)
     (case side3 => repeat (first | exact (Kd.R_reads' HO209.out).2.2 | (with_reducible refine Kd.C_alloc ?_ _) | (with_reducible refine Kd.C_drewN ?_ _) | (with_reducible refine Kd.C_drew ?_)))
     (case side4 => exact (Kd.R_reads' HO209.out).2.1)
     rintro e w16 ⟨v212, rfl, ho0, hb⟩
     refine ⟨_, rfl, ?_⟩
     replace HO209 := Aside0.mk (Kd.R_below (by (with_reducible repeat (first | apply Kd.R_alloc | apply Kd.R_drewN | apply Kd.R_drew)); exact HO209.out) hb); have HO213 := Aside0.mk (Kd.R_lower ho0 (below_size (by repeat (first | (with_reducible first | exact HB.out | apply below_alloc | apply pw_below_drewN | apply below_drew1 | refine below_set ?_ GE2.out) | exact HB.out)))); replace BK2 := mBb BK2 hb; replace HB := Aside0.mk (below_step (by repeat (first | (with_reducible first | exact HB.out | apply below_alloc | apply pw_below_drewN | apply below_drew1 | refine below_set ?_ GE2.out) | exact HB.out)) hb)
     (try clear hb)
     (try clear hb2)
     (try clear hk)
     (try clear hi)
     (try clear ho0)
     refine hK.out _ _ (blk_cell BK2.out 0) (fun hHeld => ?_)
     clear hK K
     refine norm_ (a' := ?_) ?_ ?_
     rotate_left
     ·
      show Act.put _ (some 31) _ = _
      simp only [Act.put, List.setIfInBounds_toArray, List.set_cons_zero, List.set_cons_succ, i64_w, i32_w]
      rfl
     refine pure_ (i := 5) (N := some 26) (v := ?_) (a' := ?_) #[true, true, true, true, true, true, false, false, false, false, false] rfl rfl (any_of HT_.out (by kernel_rfl)) (fun _ _ _ h => h) (Or.inl ⟨by rfl, ?_⟩) ?_ ?_
     rotate_left
     ·
      intro w'
      go_simp
      with_reducible rfl
     rotate_left
     ·
      simp only [Act.put, List.setIfInBounds_toArray, List.set_cons_zero, List.set_cons_succ, i64_w, i32_w]
      rfl
     refine pure_ (i := 6) (N := some 32) (v := ?_) (a' := ?_) #[true, true, true, true, true, true, true, false, false, false, false] rfl rfl (any_of HT_.out (by kernel_rfl)) (fun _ _ _ h => h) (Or.inl ⟨by rfl, ?_⟩) ?_ ?_
     rotate_left
     ·
      intro w'
      go_simp
      with_reducible rfl
     rotate_left
     ·
      simp only [Act.put, List.setIfInBounds_toArray, List.set_cons_zero, List.set_cons_succ, i64_w, i32_w]
      rfl
     refine pure_ (i := 7) (N := some 33) (v := ?_) (a' := ?_) #[true, true, true, true, true, true, true, true, false, false, false] rfl rfl (any_of HT_.out (by kernel_rfl)) (fun _ _ _ h => h) (Or.inl ⟨by rfl, ?_⟩) ?_ ?_
     rotate_left
     ·
      intro w'
      go_simp
      with_reducible rfl
     rotate_left
     ·
      simp only [Act.put, List.setIfInBounds_toArray, List.set_cons_zero, List.set_cons_succ, i64_w, i32_w]
      rfl
     refine one_ (i := 8) (N := some 6) #[true, true, true, true, true, true, true, true, true, false, false] rfl rfl (one_of HT_.out (by kernel_rfl)) (by decide) (fun K hK => ?_)
     refine box_step ?hg (N := 6) ?hd (cs := #[.slice none 0 0]) (t := 29) ?hr ?_; (case hd => rfl); (case hg => rfl); (case hr => first | (go_simp; done) | (go_simp; rfl))
     intro gb3 hg w17 hbox hb
     replace HO209 := Aside0.mk (Kd.R_below (by (with_reducible repeat (first | apply Kd.R_alloc | apply Kd.R_drewN | apply Kd.R_drew)); exact HO209.out) hb); replace HO213 := Aside0.mk (Kd.R_below (by (with_reducible repeat (first | apply Kd.R_alloc | apply Kd.R_drewN | apply Kd.R_drew)); exact HO213.out) hb); have BK3 := Aside0.mk hbox; have GW3 := Aside0.mk ((by rw [hg]; exact (below_size (by repeat (first | (with_reducible first | exact HB.out | apply below_alloc | apply pw_below_drewN | apply below_drew1 | refine below_set ?_ GE2.out) | exact HB.out))) : w.heap.size ≤ gb3)); have GE3 := GW3; replace HB := Aside0.mk (below_step (by repeat (first | (with_reducible first | exact HB.out | apply below_alloc | apply pw_below_drewN | apply below_drew1 | refine below_set ?_ GE2.out) | exact HB.out)) hb); have NB2_3 := mNe BK2 hg; have NB3_2 := mSy NB2_3; replace BK2 := mBb BK2 hb
     clear hb hbox hg
     refine hK.out _ _ (blk_cell BK2.out 0) (fun hHeld => ?_)
     clear hK K
     refine norm_ (a' := ?_) ?_ ?_
     rotate_left
     ·
      show Act.put _ (some 6) _ = _
      simp only [Act.put, List.setIfInBounds_toArray, List.set_cons_zero, List.set_cons_succ, i64_w, i32_w]
      rfl
     exact norm_ (by simp only [putAll, Act.put, List.setIfInBounds_toArray, List.set_cons_zero, List.set_cons_succ]) (hCont (.slice Ao15 y207.length co15, v212, gb3) _ ⟨hHeld, (by (with_reducible repeat (first | apply Kd.R_alloc | apply Kd.R_drewN | apply Kd.R_drew)); exact HO209.out), (by (with_reducible repeat (first | apply Kd.R_alloc | apply Kd.R_drewN | apply Kd.R_drew)); exact HO213.out), BK2.out, BK3.out, GW3.out, GE3.out, NB2_3.out, NB3_2.out, (by repeat (first | (with_reducible first | exact HB.out | apply below_alloc | apply pw_below_drewN | apply below_drew1 | refine below_set ?_ GE2.out | refine below_set ?_ GE3.out) | exact HB.out))⟩)
    ·
     skip
     refine box_step ?hg (N := 6) ?hd (cs := #[.slice none 0 0]) (t := 29) ?hr ?_; (case hd => rfl); (case hg => rfl); (case hr => first | (go_simp; done) | (go_simp; rfl))
     intro gb3 hg w15 hbox hb
     replace HO209 := Aside0.mk (Kd.R_below (by (with_reducible repeat (first | apply Kd.R_alloc | apply Kd.R_drewN | apply Kd.R_drew)); exact HO209.out) hb); have BK3 := Aside0.mk hbox; have GW3 := Aside0.mk ((by rw [hg]; exact (below_size (by repeat (first | (with_reducible first | exact HB.out | apply below_alloc | apply pw_below_drewN | apply below_drew1 | refine below_set ?_ GE2.out) | exact HB.out))) : w.heap.size ≤ gb3)); have GE3 := GW3; replace HB := Aside0.mk (below_step (by repeat (first | (with_reducible first | exact HB.out | apply below_alloc | apply pw_below_drewN | apply below_drew1 | refine below_set ?_ GE2.out) | exact HB.out)) hb); have NB2_3 := mNe BK2 hg; have NB3_2 := mSy NB2_3; replace BK2 := mBb BK2 hb
     clear hb hbox hg
     obtain ⟨Ao16, co16, eo16⟩ := Kd.R_slice HO209.out
     (first | subst eo16 | (injection eo16 with f1_ f2_ f3_; have f4_ := f1_.symm; have f5_ := f3_.symm; clear f1_ f2_ f3_; subst f4_; subst f5_))
     refine hK.out _ _ (blk_cell BK2.out 0) (fun hHeld => ?_)
     clear hK K
     refine norm_ (a' := ?_) ?_ ?_
     rotate_left
     ·
      show Act.put _ (some 6) _ = _
      simp only [Act.put, List.setIfInBounds_toArray, List.set_cons_zero, List.set_cons_succ, i64_w, i32_w]
      rfl
     refine one_ (i := 4) (N := some 31) #[true, true, true, true, true, false, false, false, true, false, false] rfl rfl (one_of HT_.out (by kernel_rfl)) (by decide) (fun K hK => ?_)
     refine goes_ Try.func24 (by kernel_rfl) rfl #[.slice A0 l0.length c0, .int .i64 0, .slice Ao16 y207.length co16] (by rfl) rfl rfl (by (try simp only [List.map_toArray, List.map_cons, List.map_nil]); first | done | rfl | (simp only [List.length_drop, List.length_take]; rfl)) ?_
     with_reducible refine (match_greatest.calls k _ _ l0 0 _ _ y207 t210 t211 _ ?side1 ?side2 ?side3 ?side4 A7.out).mono ?_
     (case side1 => repeat (first | exact (Kd.C_below HR0.out HB.out) | (with_reducible refine Kd.C_alloc ?_ _) | (with_reducible refine Kd.C_drewN ?_ _) | (with_reducible refine Kd.C_drew ?_)))
     (case side2 => exact HC0.out)
     (case side3 => repeat (first | exact (Kd.R_reads' HO209.out).2.2 | (with_reducible refine Kd.C_alloc ?_ _) | (with_reducible refine Kd.C_drewN ?_ _) | (with_reducible refine Kd.C_drew ?_)))
     (case side4 => exact (Kd.R_reads' HO209.out).2.1)
     rintro e w17 ⟨v212, rfl, ho0, hb⟩
     refine ⟨_, rfl, ?_⟩
     replace HO209 := Aside0.mk (Kd.R_below (by (with_reducible repeat (first | apply Kd.R_alloc | apply Kd.R_drewN | apply Kd.R_drew)); exact HO209.out) hb); have HO213 := Aside0.mk (Kd.R_lower ho0 (below_size (by repeat (first | (with_reducible first | exact HB.out | apply below_alloc | apply pw_below_drewN | apply below_drew1 | refine below_set ?_ GE2.out | refine below_set ?_ GE3.out) | exact HB.out)))); replace BK2 := mBb BK2 hb; replace BK3 := mBb BK3 hb; replace HB := Aside0.mk (below_step (by repeat (first | (with_reducible first | exact HB.out | apply below_alloc | apply pw_below_drewN | apply below_drew1 | refine below_set ?_ GE2.out | refine below_set ?_ GE3.out) | exact HB.out)) hb)
     (try clear hb)
     (try clear hb2)
     (try clear hk)
     (try clear hi)
     (try clear ho0)
     refine hK.out _ _ (blk_cell BK2.out 0) (fun hHeld => ?_)
     clear hK K
     refine norm_ (a' := ?_) ?_ ?_
     rotate_left
     ·
      show Act.put _ (some 31) _ = _
      simp only [Act.put, List.setIfInBounds_toArray, List.set_cons_zero, List.set_cons_succ, i64_w, i32_w]
      rfl
     refine pure_ (i := 5) (N := some 26) (v := ?_) (a' := ?_) #[true, true, true, true, true, true, false, false, true, false, false] rfl rfl (any_of HT_.out (by kernel_rfl)) (fun _ _ _ h => h) (Or.inl ⟨by rfl, ?_⟩) ?_ ?_
     rotate_left
     ·
      intro w'
      go_simp
      with_reducible rfl
     rotate_left
     ·
      simp only [Act.put, List.setIfInBounds_toArray, List.set_cons_zero, List.set_cons_succ, i64_w, i32_w]
      rfl
     refine pure_ (i := 6) (N := some 32) (v := ?_) (a' := ?_) #[true, true, true, true, true, true, true, false, true, false, false] rfl rfl (any_of HT_.out (by kernel_rfl)) (fun _ _ _ h => h) (Or.inl ⟨by rfl, ?_⟩) ?_ ?_
     rotate_left
     ·
      intro w'
      go_simp
      with_reducible rfl
     rotate_left
     ·
      simp only [Act.put, List.setIfInBounds_toArray, List.set_cons_zero, List.set_cons_succ, i64_w, i32_w]
      rfl
     refine pure_ (i := 7) (N := some 33) (v := ?_) (a' := ?_) #[true, true, true, true, true, true, true, true, true, false, false] rfl rfl (any_of HT_.out (by kernel_rfl)) (fun _ _ _ h => h) (Or.inl ⟨by rfl, ?_⟩) ?_ ?_
     rotate_left
     ·
      intro w'
      go_simp
      with_reducible rfl
     rotate_left
     ·
      simp only [Act.put, List.setIfInBounds_toArray, List.set_cons_zero, List.set_cons_succ, i64_w, i32_w]
      rfl
     exact norm_ (by simp only [putAll, Act.put, List.setIfInBounds_toArray, List.set_cons_zero, List.set_cons_succ]) (hCont (.slice Ao16 y207.length co16, v212, gb3) _ ⟨hHeld, (by (with_reducible repeat (first | apply Kd.R_alloc | apply Kd.R_drewN | apply Kd.R_drew)); exact HO209.out), (by (with_reducible repeat (first | apply Kd.R_alloc | apply Kd.R_drewN | apply Kd.R_drew)); exact HO213.out), BK2.out, BK3.out, GW3.out, GE3.out, NB2_3.out, NB3_2.out, (by repeat (first | (with_reducible first | exact HB.out | apply below_alloc | apply pw_below_drewN | apply below_drew1 | refine below_set ?_ GE2.out | refine below_set ?_ GE3.out) | exact HB.out))⟩)
   ·
    skip
    refine box_step ?hg (N := 6) ?hd (cs := #[.slice none 0 0]) (t := 29) ?hr ?_; (case hd => rfl); (case hg => rfl); (case hr => first | (go_simp; done) | (go_simp; rfl))
    intro gb3 hg w13 hbox hb
    have n0_ := Aside0.mk (blk_below (g := gb2) (o := .cells #[.slice A0 l0.length c0] 22 (0, 0)) (by (with_reducible repeat (first | refine blk_drewN ?_ _ | refine blk_drew ?_ | refine blk_alloc ?_ _)); exact BK2.out) hb); have n1_ := Aside0.mk (below_step (by repeat (first | (with_reducible first | exact HB.out | apply below_alloc | apply pw_below_drewN | apply below_drew1 | refine below_set ?_ GE2.out) | exact HB.out)) hb); have n2_ := Aside0.mk (hbox); have n3_ := Aside0.mk ((by rw [hg]; exact (below_size (by repeat (first | (with_reducible first | exact HB.out | apply below_alloc | apply pw_below_drewN | apply below_drew1 | refine below_set ?_ GE2.out) | exact HB.out))) : w.heap.size ≤ gb3)); have n4_ := Aside0.mk ((by rw [hg]; exact (below_size (by repeat (first | (with_reducible first | exact HB.out | apply below_alloc | apply pw_below_drewN | apply below_drew1 | refine below_set ?_ GE2.out) | exact HB.out))) : w.heap.size ≤ gb3)); have n5_ := Aside0.mk ((by rw [hg]; exact Nat.ne_of_lt (blk_lt (g := gb2) (o := .cells #[.slice A0 l0.length c0] 22 (0, 0)) (by (with_reducible repeat (first | refine blk_drewN ?_ _ | refine blk_drew ?_ | refine blk_alloc ?_ _)); exact BK2.out)) : gb2 ≠ gb3)); have n6_ := Aside0.mk ((by rw [hg]; exact Nat.ne_of_gt (blk_lt (g := gb2) (o := .cells #[.slice A0 l0.length c0] 22 (0, 0)) (by (with_reducible repeat (first | refine blk_drewN ?_ _ | refine blk_drew ?_ | refine blk_alloc ?_ _)); exact BK2.out)) : gb3 ≠ gb2)); clear BK2; clear HB; have BK2 := n0_; have HB := n1_; have BK3 := n2_; have GW3 := n3_; have GE3 := n4_; have NB2_3 := n5_; have NB3_2 := n6_; clear n0_ n1_ n2_ n3_ n4_ n5_ n6_
    clear hb hbox hg
    refine hK.out _ _ (blk_cell BK2.out 0) (fun hHeld => ?_)
    clear hK K
    refine norm_ (a' := ?_) ?_ ?_
    rotate_left
    ·
     show Act.put _ (some 6) _ = _
     simp only [Act.put, List.setIfInBounds_toArray, List.set_cons_zero, List.set_cons_succ, i64_w, i32_w]
     rfl
    refine one_ (i := 3) (N := some 30) #[true, true, true, true, false, false, false, false, true, false, false] rfl rfl (one_of HT_.out (by kernel_rfl)) (by decide) (fun K hK => ?_)
    refine Kd.R_make_step Kd.bool _ 4 (by rfl) (N := 30) rfl 38 _ _ rfl t206 rfl rfl Try.underlying38 (.bool false) 1 info4 rfl (by decide) (by omega) false (ok := fun _ => True) (okp := fun _ => True) rfl (fun _ hk => hk) trivial (of_decide_eq_true (by first | (with_reducible assumption) | assumption)) (Nat.le_trans (Nat.mul_le_mul_right _ (of_decide_eq_true (by first | (with_reducible assumption) | assumption) : t206.toNat ≤ 281474976710656)) (by omega)) (Below.refl _ _) (Nat.le_refl _) ?_
    intro v208 w14 ho15 hb hg_ hnew_
    clear hg_ hnew_
    (first | rw [← Ny207.out] at ho15 | (simp only [Int.reduceToNat] at ho15; rw [← Ny207.out] at ho15))
    have HO209 := Aside0.mk (Kd.R_lower ho15 (below_size (by repeat (first | (with_reducible first | exact HB.out | apply below_alloc | apply pw_below_drewN | apply below_drew1 | refine below_set ?_ GE2.out | refine below_set ?_ GE3.out) | exact HB.out)))); replace BK2 := mBb BK2 hb; replace BK3 := mBb BK3 hb; replace HB := Aside0.mk (below_step (by repeat (first | (with_reducible first | exact HB.out | apply below_alloc | apply pw_below_drewN | apply below_drew1 | refine below_set ?_ GE2.out | refine below_set ?_ GE3.out) | exact HB.out)) hb)
    clear hb ho15
    obtain ⟨Ao16, co16, eo16⟩ := Kd.R_slice HO209.out
    (first | subst eo16 | (injection eo16 with f1_ f2_ f3_; have f4_ := f1_.symm; have f5_ := f3_.symm; clear f1_ f2_ f3_; subst f4_; subst f5_))
    refine hK.out _ _ (blk_cell BK2.out 0) (fun hHeld => ?_)
    clear hK K
    refine norm_ (a' := ?_) ?_ ?_
    rotate_left
    ·
     show Act.put _ (some 30) _ = _
     simp only [Act.put, List.setIfInBounds_toArray, List.set_cons_zero, List.set_cons_succ, i64_w, i32_w]
     rfl
    refine one_ (i := 4) (N := some 31) #[true, true, true, true, true, false, false, false, true, false, false] rfl rfl (one_of HT_.out (by kernel_rfl)) (by decide) (fun K hK => ?_)
    refine goes_ Try.func24 (by kernel_rfl) rfl #[.slice A0 l0.length c0, .int .i64 0, .slice Ao16 y207.length co16] (by rfl) rfl rfl (by (try simp only [List.map_toArray, List.map_cons, List.map_nil]); first | done | rfl | (simp only [List.length_drop, List.length_take]; rfl)) ?_
    with_reducible refine (match_greatest.calls k _ _ l0 0 _ _ y207 t210 t211 _ ?side1 ?side2 ?side3 ?side4 A7.out).mono ?_
    (case side1 => repeat (first | exact (Kd.C_below HR0.out HB.out) | (with_reducible refine Kd.C_alloc ?_ _) | (with_reducible refine Kd.C_drewN ?_ _) | (with_reducible refine Kd.C_drew ?_)))
    (case side2 => exact HC0.out)
    (case side3 => repeat (first | exact (Kd.R_reads' HO209.out).2.2 | (with_reducible refine Kd.C_alloc ?_ _) | (with_reducible refine Kd.C_drewN ?_ _) | (with_reducible refine Kd.C_drew ?_)))
    (case side4 => exact (Kd.R_reads' HO209.out).2.1)
    rintro e w17 ⟨v212, rfl, ho0, hb⟩
    refine ⟨_, rfl, ?_⟩
    replace HO209 := Aside0.mk (Kd.R_below (by (with_reducible repeat (first | apply Kd.R_alloc | apply Kd.R_drewN | apply Kd.R_drew)); exact HO209.out) hb); have HO213 := Aside0.mk (Kd.R_lower ho0 (below_size (by repeat (first | (with_reducible first | exact HB.out | apply below_alloc | apply pw_below_drewN | apply below_drew1 | refine below_set ?_ GE2.out | refine below_set ?_ GE3.out) | exact HB.out)))); replace BK2 := mBb BK2 hb; replace BK3 := mBb BK3 hb; replace HB := Aside0.mk (below_step (by repeat (first | (with_reducible first | exact HB.out | apply below_alloc | apply pw_below_drewN | apply below_drew1 | refine below_set ?_ GE2.out | refine below_set ?_ GE3.out) | exact HB.out)) hb)
    (try clear hb)
    (try clear hb2)
    (try clear hk)
    (try clear hi)
    (try clear ho0)
    refine hK.out _ _ (blk_cell BK2.out 0) (fun hHeld => ?_)
    clear hK K
    refine norm_ (a' := ?_) ?_ ?_
    rotate_left
    ·
     show Act.put _ (some 31) _ = _
     simp only [Act.put, List.setIfInBounds_toArray, List.set_cons_zero, List.set_cons_succ, i64_w, i32_w]
     rfl
    refine pure_ (i := 5) (N := some 26) (v := ?_) (a' := ?_) #[true, true, true, true, true, true, false, false, true, false, false] rfl rfl (any_of HT_.out (by kernel_rfl)) (fun _ _ _ h => h) (Or.inl ⟨by rfl, ?_⟩) ?_ ?_
    rotate_left
    ·
     intro w'
     go_simp
     with_reducible rfl
    rotate_left
    ·
     simp only [Act.put, List.setIfInBounds_toArray, List.set_cons_zero, List.set_cons_succ, i64_w, i32_w]
     rfl
    refine pure_ (i := 6) (N := some 32) (v := ?_) (a' := ?_) #[true, true, true, true, true, true, true, false, true, false, false] rfl rfl (any_of HT_.out (by kernel_rfl)) (fun _ _ _ h => h) (Or.inl ⟨by rfl, ?_⟩) ?_ ?_
    rotate_left
    ·
     intro w'
     go_simp
     with_reducible rfl
    rotate_left
    ·
     simp only [Act.put, List.setIfInBounds_toArray, List.set_cons_zero, List.set_cons_succ, i64_w, i32_w]
     rfl
    refine pure_ (i := 7) (N := some 33) (v := ?_) (a' := ?_) #[true, true, true, true, true, true, true, true, true, false, false] rfl rfl (any_of HT_.out (by kernel_rfl)) (fun _ _ _ h => h) (Or.inl ⟨by rfl, ?_⟩) ?_ ?_
    rotate_left
    ·
     intro w'
     go_simp
     with_reducible rfl
    rotate_left
    ·
     simp only [Act.put, List.setIfInBounds_toArray, List.set_cons_zero, List.set_cons_succ, i64_w, i32_w]
     rfl
    exact norm_ (by simp only [putAll, Act.put, List.setIfInBounds_toArray, List.set_cons_zero, List.set_cons_succ]) (hCont (.slice Ao16 y207.length co16, v212, gb3) _ ⟨hHeld, (by (with_reducible repeat (first | apply Kd.R_alloc | apply Kd.R_drewN | apply Kd.R_drew)); exact HO209.out), (by (with_reducible repeat (first | apply Kd.R_alloc | apply Kd.R_drewN | apply Kd.R_drew)); exact HO213.out), BK2.out, BK3.out, GW3.out, GE3.out, NB2_3.out, NB3_2.out, (by repeat (first | (with_reducible first | exact HB.out | apply below_alloc | apply pw_below_drewN | apply below_drew1 | refine below_set ?_ GE2.out | refine below_set ?_ GE3.out) | exact HB.out))⟩)
  ·
   skip
   refine box_step ?hg (N := 6) ?hd (cs := #[.slice none 0 0]) (t := 29) ?hr ?_; (case hd => rfl); (case hg => rfl); (case hr => first | (go_simp; done) | (go_simp; rfl))
   intro gb3 hg w13 hbox hb
   have BK3 := Aside0.mk hbox; have GW3 := Aside0.mk ((by rw [hg]; exact (below_size (by repeat (first | (with_reducible first | exact HB.out | apply below_alloc | apply pw_below_drewN | apply below_drew1 | refine below_set ?_ GE2.out) | exact HB.out))) : w.heap.size ≤ gb3)); have GE3 := GW3; replace HB := Aside0.mk (below_step (by repeat (first | (with_reducible first | exact HB.out | apply below_alloc | apply pw_below_drewN | apply below_drew1 | refine below_set ?_ GE2.out) | exact HB.out)) hb); have NB2_3 := mNe BK2 hg; have NB3_2 := mSy NB2_3; replace BK2 := mBb BK2 hb
   clear hb hbox hg
   refine hK.out _ _ (blk_cell BK2.out 0) (fun hHeld => ?_)
   clear hK K
   refine norm_ (a' := ?_) ?_ ?_
   rotate_left
   ·
    show Act.put _ (some 6) _ = _
    simp only [Act.put, List.setIfInBounds_toArray, List.set_cons_zero, List.set_cons_succ, i64_w, i32_w]
    rfl
   refine one_ (i := 2) (N := some 29) #[true, true, true, false, false, false, false, false, true, false, false] rfl rfl (one_of HT_.out (by kernel_rfl)) (by decide) (fun K hK => ?_)
   refine goes_ Try.func25 (by kernel_rfl) rfl #[.slice A0 l0.length c0] (by rfl) rfl rfl (by (try simp only [List.map_toArray, List.map_cons, List.map_nil]); first | done | rfl | (simp only [List.length_drop, List.length_take]; rfl)) ?_
   with_reducible refine (match_columns.calls _ _ l0 t206 _ ?side1 ?side2 A4.out).mono ?_
   (case side1 => repeat (first | exact (Kd.C_below HR0.out HB.out) | (with_reducible refine Kd.C_alloc ?_ _) | (with_reducible refine Kd.C_drewN ?_ _) | (with_reducible refine Kd.C_drew ?_)))
   (case side2 => exact HC0.out)
   rintro e w' ⟨rfl, ⟨nd, rfl⟩⟩
   refine ⟨_, rfl, ?_⟩
   refine hK.out _ _ (blk_cell BK2.out 0) (fun hHeld => ?_)
   clear hK K
   refine norm_ (a' := ?_) ?_ ?_
   rotate_left
   ·
    show Act.put _ (some 29) _ = _
    simp only [Act.put, List.setIfInBounds_toArray, List.set_cons_zero, List.set_cons_succ, i64_w, i32_w]
    rfl
   refine one_ (i := 3) (N := some 30) #[true, true, true, true, false, false, false, false, true, false, false] rfl rfl (one_of HT_.out (by kernel_rfl)) (by decide) (fun K hK => ?_)
   refine Kd.R_make_step Kd.bool _ 4 (by rfl) (N := 30) rfl 38 _ _ rfl t206 rfl rfl Try.underlying38 (.bool false) 1 info4 rfl (by decide) (by omega) false (ok := fun _ => True) (okp := fun _ => True) rfl (fun _ hk => hk) trivial (of_decide_eq_true (by first | (with_reducible assumption) | assumption)) (Nat.le_trans (Nat.mul_le_mul_right _ (of_decide_eq_true (by first | (with_reducible assumption) | assumption) : t206.toNat ≤ 281474976710656)) (by omega)) (Below.refl _ _) (Nat.le_refl _) ?_
   intro v208 w14 ho15 hb hg_ hnew_
   clear hg_ hnew_
   (first | rw [← Ny207.out] at ho15 | (simp only [Int.reduceToNat] at ho15; rw [← Ny207.out] at ho15))
   have n0_ := Aside0.mk (Kd.R_lower ho15 (below_size (by repeat (first | (with_reducible first | exact HB.out | apply below_alloc | apply pw_below_drewN | apply below_drew1 | refine below_set ?_ GE2.out | refine below_set ?_ GE3.out) | exact HB.out)))); have n1_ := Aside0.mk (blk_below (g := gb2) (o := .cells #[.slice A0 l0.length c0] 22 (0, 0)) (by (with_reducible repeat (first | refine blk_drewN ?_ _ | refine blk_drew ?_ | refine blk_alloc ?_ _)); exact BK2.out) hb); have n2_ := Aside0.mk (blk_below (g := gb3) (o := .cells #[.slice none 0 0] 29 (0, 0)) (by (with_reducible repeat (first | refine blk_drewN ?_ _ | refine blk_drew ?_ | refine blk_alloc ?_ _)); exact BK3.out) hb); have n3_ := Aside0.mk (below_step (by repeat (first | (with_reducible first | exact HB.out | apply below_alloc | apply pw_below_drewN | apply below_drew1 | refine below_set ?_ GE2.out | refine below_set ?_ GE3.out) | exact HB.out)) hb); clear BK2; clear BK3; clear HB; have HO209 := n0_; have BK2 := n1_; have BK3 := n2_; have HB := n3_; clear n0_ n1_ n2_ n3_
   clear hb ho15
   obtain ⟨Ao16, co16, eo16⟩ := Kd.R_slice HO209.out
   (first | subst eo16 | (injection eo16 with f1_ f2_ f3_; have f4_ := f1_.symm; have f5_ := f3_.symm; clear f1_ f2_ f3_; subst f4_; subst f5_))
   refine hK.out _ _ (blk_cell BK2.out 0) (fun hHeld => ?_)
   clear hK K
   refine norm_ (a' := ?_) ?_ ?_
   rotate_left
   ·
    show Act.put _ (some 30) _ = _
    simp only [Act.put, List.setIfInBounds_toArray, List.set_cons_zero, List.set_cons_succ, i64_w, i32_w]
    rfl
   refine one_ (i := 4) (N := some 31) #[true, true, true, true, true, false, false, false, true, false, false] rfl rfl (one_of HT_.out (by kernel_rfl)) (by decide) (fun K hK => ?_)
   refine goes_ Try.func24 (by kernel_rfl) rfl #[.slice A0 l0.length c0, .int .i64 0, .slice Ao16 y207.length co16] (by rfl) rfl rfl (by (try simp only [List.map_toArray, List.map_cons, List.map_nil]); first | done | rfl | (simp only [List.length_drop, List.length_take]; rfl)) ?_
   with_reducible refine (match_greatest.calls k _ _ l0 0 _ _ y207 t210 t211 _ ?side1 ?side2 ?side3 ?side4 A7.out).mono ?_
   (case side1 => repeat (first | exact (Kd.C_below HR0.out HB.out) | (with_reducible refine Kd.C_alloc ?_ _) | (with_reducible refine Kd.C_drewN ?_ _) | (with_reducible refine Kd.C_drew ?_)))
   (case side2 => exact HC0.out)
   (case side3 => repeat (first | exact (Kd.R_reads' HO209.out).2.2 | (with_reducible refine Kd.C_alloc ?_ _) | (with_reducible refine Kd.C_drewN ?_ _) | (with_reducible refine Kd.C_drew ?_)))
   (case side4 => exact (Kd.R_reads' HO209.out).2.1)
   rintro e w17 ⟨v212, rfl, ho0, hb⟩
   refine ⟨_, rfl, ?_⟩
   replace HO209 := Aside0.mk (Kd.R_below (by (with_reducible repeat (first | apply Kd.R_alloc | apply Kd.R_drewN | apply Kd.R_drew)); exact HO209.out) hb); have HO213 := Aside0.mk (Kd.R_lower ho0 (below_size (by repeat (first | (with_reducible first | exact HB.out | apply below_alloc | apply pw_below_drewN | apply below_drew1 | refine below_set ?_ GE2.out | refine below_set ?_ GE3.out) | exact HB.out)))); replace BK2 := mBb BK2 hb; replace BK3 := mBb BK3 hb; replace HB := Aside0.mk (below_step (by repeat (first | (with_reducible first | exact HB.out | apply below_alloc | apply pw_below_drewN | apply below_drew1 | refine below_set ?_ GE2.out | refine below_set ?_ GE3.out) | exact HB.out)) hb)
   (try clear hb)
   (try clear hb2)
   (try clear hk)
   (try clear hi)
   (try clear ho0)
   refine hK.out _ _ (blk_cell BK2.out 0) (fun hHeld => ?_)
   clear hK K
   refine norm_ (a' := ?_) ?_ ?_
   rotate_left
   ·
    show Act.put _ (some 31) _ = _
    simp only [Act.put, List.setIfInBounds_toArray, List.set_cons_zero, List.set_cons_succ, i64_w, i32_w]
    rfl
   refine pure_ (i := 5) (N := some 26) (v := ?_) (a' := ?_) #[true, true, true, true, true, true, false, false, true, false, false] rfl rfl (any_of HT_.out (by kernel_rfl)) (fun _ _ _ h => h) (Or.inl ⟨by rfl, ?_⟩) ?_ ?_
   rotate_left
   ·
    intro w'
    go_simp
    with_reducible rfl
   rotate_left
   ·
    simp only [Act.put, List.setIfInBounds_toArray, List.set_cons_zero, List.set_cons_succ, i64_w, i32_w]
    rfl
   refine pure_ (i := 6) (N := some 32) (v := ?_) (a' := ?_) #[true, true, true, true, true, true, true, false, true, false, false] rfl rfl (any_of HT_.out (by kernel_rfl)) (fun _ _ _ h => h) (Or.inl ⟨by rfl, ?_⟩) ?_ ?_
   rotate_left
   ·
    intro w'
    go_simp
    with_reducible rfl
   rotate_left
   ·
    simp only [Act.put, List.setIfInBounds_toArray, List.set_cons_zero, List.set_cons_succ, i64_w, i32_w]
    rfl
   refine pure_ (i := 7) (N := some 33) (v := ?_) (a' := ?_) #[true, true, true, true, true, true, true, true, true, false, false] rfl rfl (any_of HT_.out (by kernel_rfl)) (fun _ _ _ h => h) (Or.inl ⟨by rfl, ?_⟩) ?_ ?_
   rotate_left
   ·
    intro w'
    go_simp
    with_reducible rfl
   rotate_left
   ·
    simp only [Act.put, List.setIfInBounds_toArray, List.set_cons_zero, List.set_cons_succ, i64_w, i32_w]
    rfl
   exact norm_ (by simp only [putAll, Act.put, List.setIfInBounds_toArray, List.set_cons_zero, List.set_cons_succ]) (hCont (.slice Ao16 y207.length co16, v212, gb3) _ ⟨hHeld, (by (with_reducible repeat (first | apply Kd.R_alloc | apply Kd.R_drewN | apply Kd.R_drew)); exact HO209.out), (by (with_reducible repeat (first | apply Kd.R_alloc | apply Kd.R_drewN | apply Kd.R_drew)); exact HO213.out), BK2.out, BK3.out, GW3.out, GE3.out, NB2_3.out, NB3_2.out, (by repeat (first | (with_reducible first | exact HB.out | apply below_alloc | apply pw_below_drewN | apply below_drew1 | refine below_set ?_ GE2.out | refine below_set ?_ GE3.out) | exact HB.out))⟩)
 rintro ⟨v208, v212, gb3⟩ w18 ⟨hS_, h0_, h1_, h2_, h3_, h4_, h5_, h6_, h7_, h8_⟩
 try dsimp only at h0_ h1_ h2_ h3_ h4_ h5_ h6_ h7_ h8_
 have n0_ := Aside0.mk h0_
 have n1_ := Aside0.mk h1_
 have n2_ := Aside0.mk h2_
 have n3_ := Aside0.mk h3_
 have n4_ := Aside0.mk h4_
 have n5_ := Aside0.mk h5_
 have n6_ := Aside0.mk h6_
 have n7_ := Aside0.mk h7_
 have n8_ := Aside0.mk h8_
 clear BK2; clear HB
 clear h0_ h1_ h2_ h3_ h4_ h5_ h6_ h7_ h8_
 have HO209 := n0_
 have HO213 := n1_
 have BK2 := n2_
 have BK3 := n3_
 have GW3 := n4_
 have GE3 := n5_
 have NB2_3 := n6_
 have NB3_2 := n7_
 have HB := n8_
 clear n0_ n1_ n2_ n3_ n4_ n5_ n6_ n7_ n8_
 have hHeld : w18.cell? ⟨gb2, 0, none⟩ = some (.slice A0 l0.length c0) := hS_
 obtain ⟨Ao19, co19, eo19⟩ := Kd.R_slice HO213.out
 (first | subst eo19 | (injection eo19 with f1_ f2_ f3_; have f4_ := f1_.symm; have f5_ := f3_.symm; clear f1_ f2_ f3_; subst f4_; subst f5_))
 refine norm_ (a' := ?_) ?_ ?_
 rotate_left
 ·
  simp only [putAll, Act.put, List.setIfInBounds_toArray, List.set_cons_zero, List.set_cons_succ]
  rfl
 refine one_ (i := 9) (N := none) #[true, true, true, true, true, true, true, true, true, true, false] rfl rfl (one_of HT_.out (by kernel_rfl)) (by decide) (fun K hK => ?_)
 have hs20 : w18.cell? ⟨gb3, 0, none⟩ = some (.slice none 0 0) := (blk_cell BK3.out 0).trans rfl
 have hfs20 := blk_frozen BK3.out 0
 have hns20_0 := NB2_3.out
 have hms20_0 := NB3_2.out
 refine skip_ (w1 := ?_) (by rfl) rfl ?_ ?_
 rotate_left
 ·
  go_simp
  rfl
 refine hK.out _ _ (((cell_far (p := ⟨gb3, _, none⟩) NB2_3.out _).trans (hHeld))) (fun hHeld => ?_)
 clear hK K
 refine pure_ (i := 10) (N := some 7) (v := ?_) (a' := ?_) #[true, true, true, true, true, true, true, true, true, true, true] rfl rfl (any_of HT_.out (by kernel_rfl)) (fun _ _ _ h => h) (Or.inl ⟨by rfl, ?_⟩) ?_ ?_
 rotate_left
 ·
  intro w'
  go_simp
  with_reducible rfl
 rotate_left
 ·
  simp only [Act.put, List.setIfInBounds_toArray, List.set_cons_zero, List.set_cons_succ, i64_w, i32_w]
  rfl
 refine done_ (done_of HT_.out (by kernel_rfl)) ?_
 have hnb21 := NB2_3.out
 have hnc21 := NB3_2.out
 have hcz22 := blk_cell BK2.out; have hfz22 := blk_frozen BK2.out
 try go_wp2_with (first | ((with_reducible refine gate_dst (N := 36) rfl ?_); refine Kd.R_make Kd.bool _ 4 rfl (N := 36) rfl 38 _ _ rfl (l0.length : Int) rfl rfl Try.underlying38 (.bool false) 1 info4 rfl (by decide) (by omega) false (ok := fun _ => True) (okp := fun _ => True) rfl (fun _ hk => hk) trivial (of_decide_eq_true (by first | (with_reducible assumption) | assumption)) (Nat.le_trans (Nat.mul_le_mul_right _ (of_decide_eq_true (by first | (with_reducible assumption) | assumption) : (l0.length : Int).toNat ≤ 281474976710656)) (by omega)) (Below.refl _ _) (Nat.le_refl _) ?_; intro v216 w23 ho24 hb hg_ hnew_; clear hg_ hnew_; (first | rw [← Ny215.out] at ho24 | (simp only [Int.reduceToNat] at ho24; rw [← Ny215.out] at ho24)); replace HO213 := Aside0.mk (Kd.R_below (by (with_reducible repeat (first | apply Kd.R_alloc | apply Kd.R_drewN | apply Kd.R_drew)); exact (Kd.R_mono (Kd.R_far (p := ⟨gb3, 0, none⟩) (Kd.R_types HO213.out BK3.out (by decide)) (fun _ hk => hk.2) (.slice Ao19 t210.length co19)) (fun _ h_ => h_.1))) hb); have HO217 := Aside0.mk (Kd.R_lower (Kd.R_new' ho24 (Kd.R_lt (by (with_reducible repeat (first | apply Kd.R_alloc | apply Kd.R_drewN | apply Kd.R_drew)); exact (Kd.R_mono (Kd.R_far (p := ⟨gb3, 0, none⟩) (Kd.R_types HO209.out BK3.out (by decide)) (fun _ hk => hk.2) (.slice Ao19 t210.length co19)) (fun _ h_ => h_.1))))) (below_size (by repeat (first | (with_reducible first | exact HB.out | apply below_alloc | apply pw_below_drewN | apply below_drew1 | refine below_set ?_ GE2.out | refine below_set ?_ GE3.out) | exact HB.out)))); replace HO209 := Aside0.mk (Kd.R_elder' (by (with_reducible repeat (first | apply Kd.R_alloc | apply Kd.R_drewN | apply Kd.R_drew)); exact (Kd.R_mono (Kd.R_far (p := ⟨gb3, 0, none⟩) (Kd.R_types HO209.out BK3.out (by decide)) (fun _ hk => hk.2) (.slice Ao19 t210.length co19)) (fun _ h_ => h_.1))) (Kd.R_base ho24) hb); replace BK2 := Aside0.mk (blk_below (g := gb2) (o := .cells #[.slice A0 l0.length c0] 22 (0, 0)) (by (with_reducible repeat (first | refine blk_drewN ?_ _ | refine blk_drew ?_ | refine blk_alloc ?_ _)); refine blk_far ?_ NB2_3.out _; (with_reducible repeat (first | refine blk_drewN ?_ _ | refine blk_drew ?_ | refine blk_alloc ?_ _)); exact BK2.out) hb); replace BK3 := Aside0.mk (blk_below (g := gb3) (o := .cells #[.slice Ao19 t210.length co19] 29 (0, 0)) (by (with_reducible repeat (first | refine blk_drewN ?_ _ | refine blk_drew ?_ | refine blk_alloc ?_ _)); refine blk_put (cs := #[.slice none 0 0]) ?_ 0 _ rfl; (with_reducible repeat (first | refine blk_drewN ?_ _ | refine blk_drew ?_ | refine blk_alloc ?_ _)); exact BK3.out) hb); replace HB := Aside0.mk (below_step (by repeat (first | (with_reducible first | exact HB.out | apply below_alloc | apply pw_below_drewN | apply below_drew1 | refine below_set ?_ GE2.out | refine below_set ?_ GE3.out) | exact HB.out)) hb); clear hb ho24; have hcz25 := blk_cell BK3.out; have hfz25 := blk_frozen BK3.out))
 go_loopg [39] k (fun kq v39 w' => ∃ (x8_1 : List Bool) (x39_1 : Int), v39 = .int .i64 x39_1 ∧ Aside0 (match_Cover.l0 kq x8_1 t210 (t210.length : Int) x39_1 l0 t210 = some (r1, r2, r3)) ∧ Aside0 (kq ≤ k) ∧ Aside0 (Kd.R Kd.bool 4 w' w.heap.size (fun _ => True) v216 x8_1) ∧ Aside0 (Kd.R (Kd.int .i64) 3 w' w.heap.size (fun _ => True) (.slice Ao19 t210.length co19) t210) ∧ Aside0 (Kd.R (Kd.int .i64) 3 w' w.heap.size (fun _ => True) (.slice Ao19 t210.length co19) t210) ∧ Aside0 (w'.heap[gb2]? = some (.cells #[(.slice A0 l0.length c0)] 22 (0, 0))) ∧ Aside0 (w'.heap[gb3]? = some (.cells #[(.slice Ao19 t210.length co19)] 29 (0, 0))) ∧ Aside0 (Below w.heap.size w w'))
 case atStart => exact ⟨(y215), (0), (by first | rfl | (simp; done) | (simp [*]; done)), H', ⟨Nat.le_refl _⟩, ⟨by (with_reducible repeat (first | apply Kd.R_alloc | apply Kd.R_drewN | apply Kd.R_drew)); exact Kd.R_mono HO217.out (fun _ hk => trivial)⟩, ⟨by (with_reducible repeat (first | apply Kd.R_alloc | apply Kd.R_drewN | apply Kd.R_drew)); exact HO213.out⟩, ⟨by (with_reducible repeat (first | apply Kd.R_alloc | apply Kd.R_drewN | apply Kd.R_drew)); exact HO213.out⟩, ⟨BK2.out⟩, ⟨BK3.out⟩, ⟨by repeat (first | (with_reducible first | exact HB.out | apply below_alloc | apply pw_below_drewN | apply below_drew1 | refine below_set ?_ GE2.out | refine below_set ?_ GE3.out) | exact HB.out)⟩⟩
 case round =>
  clear H'
  try clear c1; try clear c2; try clear p2; try clear c5; try clear c5b0; try clear c5b1; try clear c6; try clear c6b0; try clear c6b1; try clear c8; try clear c8b0; try clear c8b1; try clear c9; try clear c9b0; try clear c9b1; try clear c13; try clear c19; try clear c21; try clear c24; try clear c25; try clear hcz11_0; try clear hcz22_0; try clear hcz25_0; try clear hfz11_0; try clear hfz22_0; try clear hfz25_0
  obtain ⟨x8_1, x39_1, rfl, HA, HK1, HO_8, HO_37, HO_215000, BK2, BK3, HB⟩ := hrel
  cases gk with
  | zero => exact absurd HA.out (by simp [match_Cover.l0])
  | succ k1 =>
   have H := HA.out
   clear HA
   simp only [match_Cover.l0] at H
   by_cases c26 : x39_1 < (t210.length : Int)
   ·
    rw [if_pos c26] at H
    have c26b0 : decide (x39_1 < (t210.length : Int)) = true := decide_eq_true c26
    clear c26
    by_cases c27 : 0 ≤ x39_1
    rotate_left
    ·
     rw [if_neg c27] at H
     exact absurd H (by simp)
    rw [if_pos c27] at H
    have c27b0 : decide (0 ≤ x39_1) = true := decide_eq_true c27
    clear c27
    by_cases c28 : x39_1 < (t210.length : Int)
    rotate_left
    ·
     rw [if_neg c28] at H
     exact absurd H (by simp)
    rw [if_pos c28] at H
    have c28b0 : decide (x39_1 < (t210.length : Int)) = true := decide_eq_true c28
    clear c28
    by_cases c29 : (rd t210 x39_1) ≥ 0
    rotate_left
    ·
     rw [if_neg c29] at H
     have c29b0 : decide (0 ≤ (rd t210 x39_1)) = false := decide_eq_false c29
     clear c29
     have H' := Aside0.mk H
     clear H
     have p218 : 0 ≤ (x39_1 : Int) := of_decide_eq_true (by first | (with_reducible assumption) | assumption)
     have q218 : x39_1 < (t210.length : Int) := of_decide_eq_true (by first | (with_reducible assumption) | assumption)
     obtain ⟨ad218, e218, hx218_0⟩ := Kd.at_int (Kd.R_reads' HO_37.out).2.2 x39_1 p218 q218
     cases e218
     replace p218 := eq_true p218
     replace q218 := eq_true q218
     go_wp2
     go_roundg k1
     case measure => have := HK1.out; omega
     case rel => exact ⟨(x8_1), (wrap64 (x39_1 + 1)), (by first | rfl | (simp; done) | (simp [*]; done)), H', ⟨by have := HK1.out; omega⟩, ⟨by (with_reducible repeat (first | apply Kd.R_alloc | apply Kd.R_drewN | apply Kd.R_drew)); exact HO_8.out⟩, ⟨by (with_reducible repeat (first | apply Kd.R_alloc | apply Kd.R_drewN | apply Kd.R_drew)); exact HO_37.out⟩, ⟨by (with_reducible repeat (first | apply Kd.R_alloc | apply Kd.R_drewN | apply Kd.R_drew)); exact HO_215000.out⟩, ⟨BK2.out⟩, ⟨BK3.out⟩, ⟨by repeat (first | (with_reducible first | exact HB.out | apply below_alloc | apply pw_below_drewN | apply below_drew1 | refine below_set ?_ GE2.out | refine below_set ?_ GE3.out) | exact HB.out)⟩⟩
    rw [if_pos c29] at H
    have c29b0 : decide (0 ≤ (rd t210 x39_1)) = true := decide_eq_true c29
    clear c29
    by_cases c30 : 0 ≤ (rd t210 x39_1)
    rotate_left
    ·
     rw [if_neg c30] at H
     exact absurd H (by simp)
    rw [if_pos c30] at H
    have c30b0 : decide (0 ≤ (rd t210 x39_1)) = true := decide_eq_true c30
    clear c30
    by_cases c31 : (rd t210 x39_1) < (x8_1.length : Int)
    rotate_left
    ·
     rw [if_neg c31] at H
     exact absurd H (by simp)
    rw [if_pos c31] at H
    have c31b0 : decide ((rd t210 x39_1) < (x8_1.length : Int)) = true := decide_eq_true c31
    clear c31
    obtain ⟨y219, hy219⟩ : ∃ y_ : List Bool, y_ = (x8_1.set ((rd t210 x39_1) : Int).toNat true) := ⟨_, rfl⟩
    rw [← hy219] at H
    have Ny219 := Aside0.mk hy219
    clear hy219
    have H' := Aside0.mk H
    clear H
    have p218 : 0 ≤ (x39_1 : Int) := of_decide_eq_true (by first | (with_reducible assumption) | assumption)
    have q218 : x39_1 < (t210.length : Int) := of_decide_eq_true (by first | (with_reducible assumption) | assumption)
    obtain ⟨ad218, e218, hx218_0⟩ := Kd.at_int (Kd.R_reads' HO_37.out).2.2 x39_1 p218 q218
    cases e218
    replace p218 := eq_true p218
    replace q218 := eq_true q218
    have p32 : 0 ≤ ((rd t210 x39_1) : Int) := of_decide_eq_true (by first | (with_reducible assumption) | assumption)
    have q32 : ((rd t210 x39_1) : Int) < ((x8_1.length : Int) : Int) := of_decide_eq_true (by first | (with_reducible assumption) | assumption)
    obtain ⟨go32, co32, eo32, gb1, gl32, cl32, HG32⟩ := Kd.R_form HO_8.out (by omega)
    (first | cases eo32 | (injection eo32 with ea_ en_ ec_; (first | subst ea_ | (injection ea_ with ea_; subst ea_)); subst ec_; clear en_))
    have GB32 := Aside0.mk gb1
    have GG32 := Aside0.mk HG32
    clear gb1 gl32 HG32
    obtain ⟨hx32_0, hf32_0⟩ := Kd.R_celln false HO_8.out ((rd t210 x39_1) : Int) p32 q32
    replace p32 := eq_true p32
    replace q32 := eq_true q32
    have HP33 := Kd.R_putg HO_8.out ((rd t210 x39_1) : Int) true
    go_wp2_with (first | ((with_reducible refine gate_store (t := 4) (p := 47) rfl ?_); refine store_event (t := 4) (p := 47) (v := ?vo_w34) (w1 := (wr.setCell ⟨go32, ((rd t210 x39_1) : Int).toNat, none⟩ (.bool true))) ?hg ?ho ?hn ?hr ?_; (case ho => rfl); (case hg => rfl); (case hn => rfl); (case hr => first | (go_simp; done) | (go_simp; rfl)); intro w34 hw; have hg : wr.grownBy w34 (some go32) := (by rw [hw]; exact HP33.2); have hp_ : Kd.R Kd.bool 4 w34 w.heap.size (fun _ => True) (.slice (some ⟨go32, 0, none⟩) x8_1.length co32) y219 := (by rw [hw, Ny219.out]; exact HP33.1); clear HP33; replace HO_37 := Aside0.mk (Kd.R_over' (v := (.slice (some ⟨go32, 0, none⟩) x8_1.length co32)) (by (with_reducible repeat (first | apply Kd.R_alloc | apply Kd.R_drewN | apply Kd.R_drew)); exact HO_37.out) (Kd.R_typed HO_8.out) (by decide) hg); replace HO_215000 := Aside0.mk (Kd.R_over' (v := (.slice (some ⟨go32, 0, none⟩) x8_1.length co32)) (by (with_reducible repeat (first | apply Kd.R_alloc | apply Kd.R_drewN | apply Kd.R_drew)); exact HO_215000.out) (Kd.R_typed HO_8.out) (by decide) hg); replace BK2 := Aside0.mk (blk_grown (g := gb2) (o := .cells #[.slice A0 l0.length c0] 22 (0, 0)) BK2.out hg (Kd.R_ne HO_8.out BK2.out (by decide))); replace BK3 := Aside0.mk (blk_grown (g := gb3) (o := .cells #[.slice (some ad218) t210.length co19] 29 (0, 0)) BK3.out hg (Kd.R_ne HO_8.out BK3.out (by decide))); replace HO_8 := Aside0.mk (hp_); replace HB := Aside0.mk ((by rw [hw]; exact below_set (HB.out) GB32.out : Below w.heap.size w w34)); clear hg hw hp_))
    go_roundg k1
    case measure => have := HK1.out; omega
    case rel => exact ⟨(y219), (wrap64 (x39_1 + 1)), (by first | rfl | (simp; done) | (simp [*]; done)), H', ⟨by have := HK1.out; omega⟩, ⟨by (with_reducible repeat (first | apply Kd.R_alloc | apply Kd.R_drewN | apply Kd.R_drew)); exact HO_8.out⟩, ⟨by (with_reducible repeat (first | apply Kd.R_alloc | apply Kd.R_drewN | apply Kd.R_drew)); exact HO_37.out⟩, ⟨by (with_reducible repeat (first | apply Kd.R_alloc | apply Kd.R_drewN | apply Kd.R_drew)); exact HO_215000.out⟩, ⟨BK2.out⟩, ⟨BK3.out⟩, ⟨by repeat (first | (with_reducible first | exact HB.out | apply below_alloc | apply pw_below_drewN | apply below_drew1 | refine below_set ?_ GE2.out | refine below_set ?_ GE3.out) | exact HB.out)⟩⟩
   rw [if_neg c26] at H
   have c26b0 : decide (x39_1 < (t210.length : Int)) = false := decide_eq_false c26
   clear c26
   by_cases c35 : 0 ≤ (l0.length : Int)
   rotate_left
   ·
    rw [if_neg c35] at H
    exact absurd H (by simp)
   rw [if_pos c35] at H
   have c35b0 := eq_true c35
   have c35b1 : decide (0 ≤ (l0.length : Int)) = true := decide_eq_true c35
   clear c35
   by_cases c36 : ((l0.length : Int) : Int).toNat ≤ 281474976710656
   rotate_left
   ·
    rw [if_neg c36] at H
    exact absurd H (by simp)
   rw [if_pos c36] at H
   have c36b0 := eq_true c36
   have c36b1 : decide (((l0.length : Int) : Int).toNat ≤ 281474976710656) = true := decide_eq_true c36
   clear c36
   obtain ⟨y220, hy220⟩ : ∃ y_ : List Bool, y_ = (List.replicate ((l0.length : Int) : Int).toNat false) := ⟨_, rfl⟩
   rw [← hy220] at H
   have Ny220 := Aside0.mk hy220
   clear hy220
   by_cases c37 : 0 ≤ (t210.length : Int)
   rotate_left
   ·
    rw [if_neg c37] at H
    exact absurd H (by simp)
   rw [if_pos c37] at H
   have c37b0 := eq_true c37
   have c37b1 : decide (0 ≤ (t210.length : Int)) = true := decide_eq_true c37
   clear c37
   by_cases c38 : ((t210.length : Int) : Int).toNat ≤ 281474976710656
   rotate_left
   ·
    rw [if_neg c38] at H
    exact absurd H (by simp)
   rw [if_pos c38] at H
   have c38b0 := eq_true c38
   have c38b1 : decide (((t210.length : Int) : Int).toNat ≤ 281474976710656) = true := decide_eq_true c38
   clear c38
   obtain ⟨y223, hy223⟩ : ∃ y_ : List Bool, y_ = (List.replicate ((t210.length : Int) : Int).toNat false) := ⟨_, rfl⟩
   rw [← hy223] at H
   have Ny223 := Aside0.mk hy223
   clear hy223
   have H' := Aside0.mk H
   clear H
   try go_wp2
   replace HO_8 := Aside0.mk (Kd.R_drew HO_8.out); replace HO_37 := Aside0.mk (Kd.R_drew HO_37.out); replace HO_215000 := Aside0.mk (Kd.R_drew HO_215000.out); replace BK2 := Aside0.mk (blk_drew BK2.out); replace BK3 := Aside0.mk (blk_drew BK3.out); replace HB := Aside0.mk (below_drew1 HB.out)
   refine start_ (n := 10) (S := fun w' => w'.cell? ⟨gb2, 0, none⟩ = some (.slice A0 l0.length c0) ∧ w'.cell? ⟨gb3, 0, none⟩ = some (.slice Ao19 t210.length co19)) (ds := []) #[false, false, false, false, false, false, false, false, false, false] (by kernel_rfl) rfl rfl ⟨(blk_cell BK2.out 0).trans rfl, (blk_cell BK3.out 0).trans rfl⟩ (fun hHeld => ?_); refine with_tabW match_Cover.tab12 match_Cover.bits12 (fun HT_ HW_ => ?_)
   generalize wr.drew = w39 at HO_8 HO_37 HO_215000 BK2 BK3 HB hHeld ⊢
   refine take_ (i := 0) (N := some 49) (v := ?_) (a' := ?_) #[true, false, false, false, false, false, false, false, false, false] rfl rfl (take_ofW HT_.out HW_.out (by kernel_rfl)) (fun _ _ _ h => h) (Or.inl ⟨by rfl, ?_⟩) hHeld ?_ ?_
   rotate_left
   ·
    rintro w' ⟨s0, s1⟩
    go_simp
    with_reducible rfl
   rotate_left
   ·
    simp only [Act.put, List.setIfInBounds_toArray, List.set_cons_zero, List.set_cons_succ, i64_w, i32_w]
    rfl
   refine pure_ (i := 1) (N := some 50) (v := ?_) (a' := ?_) #[true, true, false, false, false, false, false, false, false, false] rfl rfl (any_of HT_.out (by kernel_rfl)) (fun _ _ _ h => h) (Or.inl ⟨by rfl, ?_⟩) ?_ ?_
   rotate_left
   ·
    intro w'
    go_simp
    with_reducible rfl
   rotate_left
   ·
    simp only [Act.put, List.setIfInBounds_toArray, List.set_cons_zero, List.set_cons_succ, i64_w, i32_w]
    rfl
   refine take_ (i := 3) (N := some 52) (v := ?_) (a' := ?_) #[true, true, false, true, false, false, false, false, false, false] rfl rfl (take_ofW HT_.out HW_.out (by kernel_rfl)) (fun _ _ _ h => h) (Or.inl ⟨by rfl, ?_⟩) hHeld ?_ ?_
   rotate_left
   ·
    rintro w' ⟨s0, s1⟩
    go_simp
    with_reducible rfl
   rotate_left
   ·
    simp only [Act.put, List.setIfInBounds_toArray, List.set_cons_zero, List.set_cons_succ, i64_w, i32_w]
    rfl
   refine pure_ (i := 4) (N := some 53) (v := ?_) (a' := ?_) #[true, true, false, true, true, false, false, false, false, false] rfl rfl (any_of HT_.out (by kernel_rfl)) (fun _ _ _ h => h) (Or.inl ⟨by rfl, ?_⟩) ?_ ?_
   rotate_left
   ·
    intro w'
    go_simp
    with_reducible rfl
   rotate_left
   ·
    simp only [Act.put, List.setIfInBounds_toArray, List.set_cons_zero, List.set_cons_succ, i64_w, i32_w]
    rfl
   refine join_ (σ := Value × Value × Nat × Nat) 1 #[true, true, true, true, true, true, true, true, true, false] (fun s_ => [(51, s_.1), (54, s_.2.1), (11, .pointer (some ⟨s_.2.2.1, 0, none⟩)), (12, .pointer (some ⟨s_.2.2.2, 0, none⟩))]) (fun s_ w' => (w'.cell? ⟨gb2, 0, none⟩ = some (.slice A0 l0.length c0) ∧ w'.cell? ⟨gb3, 0, none⟩ = some (.slice Ao19 t210.length co19)) ∧ (Kd.R Kd.bool 4 w' w.heap.size (fun k_ => some k_ ≠ (s_.2.1 : Value).ownBlock ∧ some k_ ≠ (v216 : Value).ownBlock) s_.1 y220) ∧ (Kd.R Kd.bool 4 w' w.heap.size (fun k_ => some k_ ≠ (s_.1 : Value).ownBlock ∧ some k_ ≠ (v216 : Value).ownBlock) s_.2.1 y223) ∧ (Kd.R (Kd.int .i64) 3 w' w.heap.size (fun _ => True) (.slice Ao19 t210.length co19) t210) ∧ (Kd.R (Kd.int .i64) 3 w' w.heap.size (fun _ => True) (.slice Ao19 t210.length co19) t210) ∧ (Kd.R Kd.bool 4 w' w.heap.size (fun k_ => some k_ ≠ (s_.1 : Value).ownBlock ∧ some k_ ≠ (s_.2.1 : Value).ownBlock) v216 x8_1) ∧ (w'.heap[gb2]? = some (.cells #[.slice A0 l0.length c0] 22 (0, 0))) ∧ (w'.heap[gb3]? = some (.cells #[.slice Ao19 t210.length co19] 29 (0, 0))) ∧ (w'.heap[s_.2.2.1]? = some (.cells #[s_.1] 38 (0, 0))) ∧ (w'.heap[s_.2.2.2]? = some (.cells #[.slice none 0 0] 38 (0, 0))) ∧ (w.heap.size ≤ s_.2.2.1) ∧ (w.heap.size ≤ s_.2.2.1) ∧ (gb2 ≠ s_.2.2.1) ∧ (s_.2.2.1 ≠ gb2) ∧ (gb3 ≠ s_.2.2.1) ∧ (s_.2.2.1 ≠ gb3) ∧ (s_.2.2.2 ≠ s_.2.2.1) ∧ (s_.2.2.1 ≠ s_.2.2.2) ∧ (w.heap.size ≤ s_.2.2.2) ∧ (w.heap.size ≤ s_.2.2.2) ∧ (gb2 ≠ s_.2.2.2) ∧ (s_.2.2.2 ≠ gb2) ∧ (gb3 ≠ s_.2.2.2) ∧ (s_.2.2.2 ≠ gb3) ∧ (Below w.heap.size w w')) ?_ ?_
   rotate_left
   ·
    intro hJ2_5_6_7_8
    refine join_ (σ := Value × Value × Nat × Nat) 2 #[true, true, true, true, true, true, true, true, false, false] (fun s_ => [(51, s_.1), (54, s_.2.1), (11, .pointer (some ⟨s_.2.2.1, 0, none⟩)), (12, .pointer (some ⟨s_.2.2.2, 0, none⟩))]) (fun s_ w' => (w'.cell? ⟨gb2, 0, none⟩ = some (.slice A0 l0.length c0) ∧ w'.cell? ⟨gb3, 0, none⟩ = some (.slice Ao19 t210.length co19)) ∧ (Kd.R Kd.bool 4 w' w.heap.size (fun k_ => some k_ ≠ (s_.2.1 : Value).ownBlock ∧ some k_ ≠ (v216 : Value).ownBlock) s_.1 y220) ∧ (Kd.R Kd.bool 4 w' w.heap.size (fun k_ => some k_ ≠ (s_.1 : Value).ownBlock ∧ some k_ ≠ (v216 : Value).ownBlock) s_.2.1 y223) ∧ (Kd.R (Kd.int .i64) 3 w' w.heap.size (fun _ => True) (.slice Ao19 t210.length co19) t210) ∧ (Kd.R (Kd.int .i64) 3 w' w.heap.size (fun _ => True) (.slice Ao19 t210.length co19) t210) ∧ (Kd.R Kd.bool 4 w' w.heap.size (fun k_ => some k_ ≠ (s_.1 : Value).ownBlock ∧ some k_ ≠ (s_.2.1 : Value).ownBlock) v216 x8_1) ∧ (w'.heap[gb2]? = some (.cells #[.slice A0 l0.length c0] 22 (0, 0))) ∧ (w'.heap[gb3]? = some (.cells #[.slice Ao19 t210.length co19] 29 (0, 0))) ∧ (w'.heap[s_.2.2.1]? = some (.cells #[.slice none 0 0] 38 (0, 0))) ∧ (w'.heap[s_.2.2.2]? = some (.cells #[.slice none 0 0] 38 (0, 0))) ∧ (w.heap.size ≤ s_.2.2.1) ∧ (w.heap.size ≤ s_.2.2.1) ∧ (gb2 ≠ s_.2.2.1) ∧ (s_.2.2.1 ≠ gb2) ∧ (gb3 ≠ s_.2.2.1) ∧ (s_.2.2.1 ≠ gb3) ∧ (s_.2.2.2 ≠ s_.2.2.1) ∧ (s_.2.2.1 ≠ s_.2.2.2) ∧ (w.heap.size ≤ s_.2.2.2) ∧ (w.heap.size ≤ s_.2.2.2) ∧ (gb2 ≠ s_.2.2.2) ∧ (s_.2.2.2 ≠ gb2) ∧ (gb3 ≠ s_.2.2.2) ∧ (s_.2.2.2 ≠ gb3) ∧ (Below w.heap.size w w')) ?_ ?_
    ·
     skip
     rintro ⟨v221, v224, gb4, gb5⟩ w46 ⟨hS_, h0_, h1_, h2_, h3_, h4_, h5_, h6_, h7_, h8_, h9_, h10_, h11_, h12_, h13_, h14_, h15_, h16_, h17_, h18_, h19_, h20_, h21_, h22_, h23_⟩
     try dsimp only at h0_ h1_ h2_ h3_ h4_ h5_ h6_ h7_ h8_ h9_ h10_ h11_ h12_ h13_ h14_ h15_ h16_ h17_ h18_ h19_ h20_ h21_ h22_ h23_
     have n0_ := Aside0.mk h0_
     have n1_ := Aside0.mk h1_
     have n2_ := Aside0.mk h2_
     have n3_ := Aside0.mk h3_
     have n4_ := Aside0.mk h4_
     have n5_ := Aside0.mk h5_
     have n6_ := Aside0.mk h6_
     have n7_ := Aside0.mk h7_
     have n8_ := Aside0.mk h8_
     have n9_ := Aside0.mk h9_
     have n10_ := Aside0.mk h10_
     have n11_ := Aside0.mk h11_
     have n12_ := Aside0.mk h12_
     have n13_ := Aside0.mk h13_
     have n14_ := Aside0.mk h14_
     have n15_ := Aside0.mk h15_
     have n16_ := Aside0.mk h16_
     have n17_ := Aside0.mk h17_
     have n18_ := Aside0.mk h18_
     have n19_ := Aside0.mk h19_
     have n20_ := Aside0.mk h20_
     have n21_ := Aside0.mk h21_
     have n22_ := Aside0.mk h22_
     have n23_ := Aside0.mk h23_
     clear HO_8; clear HO_37; clear HO_215000; clear BK2; clear BK3; clear HB
     clear h0_ h1_ h2_ h3_ h4_ h5_ h6_ h7_ h8_ h9_ h10_ h11_ h12_ h13_ h14_ h15_ h16_ h17_ h18_ h19_ h20_ h21_ h22_ h23_
     have HO222 := n0_
     have HO225 := n1_
     have HO_215000 := n2_
     have HO_37 := n3_
     have HO_8 := n4_
     have BK2 := n5_
     have BK3 := n6_
     have BK4 := n7_
     have BK5 := n8_
     have GW4 := n9_
     have GE4 := n10_
     have NB2_4 := n11_
     have NB4_2 := n12_
     have NB3_4 := n13_
     have NB4_3 := n14_
     have NB5_4 := n15_
     have NB4_5 := n16_
     have GW5 := n17_
     have GE5 := n18_
     have NB2_5 := n19_
     have NB5_2 := n20_
     have NB3_5 := n21_
     have NB5_3 := n22_
     have HB := n23_
     clear n0_ n1_ n2_ n3_ n4_ n5_ n6_ n7_ n8_ n9_ n10_ n11_ n12_ n13_ n14_ n15_ n16_ n17_ n18_ n19_ n20_ n21_ n22_ n23_
     have hHeld : w46.cell? ⟨gb2, 0, none⟩ = some (.slice A0 l0.length c0) ∧ w46.cell? ⟨gb3, 0, none⟩ = some (.slice Ao19 t210.length co19) := hS_
     obtain ⟨Ao47, co47, eo47⟩ := Kd.R_slice HO222.out
     (first | subst eo47 | (injection eo47 with f1_ f2_ f3_; have f4_ := f1_.symm; have f5_ := f3_.symm; clear f1_ f2_ f3_; subst f4_; subst f5_))
     refine norm_ (a' := ?_) ?_ ?_
     rotate_left
     ·
      simp only [putAll, Act.put, List.setIfInBounds_toArray, List.set_cons_zero, List.set_cons_succ]
      rfl
     refine one_ (i := 8) (N := none) #[true, true, true, true, true, true, true, true, true, false] rfl rfl (one_of HT_.out (by kernel_rfl)) (by decide) (fun K hK => ?_)
     have hs48 : w46.cell? ⟨gb4, 0, none⟩ = some (.slice none 0 0) := (blk_cell BK4.out 0).trans rfl
     have hfs48 := blk_frozen BK4.out 0
     have hns48_0 := NB2_4.out
     have hns48_1 := NB3_4.out
     have hns48_3 := NB5_4.out
     have hms48_0 := NB4_2.out
     have hms48_1 := NB4_3.out
     have hms48_3 := NB4_5.out
     refine skip_ (w1 := ?_) (by rfl) rfl ?_ ?_
     rotate_left
     ·
      go_simp
      rfl
     refine hK.out _ _ ⟨((cell_far (p := ⟨gb4, _, none⟩) NB2_4.out _).trans (hHeld.1)), ((cell_far (p := ⟨gb4, _, none⟩) NB3_4.out _).trans (hHeld.2))⟩ (fun hHeld => ?_)
     clear hK K
     exact norm_ (by simp only [putAll, Act.put, List.setIfInBounds_toArray, List.set_cons_zero, List.set_cons_succ] <;> rfl) (hJ2_5_6_7_8 (.slice Ao47 y220.length co47, v224, gb4, gb5) _ ⟨hHeld, (by (with_reducible repeat (first | apply Kd.R_alloc | apply Kd.R_drewN | apply Kd.R_drew)); exact Kd.R_mono (Kd.R_far (p := ⟨gb4, 0, none⟩) (Kd.R_types HO222.out BK4.out (by decide)) (fun _ hk => hk.2) (.slice Ao47 y220.length co47)) (fun _ hk => ⟨hk.1.1, hk.1.2⟩)), (by (with_reducible repeat (first | apply Kd.R_alloc | apply Kd.R_drewN | apply Kd.R_drew)); exact Kd.R_mono (Kd.R_far (p := ⟨gb4, 0, none⟩) (Kd.R_types HO225.out BK4.out (by decide)) (fun _ hk => hk.2) (.slice Ao47 y220.length co47)) (fun _ hk => ⟨hk.1.1, hk.1.2⟩)), (by (with_reducible repeat (first | apply Kd.R_alloc | apply Kd.R_drewN | apply Kd.R_drew)); exact Kd.R_mono (Kd.R_far (p := ⟨gb4, 0, none⟩) (Kd.R_types HO_215000.out BK4.out (by decide)) (fun _ hk => hk.2) (.slice Ao47 y220.length co47)) (fun _ hk => trivial)), (by (with_reducible repeat (first | apply Kd.R_alloc | apply Kd.R_drewN | apply Kd.R_drew)); exact Kd.R_mono (Kd.R_far (p := ⟨gb4, 0, none⟩) (Kd.R_types HO_37.out BK4.out (by decide)) (fun _ hk => hk.2) (.slice Ao47 y220.length co47)) (fun _ hk => trivial)), (by (with_reducible repeat (first | apply Kd.R_alloc | apply Kd.R_drewN | apply Kd.R_drew)); exact Kd.R_mono (Kd.R_far (p := ⟨gb4, 0, none⟩) (Kd.R_types HO_8.out BK4.out (by decide)) (fun _ hk => hk.2) (.slice Ao47 y220.length co47)) (fun _ hk => ⟨hk.1.1, hk.1.2⟩)), (by (with_reducible repeat (first | refine blk_drewN ?_ _ | refine blk_drew ?_ | refine blk_alloc ?_ _)); refine blk_far ?_ NB2_4.out _; (with_reducible repeat (first | refine blk_drewN ?_ _ | refine blk_drew ?_ | refine blk_alloc ?_ _)); exact BK2.out), (by (with_reducible repeat (first | refine blk_drewN ?_ _ | refine blk_drew ?_ | refine blk_alloc ?_ _)); refine blk_far ?_ NB3_4.out _; (with_reducible repeat (first | refine blk_drewN ?_ _ | refine blk_drew ?_ | refine blk_alloc ?_ _)); exact BK3.out), (by (with_reducible repeat (first | refine blk_drewN ?_ _ | refine blk_drew ?_ | refine blk_alloc ?_ _)); refine blk_put (cs := #[.slice none 0 0]) ?_ 0 _ rfl; (with_reducible repeat (first | refine blk_drewN ?_ _ | refine blk_drew ?_ | refine blk_alloc ?_ _)); exact BK4.out), (by (with_reducible repeat (first | refine blk_drewN ?_ _ | refine blk_drew ?_ | refine blk_alloc ?_ _)); refine blk_far ?_ NB5_4.out _; (with_reducible repeat (first | refine blk_drewN ?_ _ | refine blk_drew ?_ | refine blk_alloc ?_ _)); exact BK5.out), GW4.out, GE4.out, NB2_4.out, NB4_2.out, NB3_4.out, NB4_3.out, NB5_4.out, NB4_5.out, GW5.out, GE5.out, NB2_5.out, NB5_2.out, NB3_5.out, NB5_3.out, (by repeat (first | (with_reducible first | exact HB.out | apply below_alloc | apply pw_below_drewN | apply below_drew1 | refine below_set ?_ GE2.out | refine below_set ?_ GE3.out | refine below_set ?_ GE4.out | refine below_set ?_ GE5.out) | exact HB.out))⟩)
    intro hJ2_5_6_7
    refine join_ (σ := Value × Nat × Nat) 2 #[true, true, true, true, true, false, true, true, true, false] (fun s_ => [(51, s_.1), (11, .pointer (some ⟨s_.2.1, 0, none⟩)), (12, .pointer (some ⟨s_.2.2, 0, none⟩))]) (fun s_ w' => (w'.cell? ⟨gb2, 0, none⟩ = some (.slice A0 l0.length c0) ∧ w'.cell? ⟨gb3, 0, none⟩ = some (.slice Ao19 t210.length co19)) ∧ (Kd.R Kd.bool 4 w' w.heap.size (fun k_ => some k_ ≠ (v216 : Value).ownBlock) s_.1 y220) ∧ (Kd.R (Kd.int .i64) 3 w' w.heap.size (fun _ => True) (.slice Ao19 t210.length co19) t210) ∧ (Kd.R (Kd.int .i64) 3 w' w.heap.size (fun _ => True) (.slice Ao19 t210.length co19) t210) ∧ (Kd.R Kd.bool 4 w' w.heap.size (fun k_ => some k_ ≠ (s_.1 : Value).ownBlock) v216 x8_1) ∧ (w'.heap[gb2]? = some (.cells #[.slice A0 l0.length c0] 22 (0, 0))) ∧ (w'.heap[gb3]? = some (.cells #[.slice Ao19 t210.length co19] 29 (0, 0))) ∧ (w'.heap[s_.2.1]? = some (.cells #[s_.1] 38 (0, 0))) ∧ (w'.heap[s_.2.2]? = some (.cells #[.slice none 0 0] 38 (0, 0))) ∧ (w.heap.size ≤ s_.2.1) ∧ (w.heap.size ≤ s_.2.1) ∧ (gb2 ≠ s_.2.1) ∧ (s_.2.1 ≠ gb2) ∧ (gb3 ≠ s_.2.1) ∧ (s_.2.1 ≠ gb3) ∧ (s_.2.2 ≠ s_.2.1) ∧ (s_.2.1 ≠ s_.2.2) ∧ (w.heap.size ≤ s_.2.2) ∧ (w.heap.size ≤ s_.2.2) ∧ (gb2 ≠ s_.2.2) ∧ (s_.2.2 ≠ gb2) ∧ (gb3 ≠ s_.2.2) ∧ (s_.2.2 ≠ gb3) ∧ (Below w.heap.size w w')) ?_ ?_
    ·
     skip
     rintro ⟨v221, gb4, gb5⟩ w46 ⟨hS_, h0_, h1_, h2_, h3_, h4_, h5_, h6_, h7_, h8_, h9_, h10_, h11_, h12_, h13_, h14_, h15_, h16_, h17_, h18_, h19_, h20_, h21_, h22_⟩
     try dsimp only at h0_ h1_ h2_ h3_ h4_ h5_ h6_ h7_ h8_ h9_ h10_ h11_ h12_ h13_ h14_ h15_ h16_ h17_ h18_ h19_ h20_ h21_ h22_
     have n0_ := Aside0.mk h0_
     have n1_ := Aside0.mk h1_
     have n2_ := Aside0.mk h2_
     have n3_ := Aside0.mk h3_
     have n4_ := Aside0.mk h4_
     have n5_ := Aside0.mk h5_
     have n6_ := Aside0.mk h6_
     have n7_ := Aside0.mk h7_
     have n8_ := Aside0.mk h8_
     have n9_ := Aside0.mk h9_
     have n10_ := Aside0.mk h10_
     have n11_ := Aside0.mk h11_
     have n12_ := Aside0.mk h12_
     have n13_ := Aside0.mk h13_
     have n14_ := Aside0.mk h14_
     have n15_ := Aside0.mk h15_
     have n16_ := Aside0.mk h16_
     have n17_ := Aside0.mk h17_
     have n18_ := Aside0.mk h18_
     have n19_ := Aside0.mk h19_
     have n20_ := Aside0.mk h20_
     have n21_ := Aside0.mk h21_
     have n22_ := Aside0.mk h22_
     clear HO_8; clear HO_37; clear HO_215000; clear BK2; clear BK3; clear HB
     clear h0_ h1_ h2_ h3_ h4_ h5_ h6_ h7_ h8_ h9_ h10_ h11_ h12_ h13_ h14_ h15_ h16_ h17_ h18_ h19_ h20_ h21_ h22_
     have HO222 := n0_
     have HO_215000 := n1_
     have HO_37 := n2_
     have HO_8 := n3_
     have BK2 := n4_
     have BK3 := n5_
     have BK4 := n6_
     have BK5 := n7_
     have GW4 := n8_
     have GE4 := n9_
     have NB2_4 := n10_
     have NB4_2 := n11_
     have NB3_4 := n12_
     have NB4_3 := n13_
     have NB5_4 := n14_
     have NB4_5 := n15_
     have GW5 := n16_
     have GE5 := n17_
     have NB2_5 := n18_
     have NB5_2 := n19_
     have NB3_5 := n20_
     have NB5_3 := n21_
     have HB := n22_
     clear n0_ n1_ n2_ n3_ n4_ n5_ n6_ n7_ n8_ n9_ n10_ n11_ n12_ n13_ n14_ n15_ n16_ n17_ n18_ n19_ n20_ n21_ n22_
     have hHeld : w46.cell? ⟨gb2, 0, none⟩ = some (.slice A0 l0.length c0) ∧ w46.cell? ⟨gb3, 0, none⟩ = some (.slice Ao19 t210.length co19) := hS_
     refine norm_ (a' := ?_) ?_ ?_
     rotate_left
     ·
      simp only [putAll, Act.put, List.setIfInBounds_toArray, List.set_cons_zero, List.set_cons_succ]
      rfl
     refine one_ (i := 5) (N := some 54) #[true, true, true, true, true, true, true, true, true, false] rfl rfl (one_of HT_.out (by kernel_rfl)) (by decide) (fun K hK => ?_)
     refine Kd.R_make_step Kd.bool _ 4 (by rfl) (N := 54) rfl 38 _ _ rfl (t210.length : Int) rfl rfl Try.underlying38 (.bool false) 1 info4 rfl (by decide) (by omega) false (ok := fun _ => True) (okp := fun _ => True) rfl (fun _ hk => hk) trivial (of_decide_eq_true (by first | (with_reducible assumption) | assumption)) (Nat.le_trans (Nat.mul_le_mul_right _ (of_decide_eq_true (by first | (with_reducible assumption) | assumption) : (t210.length : Int).toNat ≤ 281474976710656)) (by omega)) (Below.refl _ _) (Nat.le_refl _) ?_
     intro v224 w47 ho48 hb hg_ hnew_
     clear hg_ hnew_
     (first | rw [← Ny223.out] at ho48 | (simp only [Int.reduceToNat] at ho48; rw [← Ny223.out] at ho48))
     replace HO_37 := Aside0.mk (Kd.R_below (by (with_reducible repeat (first | apply Kd.R_alloc | apply Kd.R_drewN | apply Kd.R_drew)); exact HO_37.out) hb); replace HO_215000 := Aside0.mk (Kd.R_below (by (with_reducible repeat (first | apply Kd.R_alloc | apply Kd.R_drewN | apply Kd.R_drew)); exact HO_215000.out) hb); have HO225 := Aside0.mk (Kd.R_lower (Kd.R_new' (Kd.R_new' ho48 (Kd.R_lt (by (with_reducible repeat (first | apply Kd.R_alloc | apply Kd.R_drewN | apply Kd.R_drew)); exact HO_8.out))) (Kd.R_lt (by (with_reducible repeat (first | apply Kd.R_alloc | apply Kd.R_drewN | apply Kd.R_drew)); exact HO222.out))) (below_size (by repeat (first | (with_reducible first | exact HB.out | apply below_alloc | apply pw_below_drewN | apply below_drew1 | refine below_set ?_ GE2.out | refine below_set ?_ GE3.out | refine below_set ?_ GE4.out | refine below_set ?_ GE5.out) | exact HB.out)))); replace HO_8 := Aside0.mk (Kd.R_elder' (by (with_reducible repeat (first | apply Kd.R_alloc | apply Kd.R_drewN | apply Kd.R_drew)); exact HO_8.out) (Kd.R_base ho48) hb); replace HO222 := Aside0.mk (Kd.R_elder' (by (with_reducible repeat (first | apply Kd.R_alloc | apply Kd.R_drewN | apply Kd.R_drew)); exact HO222.out) (Kd.R_base ho48) hb); replace BK2 := mBb BK2 hb; replace BK3 := mBb BK3 hb; replace BK4 := mBb BK4 hb; replace BK5 := mBb BK5 hb; replace HB := Aside0.mk (below_step (by repeat (first | (with_reducible first | exact HB.out | apply below_alloc | apply pw_below_drewN | apply below_drew1 | refine below_set ?_ GE2.out | refine below_set ?_ GE3.out | refine below_set ?_ GE4.out | refine below_set ?_ GE5.out) | exact HB.out)) hb)
     clear hb ho48
     refine hK.out _ _ ⟨blk_cell BK2.out 0, blk_cell BK3.out 0⟩ (fun hHeld => ?_)
     clear hK K
     refine norm_ (a' := ?_) ?_ ?_
     rotate_left
     ·
      show Act.put _ (some 54) _ = _
      simp only [Act.put, List.setIfInBounds_toArray, List.set_cons_zero, List.set_cons_succ, i64_w, i32_w]
      rfl
     exact norm_ (by simp only [putAll, Act.put, List.setIfInBounds_toArray, List.set_cons_zero, List.set_cons_succ] <;> rfl) (hJ2_5_6_7_8 (v221, v224, gb4, gb5) _ ⟨hHeld, (by (with_reducible repeat (first | apply Kd.R_alloc | apply Kd.R_drewN | apply Kd.R_drew)); exact Kd.R_mono HO222.out (fun _ hk => ⟨hk.2, hk.1⟩)), (by (with_reducible repeat (first | apply Kd.R_alloc | apply Kd.R_drewN | apply Kd.R_drew)); exact Kd.R_mono HO225.out (fun _ hk => ⟨hk.2, hk.1.2⟩)), (by (with_reducible repeat (first | apply Kd.R_alloc | apply Kd.R_drewN | apply Kd.R_drew)); exact HO_215000.out), (by (with_reducible repeat (first | apply Kd.R_alloc | apply Kd.R_drewN | apply Kd.R_drew)); exact HO_37.out), (by (with_reducible repeat (first | apply Kd.R_alloc | apply Kd.R_drewN | apply Kd.R_drew)); exact HO_8.out), BK2.out, BK3.out, BK4.out, BK5.out, GW4.out, GE4.out, NB2_4.out, NB4_2.out, NB3_4.out, NB4_3.out, NB5_4.out, NB4_5.out, GW5.out, GE5.out, NB2_5.out, NB5_2.out, NB3_5.out, NB5_3.out, (by repeat (first | (with_reducible first | exact HB.out | apply below_alloc | apply pw_below_drewN | apply below_drew1 | refine below_set ?_ GE2.out | refine below_set ?_ GE3.out | refine below_set ?_ GE4.out | refine below_set ?_ GE5.out) | exact HB.out))⟩)
    intro hJ2_6_7_8
    refine join_ (σ := Value × Value × Nat) 3 #[true, true, true, true, true, true, true, false, false, false] (fun s_ => [(51, s_.1), (54, s_.2.1), (11, .pointer (some ⟨s_.2.2, 0, none⟩))]) (fun s_ w' => (w'.cell? ⟨gb2, 0, none⟩ = some (.slice A0 l0.length c0) ∧ w'.cell? ⟨gb3, 0, none⟩ = some (.slice Ao19 t210.length co19)) ∧ (Kd.R Kd.bool 4 w' w.heap.size (fun k_ => some k_ ≠ (s_.2.1 : Value).ownBlock ∧ some k_ ≠ (v216 : Value).ownBlock) s_.1 y220) ∧ (Kd.R Kd.bool 4 w' w.heap.size (fun k_ => some k_ ≠ (s_.1 : Value).ownBlock ∧ some k_ ≠ (v216 : Value).ownBlock) s_.2.1 y223) ∧ (Kd.R (Kd.int .i64) 3 w' w.heap.size (fun _ => True) (.slice Ao19 t210.length co19) t210) ∧ (Kd.R (Kd.int .i64) 3 w' w.heap.size (fun _ => True) (.slice Ao19 t210.length co19) t210) ∧ (Kd.R Kd.bool 4 w' w.heap.size (fun k_ => some k_ ≠ (s_.1 : Value).ownBlock ∧ some k_ ≠ (s_.2.1 : Value).ownBlock) v216 x8_1) ∧ (w'.heap[gb2]? = some (.cells #[.slice A0 l0.length c0] 22 (0, 0))) ∧ (w'.heap[gb3]? = some (.cells #[.slice Ao19 t210.length co19] 29 (0, 0))) ∧ (w'.heap[s_.2.2]? = some (.cells #[.slice none 0 0] 38 (0, 0))) ∧ (w.heap.size ≤ s_.2.2) ∧ (w.heap.size ≤ s_.2.2) ∧ (gb2 ≠ s_.2.2) ∧ (s_.2.2 ≠ gb2) ∧ (gb3 ≠ s_.2.2) ∧ (s_.2.2 ≠ gb3) ∧ (Below w.heap.size w w')) ?_ ?_
    ·
     skip
     rintro ⟨v221, v224, gb4⟩ w45 ⟨hS_, h0_, h1_, h2_, h3_, h4_, h5_, h6_, h7_, h8_, h9_, h10_, h11_, h12_, h13_, h14_⟩
     try dsimp only at h0_ h1_ h2_ h3_ h4_ h5_ h6_ h7_ h8_ h9_ h10_ h11_ h12_ h13_ h14_
     have n0_ := Aside0.mk h0_
     have n1_ := Aside0.mk h1_
     have n2_ := Aside0.mk h2_
     have n3_ := Aside0.mk h3_
     have n4_ := Aside0.mk h4_
     have n5_ := Aside0.mk h5_
     have n6_ := Aside0.mk h6_
     have n7_ := Aside0.mk h7_
     have n8_ := Aside0.mk h8_
     have n9_ := Aside0.mk h9_
     have n10_ := Aside0.mk h10_
     have n11_ := Aside0.mk h11_
     have n12_ := Aside0.mk h12_
     have n13_ := Aside0.mk h13_
     have n14_ := Aside0.mk h14_
     clear HO_8; clear HO_37; clear HO_215000; clear BK2; clear BK3; clear HB
     clear h0_ h1_ h2_ h3_ h4_ h5_ h6_ h7_ h8_ h9_ h10_ h11_ h12_ h13_ h14_
     have HO222 := n0_
     have HO225 := n1_
     have HO_215000 := n2_
     have HO_37 := n3_
     have HO_8 := n4_
     have BK2 := n5_
     have BK3 := n6_
     have BK4 := n7_
     have GW4 := n8_
     have GE4 := n9_
     have NB2_4 := n10_
     have NB4_2 := n11_
     have NB3_4 := n12_
     have NB4_3 := n13_
     have HB := n14_
     clear n0_ n1_ n2_ n3_ n4_ n5_ n6_ n7_ n8_ n9_ n10_ n11_ n12_ n13_ n14_
     have hHeld : w45.cell? ⟨gb2, 0, none⟩ = some (.slice A0 l0.length c0) ∧ w45.cell? ⟨gb3, 0, none⟩ = some (.slice Ao19 t210.length co19) := hS_
     refine norm_ (a' := ?_) ?_ ?_
     rotate_left
     ·
      simp only [putAll, Act.put, List.setIfInBounds_toArray, List.set_cons_zero, List.set_cons_succ]
      rfl
     refine one_ (i := 7) (N := some 12) #[true, true, true, true, true, true, true, true, false, false] rfl rfl (one_of HT_.out (by kernel_rfl)) (by decide) (fun K hK => ?_)
     refine box_step ?hg (N := 12) ?hd (cs := #[.slice none 0 0]) (t := 38) ?hr ?_; (case hd => rfl); (case hg => rfl); (case hr => first | (go_simp; done) | (go_simp; rfl))
     intro gb5 hg w46 hbox hb
     replace HO_8 := Aside0.mk (Kd.R_below (by (with_reducible repeat (first | apply Kd.R_alloc | apply Kd.R_drewN | apply Kd.R_drew)); exact HO_8.out) hb); replace HO_37 := Aside0.mk (Kd.R_below (by (with_reducible repeat (first | apply Kd.R_alloc | apply Kd.R_drewN | apply Kd.R_drew)); exact HO_37.out) hb); replace HO_215000 := Aside0.mk (Kd.R_below (by (with_reducible repeat (first | apply Kd.R_alloc | apply Kd.R_drewN | apply Kd.R_drew)); exact HO_215000.out) hb); replace HO222 := Aside0.mk (Kd.R_below (by (with_reducible repeat (first | apply Kd.R_alloc | apply Kd.R_drewN | apply Kd.R_drew)); exact HO222.out) hb); replace HO225 := Aside0.mk (Kd.R_below (by (with_reducible repeat (first | apply Kd.R_alloc | apply Kd.R_drewN | apply Kd.R_drew)); exact HO225.out) hb); have BK5 := Aside0.mk hbox; have GW5 := Aside0.mk ((by rw [hg]; exact (below_size (by repeat (first | (with_reducible first | exact HB.out | apply below_alloc | apply pw_below_drewN | apply below_drew1 | refine below_set ?_ GE2.out | refine below_set ?_ GE3.out | refine below_set ?_ GE4.out) | exact HB.out))) : w.heap.size ≤ gb5)); have GE5 := GW5; replace HB := Aside0.mk (below_step (by repeat (first | (with_reducible first | exact HB.out | apply below_alloc | apply pw_below_drewN | apply below_drew1 | refine below_set ?_ GE2.out | refine below_set ?_ GE3.out | refine below_set ?_ GE4.out) | exact HB.out)) hb); have NB2_5 := mNe BK2 hg; have NB5_2 := mSy NB2_5; replace BK2 := mBb BK2 hb; have NB3_5 := mNe BK3 hg; have NB5_3 := mSy NB3_5; replace BK3 := mBb BK3 hb; have NB4_5 := mNe BK4 hg; have NB5_4 := mSy NB4_5; replace BK4 := mBb BK4 hb
     clear hb hbox hg
     refine hK.out _ _ ⟨blk_cell BK2.out 0, blk_cell BK3.out 0⟩ (fun hHeld => ?_)
     clear hK K
     refine norm_ (a' := ?_) ?_ ?_
     rotate_left
     ·
      show Act.put _ (some 12) _ = _
      simp only [Act.put, List.setIfInBounds_toArray, List.set_cons_zero, List.set_cons_succ, i64_w, i32_w]
      rfl
     exact norm_ (by simp only [putAll, Act.put, List.setIfInBounds_toArray, List.set_cons_zero, List.set_cons_succ] <;> rfl) (hJ2_5_6_7 (v221, v224, gb4, gb5) _ ⟨hHeld, (by (with_reducible repeat (first | apply Kd.R_alloc | apply Kd.R_drewN | apply Kd.R_drew)); exact HO222.out), (by (with_reducible repeat (first | apply Kd.R_alloc | apply Kd.R_drewN | apply Kd.R_drew)); exact HO225.out), (by (with_reducible repeat (first | apply Kd.R_alloc | apply Kd.R_drewN | apply Kd.R_drew)); exact HO_215000.out), (by (with_reducible repeat (first | apply Kd.R_alloc | apply Kd.R_drewN | apply Kd.R_drew)); exact HO_37.out), (by (with_reducible repeat (first | apply Kd.R_alloc | apply Kd.R_drewN | apply Kd.R_drew)); exact HO_8.out), BK2.out, BK3.out, BK4.out, BK5.out, GW4.out, GE4.out, NB2_4.out, NB4_2.out, NB3_4.out, NB4_3.out, NB5_4.out, NB4_5.out, GW5.out, GE5.out, NB2_5.out, NB5_2.out, NB3_5.out, NB5_3.out, (by repeat (first | (with_reducible first | exact HB.out | apply below_alloc | apply pw_below_drewN | apply below_drew1 | refine below_set ?_ GE2.out | refine below_set ?_ GE3.out | refine below_set ?_ GE4.out | refine below_set ?_ GE5.out) | exact HB.out))⟩)
    intro hJ2_5_6
    refine join_ (σ := Value × Value × Nat) 3 #[true, true, true, true, true, true, false, true, false, false] (fun s_ => [(51, s_.1), (54, s_.2.1), (12, .pointer (some ⟨s_.2.2, 0, none⟩))]) (fun s_ w' => (w'.cell? ⟨gb2, 0, none⟩ = some (.slice A0 l0.length c0) ∧ w'.cell? ⟨gb3, 0, none⟩ = some (.slice Ao19 t210.length co19)) ∧ (Kd.R Kd.bool 4 w' w.heap.size (fun k_ => some k_ ≠ (s_.2.1 : Value).ownBlock ∧ some k_ ≠ (v216 : Value).ownBlock) s_.1 y220) ∧ (Kd.R Kd.bool 4 w' w.heap.size (fun k_ => some k_ ≠ (s_.1 : Value).ownBlock ∧ some k_ ≠ (v216 : Value).ownBlock) s_.2.1 y223) ∧ (Kd.R (Kd.int .i64) 3 w' w.heap.size (fun _ => True) (.slice Ao19 t210.length co19) t210) ∧ (Kd.R (Kd.int .i64) 3 w' w.heap.size (fun _ => True) (.slice Ao19 t210.length co19) t210) ∧ (Kd.R Kd.bool 4 w' w.heap.size (fun k_ => some k_ ≠ (s_.1 : Value).ownBlock ∧ some k_ ≠ (s_.2.1 : Value).ownBlock) v216 x8_1) ∧ (w'.heap[gb2]? = some (.cells #[.slice A0 l0.length c0] 22 (0, 0))) ∧ (w'.heap[gb3]? = some (.cells #[.slice Ao19 t210.length co19] 29 (0, 0))) ∧ (w'.heap[s_.2.2]? = some (.cells #[.slice none 0 0] 38 (0, 0))) ∧ (w.heap.size ≤ s_.2.2) ∧ (w.heap.size ≤ s_.2.2) ∧ (gb2 ≠ s_.2.2) ∧ (s_.2.2 ≠ gb2) ∧ (gb3 ≠ s_.2.2) ∧ (s_.2.2 ≠ gb3) ∧ (Below w.heap.size w w')) ?_ ?_
    ·
     skip
     rintro ⟨v221, v224, gb5⟩ w45 ⟨hS_, h0_, h1_, h2_, h3_, h4_, h5_, h6_, h7_, h8_, h9_, h10_, h11_, h12_, h13_, h14_⟩
     try dsimp only at h0_ h1_ h2_ h3_ h4_ h5_ h6_ h7_ h8_ h9_ h10_ h11_ h12_ h13_ h14_
     have n0_ := Aside0.mk h0_
     have n1_ := Aside0.mk h1_
     have n2_ := Aside0.mk h2_
     have n3_ := Aside0.mk h3_
     have n4_ := Aside0.mk h4_
     have n5_ := Aside0.mk h5_
     have n6_ := Aside0.mk h6_
     have n7_ := Aside0.mk h7_
     have n8_ := Aside0.mk h8_
     have n9_ := Aside0.mk h9_
     have n10_ := Aside0.mk h10_
     have n11_ := Aside0.mk h11_
     have n12_ := Aside0.mk h12_
     have n13_ := Aside0.mk h13_
     have n14_ := Aside0.mk h14_
     clear HO_8; clear HO_37; clear HO_215000; clear BK2; clear BK3; clear HB
     clear h0_ h1_ h2_ h3_ h4_ h5_ h6_ h7_ h8_ h9_ h10_ h11_ h12_ h13_ h14_
     have HO222 := n0_
     have HO225 := n1_
     have HO_215000 := n2_
     have HO_37 := n3_
     have HO_8 := n4_
     have BK2 := n5_
     have BK3 := n6_
     have BK5 := n7_
     have GW5 := n8_
     have GE5 := n9_
     have NB2_5 := n10_
     have NB5_2 := n11_
     have NB3_5 := n12_
     have NB5_3 := n13_
     have HB := n14_
     clear n0_ n1_ n2_ n3_ n4_ n5_ n6_ n7_ n8_ n9_ n10_ n11_ n12_ n13_ n14_
     have hHeld : w45.cell? ⟨gb2, 0, none⟩ = some (.slice A0 l0.length c0) ∧ w45.cell? ⟨gb3, 0, none⟩ = some (.slice Ao19 t210.length co19) := hS_
     refine norm_ (a' := ?_) ?_ ?_
     rotate_left
     ·
      simp only [putAll, Act.put, List.setIfInBounds_toArray, List.set_cons_zero, List.set_cons_succ]
      rfl
     refine one_ (i := 6) (N := some 11) #[true, true, true, true, true, true, true, true, false, false] rfl rfl (one_of HT_.out (by kernel_rfl)) (by decide) (fun K hK => ?_)
     refine box_step ?hg (N := 11) ?hd (cs := #[.slice none 0 0]) (t := 38) ?hr ?_; (case hd => rfl); (case hg => rfl); (case hr => first | (go_simp; done) | (go_simp; rfl))
     intro gb4 hg w46 hbox hb
     replace HO_8 := Aside0.mk (Kd.R_below (by (with_reducible repeat (first | apply Kd.R_alloc | apply Kd.R_drewN | apply Kd.R_drew)); exact HO_8.out) hb); replace HO_37 := Aside0.mk (Kd.R_below (by (with_reducible repeat (first | apply Kd.R_alloc | apply Kd.R_drewN | apply Kd.R_drew)); exact HO_37.out) hb); replace HO_215000 := Aside0.mk (Kd.R_below (by (with_reducible repeat (first | apply Kd.R_alloc | apply Kd.R_drewN | apply Kd.R_drew)); exact HO_215000.out) hb); replace HO222 := Aside0.mk (Kd.R_below (by (with_reducible repeat (first | apply Kd.R_alloc | apply Kd.R_drewN | apply Kd.R_drew)); exact HO222.out) hb); replace HO225 := Aside0.mk (Kd.R_below (by (with_reducible repeat (first | apply Kd.R_alloc | apply Kd.R_drewN | apply Kd.R_drew)); exact HO225.out) hb); have BK4 := Aside0.mk hbox; have GW4 := Aside0.mk ((by rw [hg]; exact (below_size (by repeat (first | (with_reducible first | exact HB.out | apply below_alloc | apply pw_below_drewN | apply below_drew1 | refine below_set ?_ GE2.out | refine below_set ?_ GE3.out | refine below_set ?_ GE5.out) | exact HB.out))) : w.heap.size ≤ gb4)); have GE4 := GW4; replace HB := Aside0.mk (below_step (by repeat (first | (with_reducible first | exact HB.out | apply below_alloc | apply pw_below_drewN | apply below_drew1 | refine below_set ?_ GE2.out | refine below_set ?_ GE3.out | refine below_set ?_ GE5.out) | exact HB.out)) hb); have NB2_4 := mNe BK2 hg; have NB4_2 := mSy NB2_4; replace BK2 := mBb BK2 hb; have NB3_4 := mNe BK3 hg; have NB4_3 := mSy NB3_4; replace BK3 := mBb BK3 hb; have NB5_4 := mNe BK5 hg; have NB4_5 := mSy NB5_4; replace BK5 := mBb BK5 hb
     clear hb hbox hg
     refine hK.out _ _ ⟨blk_cell BK2.out 0, blk_cell BK3.out 0⟩ (fun hHeld => ?_)
     clear hK K
     refine norm_ (a' := ?_) ?_ ?_
     rotate_left
     ·
      show Act.put _ (some 11) _ = _
      simp only [Act.put, List.setIfInBounds_toArray, List.set_cons_zero, List.set_cons_succ, i64_w, i32_w]
      rfl
     exact norm_ (by simp only [putAll, Act.put, List.setIfInBounds_toArray, List.set_cons_zero, List.set_cons_succ] <;> rfl) (hJ2_5_6_7 (v221, v224, gb4, gb5) _ ⟨hHeld, (by (with_reducible repeat (first | apply Kd.R_alloc | apply Kd.R_drewN | apply Kd.R_drew)); exact HO222.out), (by (with_reducible repeat (first | apply Kd.R_alloc | apply Kd.R_drewN | apply Kd.R_drew)); exact HO225.out), (by (with_reducible repeat (first | apply Kd.R_alloc | apply Kd.R_drewN | apply Kd.R_drew)); exact HO_215000.out), (by (with_reducible repeat (first | apply Kd.R_alloc | apply Kd.R_drewN | apply Kd.R_drew)); exact HO_37.out), (by (with_reducible repeat (first | apply Kd.R_alloc | apply Kd.R_drewN | apply Kd.R_drew)); exact HO_8.out), BK2.out, BK3.out, BK4.out, BK5.out, GW4.out, GE4.out, NB2_4.out, NB4_2.out, NB3_4.out, NB4_3.out, NB5_4.out, NB4_5.out, GW5.out, GE5.out, NB2_5.out, NB5_2.out, NB3_5.out, NB5_3.out, (by repeat (first | (with_reducible first | exact HB.out | apply below_alloc | apply pw_below_drewN | apply below_drew1 | refine below_set ?_ GE2.out | refine below_set ?_ GE3.out | refine below_set ?_ GE5.out | refine below_set ?_ GE4.out) | exact HB.out))⟩)
    intro hJ2_5_7
    refine join_ (σ := Value × Nat × Nat) 3 #[true, true, true, true, true, false, true, true, false, false] (fun s_ => [(51, s_.1), (11, .pointer (some ⟨s_.2.1, 0, none⟩)), (12, .pointer (some ⟨s_.2.2, 0, none⟩))]) (fun s_ w' => (w'.cell? ⟨gb2, 0, none⟩ = some (.slice A0 l0.length c0) ∧ w'.cell? ⟨gb3, 0, none⟩ = some (.slice Ao19 t210.length co19)) ∧ (Kd.R Kd.bool 4 w' w.heap.size (fun k_ => some k_ ≠ (v216 : Value).ownBlock) s_.1 y220) ∧ (Kd.R (Kd.int .i64) 3 w' w.heap.size (fun _ => True) (.slice Ao19 t210.length co19) t210) ∧ (Kd.R (Kd.int .i64) 3 w' w.heap.size (fun _ => True) (.slice Ao19 t210.length co19) t210) ∧ (Kd.R Kd.bool 4 w' w.heap.size (fun k_ => some k_ ≠ (s_.1 : Value).ownBlock) v216 x8_1) ∧ (w'.heap[gb2]? = some (.cells #[.slice A0 l0.length c0] 22 (0, 0))) ∧ (w'.heap[gb3]? = some (.cells #[.slice Ao19 t210.length co19] 29 (0, 0))) ∧ (w'.heap[s_.2.1]? = some (.cells #[.slice none 0 0] 38 (0, 0))) ∧ (w'.heap[s_.2.2]? = some (.cells #[.slice none 0 0] 38 (0, 0))) ∧ (w.heap.size ≤ s_.2.1) ∧ (w.heap.size ≤ s_.2.1) ∧ (gb2 ≠ s_.2.1) ∧ (s_.2.1 ≠ gb2) ∧ (gb3 ≠ s_.2.1) ∧ (s_.2.1 ≠ gb3) ∧ (s_.2.2 ≠ s_.2.1) ∧ (s_.2.1 ≠ s_.2.2) ∧ (w.heap.size ≤ s_.2.2) ∧ (w.heap.size ≤ s_.2.2) ∧ (gb2 ≠ s_.2.2) ∧ (s_.2.2 ≠ gb2) ∧ (gb3 ≠ s_.2.2) ∧ (s_.2.2 ≠ gb3) ∧ (Below w.heap.size w w')) ?_ ?_
    ·
     skip
     rintro ⟨v221, gb4, gb5⟩ w44 ⟨hS_, h0_, h1_, h2_, h3_, h4_, h5_, h6_, h7_, h8_, h9_, h10_, h11_, h12_, h13_, h14_, h15_, h16_, h17_, h18_, h19_, h20_, h21_, h22_⟩
     try dsimp only at h0_ h1_ h2_ h3_ h4_ h5_ h6_ h7_ h8_ h9_ h10_ h11_ h12_ h13_ h14_ h15_ h16_ h17_ h18_ h19_ h20_ h21_ h22_
     have n0_ := Aside0.mk h0_
     have n1_ := Aside0.mk h1_
     have n2_ := Aside0.mk h2_
     have n3_ := Aside0.mk h3_
     have n4_ := Aside0.mk h4_
     have n5_ := Aside0.mk h5_
     have n6_ := Aside0.mk h6_
     have n7_ := Aside0.mk h7_
     have n8_ := Aside0.mk h8_
     have n9_ := Aside0.mk h9_
     have n10_ := Aside0.mk h10_
     have n11_ := Aside0.mk h11_
     have n12_ := Aside0.mk h12_
     have n13_ := Aside0.mk h13_
     have n14_ := Aside0.mk h14_
     have n15_ := Aside0.mk h15_
     have n16_ := Aside0.mk h16_
     have n17_ := Aside0.mk h17_
     have n18_ := Aside0.mk h18_
     have n19_ := Aside0.mk h19_
     have n20_ := Aside0.mk h20_
     have n21_ := Aside0.mk h21_
     have n22_ := Aside0.mk h22_
     clear HO_8; clear HO_37; clear HO_215000; clear BK2; clear BK3; clear HB
     clear h0_ h1_ h2_ h3_ h4_ h5_ h6_ h7_ h8_ h9_ h10_ h11_ h12_ h13_ h14_ h15_ h16_ h17_ h18_ h19_ h20_ h21_ h22_
     have HO222 := n0_
     have HO_215000 := n1_
     have HO_37 := n2_
     have HO_8 := n3_
     have BK2 := n4_
     have BK3 := n5_
     have BK4 := n6_
     have BK5 := n7_
     have GW4 := n8_
     have GE4 := n9_
     have NB2_4 := n10_
     have NB4_2 := n11_
     have NB3_4 := n12_
     have NB4_3 := n13_
     have NB5_4 := n14_
     have NB4_5 := n15_
     have GW5 := n16_
     have GE5 := n17_
     have NB2_5 := n18_
     have NB5_2 := n19_
     have NB3_5 := n20_
     have NB5_3 := n21_
     have HB := n22_
     clear n0_ n1_ n2_ n3_ n4_ n5_ n6_ n7_ n8_ n9_ n10_ n11_ n12_ n13_ n14_ n15_ n16_ n17_ n18_ n19_ n20_ n21_ n22_
     have hHeld : w44.cell? ⟨gb2, 0, none⟩ = some (.slice A0 l0.length c0) ∧ w44.cell? ⟨gb3, 0, none⟩ = some (.slice Ao19 t210.length co19) := hS_
     refine norm_ (a' := ?_) ?_ ?_
     rotate_left
     ·
      simp only [putAll, Act.put, List.setIfInBounds_toArray, List.set_cons_zero, List.set_cons_succ]
      rfl
     refine two_ (i := 5) (j := 8) (Ni := some 54) (Nj := none) #[true, true, true, true, true, true, true, true, false, false] #[true, true, true, true, true, false, true, true, true, false] rfl rfl rfl rfl (two_of HT_.out (by kernel_rfl)) (by decide) (by decide) (fun K hK => ?_) (fun K hK => ?_)
     ·
      skip
      refine Kd.R_make_step Kd.bool _ 4 (by rfl) (N := 54) rfl 38 _ _ rfl (t210.length : Int) rfl rfl Try.underlying38 (.bool false) 1 info4 rfl (by decide) (by omega) false (ok := fun _ => True) (okp := fun _ => True) rfl (fun _ hk => hk) trivial (of_decide_eq_true (by first | (with_reducible assumption) | assumption)) (Nat.le_trans (Nat.mul_le_mul_right _ (of_decide_eq_true (by first | (with_reducible assumption) | assumption) : (t210.length : Int).toNat ≤ 281474976710656)) (by omega)) (Below.refl _ _) (Nat.le_refl _) ?_
      intro v224 w45 ho46 hb hg_ hnew_
      clear hg_ hnew_
      (first | rw [← Ny223.out] at ho46 | (simp only [Int.reduceToNat] at ho46; rw [← Ny223.out] at ho46))
      replace HO_37 := Aside0.mk (Kd.R_below (by (with_reducible repeat (first | apply Kd.R_alloc | apply Kd.R_drewN | apply Kd.R_drew)); exact HO_37.out) hb); replace HO_215000 := Aside0.mk (Kd.R_below (by (with_reducible repeat (first | apply Kd.R_alloc | apply Kd.R_drewN | apply Kd.R_drew)); exact HO_215000.out) hb); have HO225 := Aside0.mk (Kd.R_lower (Kd.R_new' (Kd.R_new' ho46 (Kd.R_lt (by (with_reducible repeat (first | apply Kd.R_alloc | apply Kd.R_drewN | apply Kd.R_drew)); exact HO_8.out))) (Kd.R_lt (by (with_reducible repeat (first | apply Kd.R_alloc | apply Kd.R_drewN | apply Kd.R_drew)); exact HO222.out))) (below_size (by repeat (first | (with_reducible first | exact HB.out | apply below_alloc | apply pw_below_drewN | apply below_drew1 | refine below_set ?_ GE2.out | refine below_set ?_ GE3.out | refine below_set ?_ GE4.out | refine below_set ?_ GE5.out) | exact HB.out)))); replace HO_8 := Aside0.mk (Kd.R_elder' (by (with_reducible repeat (first | apply Kd.R_alloc | apply Kd.R_drewN | apply Kd.R_drew)); exact HO_8.out) (Kd.R_base ho46) hb); replace HO222 := Aside0.mk (Kd.R_elder' (by (with_reducible repeat (first | apply Kd.R_alloc | apply Kd.R_drewN | apply Kd.R_drew)); exact HO222.out) (Kd.R_base ho46) hb); replace BK2 := mBb BK2 hb; replace BK3 := mBb BK3 hb; replace BK4 := mBb BK4 hb; replace BK5 := mBb BK5 hb; replace HB := Aside0.mk (below_step (by repeat (first | (with_reducible first | exact HB.out | apply below_alloc | apply pw_below_drewN | apply below_drew1 | refine below_set ?_ GE2.out | refine below_set ?_ GE3.out | refine below_set ?_ GE4.out | refine below_set ?_ GE5.out) | exact HB.out)) hb)
      clear hb ho46
      refine hK.out _ _ ⟨blk_cell BK2.out 0, blk_cell BK3.out 0⟩ (fun hHeld => ?_)
      clear hK K
      refine norm_ (a' := ?_) ?_ ?_
      rotate_left
      ·
       show Act.put _ (some 54) _ = _
       simp only [Act.put, List.setIfInBounds_toArray, List.set_cons_zero, List.set_cons_succ, i64_w, i32_w]
       rfl
      exact norm_ (by simp only [putAll, Act.put, List.setIfInBounds_toArray, List.set_cons_zero, List.set_cons_succ] <;> rfl) (hJ2_5_6_7 (v221, v224, gb4, gb5) _ ⟨hHeld, (by (with_reducible repeat (first | apply Kd.R_alloc | apply Kd.R_drewN | apply Kd.R_drew)); exact Kd.R_mono HO222.out (fun _ hk => ⟨hk.2, hk.1⟩)), (by (with_reducible repeat (first | apply Kd.R_alloc | apply Kd.R_drewN | apply Kd.R_drew)); exact Kd.R_mono HO225.out (fun _ hk => ⟨hk.2, hk.1.2⟩)), (by (with_reducible repeat (first | apply Kd.R_alloc | apply Kd.R_drewN | apply Kd.R_drew)); exact HO_215000.out), (by (with_reducible repeat (first | apply Kd.R_alloc | apply Kd.R_drewN | apply Kd.R_drew)); exact HO_37.out), (by (with_reducible repeat (first | apply Kd.R_alloc | apply Kd.R_drewN | apply Kd.R_drew)); exact HO_8.out), BK2.out, BK3.out, BK4.out, BK5.out, GW4.out, GE4.out, NB2_4.out, NB4_2.out, NB3_4.out, NB4_3.out, NB5_4.out, NB4_5.out, GW5.out, GE5.out, NB2_5.out, NB5_2.out, NB3_5.out, NB5_3.out, (by repeat (first | (with_reducible first | exact HB.out | apply below_alloc | apply pw_below_drewN | apply below_drew1 | refine below_set ?_ GE2.out | refine below_set ?_ GE3.out | refine below_set ?_ GE4.out | refine below_set ?_ GE5.out) | exact HB.out))⟩)
     ·
      skip
      obtain ⟨Ao45, co45, eo45⟩ := Kd.R_slice HO222.out
      (first | subst eo45 | (injection eo45 with f1_ f2_ f3_; have f4_ := f1_.symm; have f5_ := f3_.symm; clear f1_ f2_ f3_; subst f4_; subst f5_))
      have hs46 : w44.cell? ⟨gb4, 0, none⟩ = some (.slice none 0 0) := (blk_cell BK4.out 0).trans rfl
      have hfs46 := blk_frozen BK4.out 0
      have hns46_0 := NB2_4.out
      have hns46_1 := NB3_4.out
      have hns46_3 := NB5_4.out
      have hms46_0 := NB4_2.out
      have hms46_1 := NB4_3.out
      have hms46_3 := NB4_5.out
      refine skip_ (w1 := ?_) (by rfl) rfl ?_ ?_
      rotate_left
      ·
       go_simp
       rfl
      refine hK.out _ _ ⟨((cell_far (p := ⟨gb4, _, none⟩) NB2_4.out _).trans (hHeld.1)), ((cell_far (p := ⟨gb4, _, none⟩) NB3_4.out _).trans (hHeld.2))⟩ (fun hHeld => ?_)
      clear hK K
      exact norm_ (by simp only [putAll, Act.put, List.setIfInBounds_toArray, List.set_cons_zero, List.set_cons_succ] <;> rfl) (hJ2_6_7_8 (.slice Ao45 y220.length co45, gb4, gb5) _ ⟨hHeld, (by (with_reducible repeat (first | apply Kd.R_alloc | apply Kd.R_drewN | apply Kd.R_drew)); exact Kd.R_mono (Kd.R_far (p := ⟨gb4, 0, none⟩) (Kd.R_types HO222.out BK4.out (by decide)) (fun _ hk => hk.2) (.slice Ao45 y220.length co45)) (fun _ hk => hk.1)), (by (with_reducible repeat (first | apply Kd.R_alloc | apply Kd.R_drewN | apply Kd.R_drew)); exact Kd.R_mono (Kd.R_far (p := ⟨gb4, 0, none⟩) (Kd.R_types HO_215000.out BK4.out (by decide)) (fun _ hk => hk.2) (.slice Ao45 y220.length co45)) (fun _ hk => trivial)), (by (with_reducible repeat (first | apply Kd.R_alloc | apply Kd.R_drewN | apply Kd.R_drew)); exact Kd.R_mono (Kd.R_far (p := ⟨gb4, 0, none⟩) (Kd.R_types HO_37.out BK4.out (by decide)) (fun _ hk => hk.2) (.slice Ao45 y220.length co45)) (fun _ hk => trivial)), (by (with_reducible repeat (first | apply Kd.R_alloc | apply Kd.R_drewN | apply Kd.R_drew)); exact Kd.R_mono (Kd.R_far (p := ⟨gb4, 0, none⟩) (Kd.R_types HO_8.out BK4.out (by decide)) (fun _ hk => hk.2) (.slice Ao45 y220.length co45)) (fun _ hk => hk.1)), (by (with_reducible repeat (first | refine blk_drewN ?_ _ | refine blk_drew ?_ | refine blk_alloc ?_ _)); refine blk_far ?_ NB2_4.out _; (with_reducible repeat (first | refine blk_drewN ?_ _ | refine blk_drew ?_ | refine blk_alloc ?_ _)); exact BK2.out), (by (with_reducible repeat (first | refine blk_drewN ?_ _ | refine blk_drew ?_ | refine blk_alloc ?_ _)); refine blk_far ?_ NB3_4.out _; (with_reducible repeat (first | refine blk_drewN ?_ _ | refine blk_drew ?_ | refine blk_alloc ?_ _)); exact BK3.out), (by (with_reducible repeat (first | refine blk_drewN ?_ _ | refine blk_drew ?_ | refine blk_alloc ?_ _)); refine blk_put (cs := #[.slice none 0 0]) ?_ 0 _ rfl; (with_reducible repeat (first | refine blk_drewN ?_ _ | refine blk_drew ?_ | refine blk_alloc ?_ _)); exact BK4.out), (by (with_reducible repeat (first | refine blk_drewN ?_ _ | refine blk_drew ?_ | refine blk_alloc ?_ _)); refine blk_far ?_ NB5_4.out _; (with_reducible repeat (first | refine blk_drewN ?_ _ | refine blk_drew ?_ | refine blk_alloc ?_ _)); exact BK5.out), GW4.out, GE4.out, NB2_4.out, NB4_2.out, NB3_4.out, NB4_3.out, NB5_4.out, NB4_5.out, GW5.out, GE5.out, NB2_5.out, NB5_2.out, NB3_5.out, NB5_3.out, (by repeat (first | (with_reducible first | exact HB.out | apply below_alloc | apply pw_below_drewN | apply below_drew1 | refine below_set ?_ GE2.out | refine below_set ?_ GE3.out | refine below_set ?_ GE4.out | refine below_set ?_ GE5.out) | exact HB.out))⟩)
    intro hJ2_6_7
    refine join_ (σ := Value × Nat × Nat) 3 #[true, true, false, true, true, true, true, true, false, false] (fun s_ => [(54, s_.1), (11, .pointer (some ⟨s_.2.1, 0, none⟩)), (12, .pointer (some ⟨s_.2.2, 0, none⟩))]) (fun s_ w' => (w'.cell? ⟨gb2, 0, none⟩ = some (.slice A0 l0.length c0) ∧ w'.cell? ⟨gb3, 0, none⟩ = some (.slice Ao19 t210.length co19)) ∧ (Kd.R Kd.bool 4 w' w.heap.size (fun k_ => some k_ ≠ (v216 : Value).ownBlock) s_.1 y223) ∧ (Kd.R (Kd.int .i64) 3 w' w.heap.size (fun _ => True) (.slice Ao19 t210.length co19) t210) ∧ (Kd.R (Kd.int .i64) 3 w' w.heap.size (fun _ => True) (.slice Ao19 t210.length co19) t210) ∧ (Kd.R Kd.bool 4 w' w.heap.size (fun k_ => some k_ ≠ (s_.1 : Value).ownBlock) v216 x8_1) ∧ (w'.heap[gb2]? = some (.cells #[.slice A0 l0.length c0] 22 (0, 0))) ∧ (w'.heap[gb3]? = some (.cells #[.slice Ao19 t210.length co19] 29 (0, 0))) ∧ (w'.heap[s_.2.1]? = some (.cells #[.slice none 0 0] 38 (0, 0))) ∧ (w'.heap[s_.2.2]? = some (.cells #[.slice none 0 0] 38 (0, 0))) ∧ (w.heap.size ≤ s_.2.1) ∧ (w.heap.size ≤ s_.2.1) ∧ (gb2 ≠ s_.2.1) ∧ (s_.2.1 ≠ gb2) ∧ (gb3 ≠ s_.2.1) ∧ (s_.2.1 ≠ gb3) ∧ (s_.2.2 ≠ s_.2.1) ∧ (s_.2.1 ≠ s_.2.2) ∧ (w.heap.size ≤ s_.2.2) ∧ (w.heap.size ≤ s_.2.2) ∧ (gb2 ≠ s_.2.2) ∧ (s_.2.2 ≠ gb2) ∧ (gb3 ≠ s_.2.2) ∧ (s_.2.2 ≠ gb3) ∧ (Below w.heap.size w w')) ?_ ?_
    ·
     skip
     rintro ⟨v224, gb4, gb5⟩ w44 ⟨hS_, h0_, h1_, h2_, h3_, h4_, h5_, h6_, h7_, h8_, h9_, h10_, h11_, h12_, h13_, h14_, h15_, h16_, h17_, h18_, h19_, h20_, h21_, h22_⟩
     try dsimp only at h0_ h1_ h2_ h3_ h4_ h5_ h6_ h7_ h8_ h9_ h10_ h11_ h12_ h13_ h14_ h15_ h16_ h17_ h18_ h19_ h20_ h21_ h22_
     have n0_ := Aside0.mk h0_
     have n1_ := Aside0.mk h1_
     have n2_ := Aside0.mk h2_
     have n3_ := Aside0.mk h3_
     have n4_ := Aside0.mk h4_
     have n5_ := Aside0.mk h5_
     have n6_ := Aside0.mk h6_
     have n7_ := Aside0.mk h7_
     have n8_ := Aside0.mk h8_
     have n9_ := Aside0.mk h9_
     have n10_ := Aside0.mk h10_
     have n11_ := Aside0.mk h11_
     have n12_ := Aside0.mk h12_
     have n13_ := Aside0.mk h13_
     have n14_ := Aside0.mk h14_
     have n15_ := Aside0.mk h15_
     have n16_ := Aside0.mk h16_
     have n17_ := Aside0.mk h17_
     have n18_ := Aside0.mk h18_
     have n19_ := Aside0.mk h19_
     have n20_ := Aside0.mk h20_
     have n21_ := Aside0.mk h21_
     have n22_ := Aside0.mk h22_
     clear HO_8; clear HO_37; clear HO_215000; clear BK2; clear BK3; clear HB
     clear h0_ h1_ h2_ h3_ h4_ h5_ h6_ h7_ h8_ h9_ h10_ h11_ h12_ h13_ h14_ h15_ h16_ h17_ h18_ h19_ h20_ h21_ h22_
     have HO225 := n0_
     have HO_215000 := n1_
     have HO_37 := n2_
     have HO_8 := n3_
     have BK2 := n4_
     have BK3 := n5_
     have BK4 := n6_
     have BK5 := n7_
     have GW4 := n8_
     have GE4 := n9_
     have NB2_4 := n10_
     have NB4_2 := n11_
     have NB3_4 := n12_
     have NB4_3 := n13_
     have NB5_4 := n14_
     have NB4_5 := n15_
     have GW5 := n16_
     have GE5 := n17_
     have NB2_5 := n18_
     have NB5_2 := n19_
     have NB3_5 := n20_
     have NB5_3 := n21_
     have HB := n22_
     clear n0_ n1_ n2_ n3_ n4_ n5_ n6_ n7_ n8_ n9_ n10_ n11_ n12_ n13_ n14_ n15_ n16_ n17_ n18_ n19_ n20_ n21_ n22_
     have hHeld : w44.cell? ⟨gb2, 0, none⟩ = some (.slice A0 l0.length c0) ∧ w44.cell? ⟨gb3, 0, none⟩ = some (.slice Ao19 t210.length co19) := hS_
     refine norm_ (a' := ?_) ?_ ?_
     rotate_left
     ·
      simp only [putAll, Act.put, List.setIfInBounds_toArray, List.set_cons_zero, List.set_cons_succ]
      rfl
     refine one_ (i := 2) (N := some 51) #[true, true, true, true, true, true, true, true, false, false] rfl rfl (one_of HT_.out (by kernel_rfl)) (by decide) (fun K hK => ?_)
     refine Kd.R_make_step Kd.bool _ 4 (by rfl) (N := 51) rfl 38 _ _ rfl (l0.length : Int) rfl rfl Try.underlying38 (.bool false) 1 info4 rfl (by decide) (by omega) false (ok := fun _ => True) (okp := fun _ => True) rfl (fun _ hk => hk) trivial (of_decide_eq_true (by first | (with_reducible assumption) | assumption)) (Nat.le_trans (Nat.mul_le_mul_right _ (of_decide_eq_true (by first | (with_reducible assumption) | assumption) : (l0.length : Int).toNat ≤ 281474976710656)) (by omega)) (Below.refl _ _) (Nat.le_refl _) ?_
     intro v221 w45 ho46 hb hg_ hnew_
     clear hg_ hnew_
     (first | rw [← Ny220.out] at ho46 | (simp only [Int.reduceToNat] at ho46; rw [← Ny220.out] at ho46))
     replace HO_37 := Aside0.mk (Kd.R_below (by (with_reducible repeat (first | apply Kd.R_alloc | apply Kd.R_drewN | apply Kd.R_drew)); exact HO_37.out) hb); replace HO_215000 := Aside0.mk (Kd.R_below (by (with_reducible repeat (first | apply Kd.R_alloc | apply Kd.R_drewN | apply Kd.R_drew)); exact HO_215000.out) hb); have HO222 := Aside0.mk (Kd.R_lower (Kd.R_new' (Kd.R_new' ho46 (Kd.R_lt (by (with_reducible repeat (first | apply Kd.R_alloc | apply Kd.R_drewN | apply Kd.R_drew)); exact HO_8.out))) (Kd.R_lt (by (with_reducible repeat (first | apply Kd.R_alloc | apply Kd.R_drewN | apply Kd.R_drew)); exact HO225.out))) (below_size (by repeat (first | (with_reducible first | exact HB.out | apply below_alloc | apply pw_below_drewN | apply below_drew1 | refine below_set ?_ GE2.out | refine below_set ?_ GE3.out | refine below_set ?_ GE4.out | refine below_set ?_ GE5.out) | exact HB.out)))); replace HO_8 := Aside0.mk (Kd.R_elder' (by (with_reducible repeat (first | apply Kd.R_alloc | apply Kd.R_drewN | apply Kd.R_drew)); exact HO_8.out) (Kd.R_base ho46) hb); replace HO225 := Aside0.mk (Kd.R_elder' (by (with_reducible repeat (first | apply Kd.R_alloc | apply Kd.R_drewN | apply Kd.R_drew)); exact HO225.out) (Kd.R_base ho46) hb); replace BK2 := mBb BK2 hb; replace BK3 := mBb BK3 hb; replace BK4 := mBb BK4 hb; replace BK5 := mBb BK5 hb; replace HB := Aside0.mk (below_step (by repeat (first | (with_reducible first | exact HB.out | apply below_alloc | apply pw_below_drewN | apply below_drew1 | refine below_set ?_ GE2.out | refine below_set ?_ GE3.out | refine below_set ?_ GE4.out | refine below_set ?_ GE5.out) | exact HB.out)) hb)
     clear hb ho46
     refine hK.out _ _ ⟨blk_cell BK2.out 0, blk_cell BK3.out 0⟩ (fun hHeld => ?_)
     clear hK K
     refine norm_ (a' := ?_) ?_ ?_
     rotate_left
     ·
      show Act.put _ (some 51) _ = _
      simp only [Act.put, List.setIfInBounds_toArray, List.set_cons_zero, List.set_cons_succ, i64_w, i32_w]
      rfl
     exact norm_ (by simp only [putAll, Act.put, List.setIfInBounds_toArray, List.set_cons_zero, List.set_cons_succ] <;> rfl) (hJ2_5_6_7 (v221, v224, gb4, gb5) _ ⟨hHeld, (by (with_reducible repeat (first | apply Kd.R_alloc | apply Kd.R_drewN | apply Kd.R_drew)); exact Kd.R_mono HO222.out (fun _ hk => ⟨hk.2, hk.1.2⟩)), (by (with_reducible repeat (first | apply Kd.R_alloc | apply Kd.R_drewN | apply Kd.R_drew)); exact Kd.R_mono HO225.out (fun _ hk => ⟨hk.2, hk.1⟩)), (by (with_reducible repeat (first | apply Kd.R_alloc | apply Kd.R_drewN | apply Kd.R_drew)); exact HO_215000.out), (by (with_reducible repeat (first | apply Kd.R_alloc | apply Kd.R_drewN | apply Kd.R_drew)); exact HO_37.out), (by (with_reducible repeat (first | apply Kd.R_alloc | apply Kd.R_drewN | apply Kd.R_drew)); exact Kd.R_mono HO_8.out (fun _ hk => ⟨hk.2, hk.1⟩)), BK2.out, BK3.out, BK4.out, BK5.out, GW4.out, GE4.out, NB2_4.out, NB4_2.out, NB3_4.out, NB4_3.out, NB5_4.out, NB4_5.out, GW5.out, GE5.out, NB2_5.out, NB5_2.out, NB3_5.out, NB5_3.out, (by repeat (first | (with_reducible first | exact HB.out | apply below_alloc | apply pw_below_drewN | apply below_drew1 | refine below_set ?_ GE2.out | refine below_set ?_ GE3.out | refine below_set ?_ GE4.out | refine below_set ?_ GE5.out) | exact HB.out))⟩)
    intro hJ5_6_7
    refine join_ (σ := Value × Value) 4 #[true, true, true, true, true, true, false, false, false, false] (fun s_ => [(51, s_.1), (54, s_.2)]) (fun s_ w' => (w'.cell? ⟨gb2, 0, none⟩ = some (.slice A0 l0.length c0) ∧ w'.cell? ⟨gb3, 0, none⟩ = some (.slice Ao19 t210.length co19)) ∧ (Kd.R Kd.bool 4 w' w.heap.size (fun k_ => some k_ ≠ (s_.2 : Value).ownBlock ∧ some k_ ≠ (v216 : Value).ownBlock) s_.1 y220) ∧ (Kd.R Kd.bool 4 w' w.heap.size (fun k_ => some k_ ≠ (s_.1 : Value).ownBlock ∧ some k_ ≠ (v216 : Value).ownBlock) s_.2 y223) ∧ (Kd.R (Kd.int .i64) 3 w' w.heap.size (fun _ => True) (.slice Ao19 t210.length co19) t210) ∧ (Kd.R (Kd.int .i64) 3 w' w.heap.size (fun _ => True) (.slice Ao19 t210.length co19) t210) ∧ (Kd.R Kd.bool 4 w' w.heap.size (fun k_ => some k_ ≠ (s_.1 : Value).ownBlock ∧ some k_ ≠ (s_.2 : Value).ownBlock) v216 x8_1) ∧ (w'.heap[gb2]? = some (.cells #[.slice A0 l0.length c0] 22 (0, 0))) ∧ (w'.heap[gb3]? = some (.cells #[.slice Ao19 t210.length co19] 29 (0, 0))) ∧ (Below w.heap.size w w')) ?_ ?_
    ·
     skip
     rintro ⟨v221, v224⟩ w44 ⟨hS_, h0_, h1_, h2_, h3_, h4_, h5_, h6_, h7_⟩
     try dsimp only at h0_ h1_ h2_ h3_ h4_ h5_ h6_ h7_
     have n0_ := Aside0.mk h0_
     have n1_ := Aside0.mk h1_
     have n2_ := Aside0.mk h2_
     have n3_ := Aside0.mk h3_
     have n4_ := Aside0.mk h4_
     have n5_ := Aside0.mk h5_
     have n6_ := Aside0.mk h6_
     have n7_ := Aside0.mk h7_
     clear HO_8; clear HO_37; clear HO_215000; clear BK2; clear BK3; clear HB
     clear h0_ h1_ h2_ h3_ h4_ h5_ h6_ h7_
     have HO222 := n0_
     have HO225 := n1_
     have HO_215000 := n2_
     have HO_37 := n3_
     have HO_8 := n4_
     have BK2 := n5_
     have BK3 := n6_
     have HB := n7_
     clear n0_ n1_ n2_ n3_ n4_ n5_ n6_ n7_
     have hHeld : w44.cell? ⟨gb2, 0, none⟩ = some (.slice A0 l0.length c0) ∧ w44.cell? ⟨gb3, 0, none⟩ = some (.slice Ao19 t210.length co19) := hS_
     refine norm_ (a' := ?_) ?_ ?_
     rotate_left
     ·
      simp only [putAll, Act.put, List.setIfInBounds_toArray, List.set_cons_zero, List.set_cons_succ]
      rfl
     refine two_ (i := 6) (j := 7) (Ni := some 11) (Nj := some 12) #[true, true, true, true, true, true, true, false, false, false] #[true, true, true, true, true, true, false, true, false, false] rfl rfl rfl rfl (two_of HT_.out (by kernel_rfl)) (by decide) (by decide) (fun K hK => ?_) (fun K hK => ?_)
     ·
      skip
      refine box_step ?hg (N := 11) ?hd (cs := #[.slice none 0 0]) (t := 38) ?hr ?_; (case hd => rfl); (case hg => rfl); (case hr => first | (go_simp; done) | (go_simp; rfl))
      intro gb4 hg w45 hbox hb
      replace HO_8 := Aside0.mk (Kd.R_below (by (with_reducible repeat (first | apply Kd.R_alloc | apply Kd.R_drewN | apply Kd.R_drew)); exact HO_8.out) hb); replace HO_37 := Aside0.mk (Kd.R_below (by (with_reducible repeat (first | apply Kd.R_alloc | apply Kd.R_drewN | apply Kd.R_drew)); exact HO_37.out) hb); replace HO_215000 := Aside0.mk (Kd.R_below (by (with_reducible repeat (first | apply Kd.R_alloc | apply Kd.R_drewN | apply Kd.R_drew)); exact HO_215000.out) hb); replace HO222 := Aside0.mk (Kd.R_below (by (with_reducible repeat (first | apply Kd.R_alloc | apply Kd.R_drewN | apply Kd.R_drew)); exact HO222.out) hb); replace HO225 := Aside0.mk (Kd.R_below (by (with_reducible repeat (first | apply Kd.R_alloc | apply Kd.R_drewN | apply Kd.R_drew)); exact HO225.out) hb); have BK4 := Aside0.mk hbox; have GW4 := Aside0.mk ((by rw [hg]; exact (below_size (by repeat (first | (with_reducible first | exact HB.out | apply below_alloc | apply pw_below_drewN | apply below_drew1 | refine below_set ?_ GE2.out | refine below_set ?_ GE3.out) | exact HB.out))) : w.heap.size ≤ gb4)); have GE4 := GW4; replace HB := Aside0.mk (below_step (by repeat (first | (with_reducible first | exact HB.out | apply below_alloc | apply pw_below_drewN | apply below_drew1 | refine below_set ?_ GE2.out | refine below_set ?_ GE3.out) | exact HB.out)) hb); have NB2_4 := mNe BK2 hg; have NB4_2 := mSy NB2_4; replace BK2 := mBb BK2 hb; have NB3_4 := mNe BK3 hg; have NB4_3 := mSy NB3_4; replace BK3 := mBb BK3 hb
      clear hb hbox hg
      refine hK.out _ _ ⟨blk_cell BK2.out 0, blk_cell BK3.out 0⟩ (fun hHeld => ?_)
      clear hK K
      refine norm_ (a' := ?_) ?_ ?_
      rotate_left
      ·
       show Act.put _ (some 11) _ = _
       simp only [Act.put, List.setIfInBounds_toArray, List.set_cons_zero, List.set_cons_succ, i64_w, i32_w]
       rfl
      exact norm_ (by simp only [putAll, Act.put, List.setIfInBounds_toArray, List.set_cons_zero, List.set_cons_succ] <;> rfl) (hJ2_5_6 (v221, v224, gb4) _ ⟨hHeld, (by (with_reducible repeat (first | apply Kd.R_alloc | apply Kd.R_drewN | apply Kd.R_drew)); exact HO222.out), (by (with_reducible repeat (first | apply Kd.R_alloc | apply Kd.R_drewN | apply Kd.R_drew)); exact HO225.out), (by (with_reducible repeat (first | apply Kd.R_alloc | apply Kd.R_drewN | apply Kd.R_drew)); exact HO_215000.out), (by (with_reducible repeat (first | apply Kd.R_alloc | apply Kd.R_drewN | apply Kd.R_drew)); exact HO_37.out), (by (with_reducible repeat (first | apply Kd.R_alloc | apply Kd.R_drewN | apply Kd.R_drew)); exact HO_8.out), BK2.out, BK3.out, BK4.out, GW4.out, GE4.out, NB2_4.out, NB4_2.out, NB3_4.out, NB4_3.out, (by repeat (first | (with_reducible first | exact HB.out | apply below_alloc | apply pw_below_drewN | apply below_drew1 | refine below_set ?_ GE2.out | refine below_set ?_ GE3.out | refine below_set ?_ GE4.out) | exact HB.out))⟩)
     ·
      skip
      refine box_step ?hg (N := 12) ?hd (cs := #[.slice none 0 0]) (t := 38) ?hr ?_; (case hd => rfl); (case hg => rfl); (case hr => first | (go_simp; done) | (go_simp; rfl))
      intro gb5 hg w45 hbox hb
      replace HO_8 := Aside0.mk (Kd.R_below (by (with_reducible repeat (first | apply Kd.R_alloc | apply Kd.R_drewN | apply Kd.R_drew)); exact HO_8.out) hb); replace HO_37 := Aside0.mk (Kd.R_below (by (with_reducible repeat (first | apply Kd.R_alloc | apply Kd.R_drewN | apply Kd.R_drew)); exact HO_37.out) hb); replace HO_215000 := Aside0.mk (Kd.R_below (by (with_reducible repeat (first | apply Kd.R_alloc | apply Kd.R_drewN | apply Kd.R_drew)); exact HO_215000.out) hb); replace HO222 := Aside0.mk (Kd.R_below (by (with_reducible repeat (first | apply Kd.R_alloc | apply Kd.R_drewN | apply Kd.R_drew)); exact HO222.out) hb); replace HO225 := Aside0.mk (Kd.R_below (by (with_reducible repeat (first | apply Kd.R_alloc | apply Kd.R_drewN | apply Kd.R_drew)); exact HO225.out) hb); have BK5 := Aside0.mk hbox; have GW5 := Aside0.mk ((by rw [hg]; exact (below_size (by repeat (first | (with_reducible first | exact HB.out | apply below_alloc | apply pw_below_drewN | apply below_drew1 | refine below_set ?_ GE2.out | refine below_set ?_ GE3.out) | exact HB.out))) : w.heap.size ≤ gb5)); have GE5 := GW5; replace HB := Aside0.mk (below_step (by repeat (first | (with_reducible first | exact HB.out | apply below_alloc | apply pw_below_drewN | apply below_drew1 | refine below_set ?_ GE2.out | refine below_set ?_ GE3.out) | exact HB.out)) hb); have NB2_5 := mNe BK2 hg; have NB5_2 := mSy NB2_5; replace BK2 := mBb BK2 hb; have NB3_5 := mNe BK3 hg; have NB5_3 := mSy NB3_5; replace BK3 := mBb BK3 hb
      clear hb hbox hg
      refine hK.out _ _ ⟨blk_cell BK2.out 0, blk_cell BK3.out 0⟩ (fun hHeld => ?_)
      clear hK K
      refine norm_ (a' := ?_) ?_ ?_
      rotate_left
      ·
       show Act.put _ (some 12) _ = _
       simp only [Act.put, List.setIfInBounds_toArray, List.set_cons_zero, List.set_cons_succ, i64_w, i32_w]
       rfl
      exact norm_ (by simp only [putAll, Act.put, List.setIfInBounds_toArray, List.set_cons_zero, List.set_cons_succ] <;> rfl) (hJ2_5_7 (v221, v224, gb5) _ ⟨hHeld, (by (with_reducible repeat (first | apply Kd.R_alloc | apply Kd.R_drewN | apply Kd.R_drew)); exact HO222.out), (by (with_reducible repeat (first | apply Kd.R_alloc | apply Kd.R_drewN | apply Kd.R_drew)); exact HO225.out), (by (with_reducible repeat (first | apply Kd.R_alloc | apply Kd.R_drewN | apply Kd.R_drew)); exact HO_215000.out), (by (with_reducible repeat (first | apply Kd.R_alloc | apply Kd.R_drewN | apply Kd.R_drew)); exact HO_37.out), (by (with_reducible repeat (first | apply Kd.R_alloc | apply Kd.R_drewN | apply Kd.R_drew)); exact HO_8.out), BK2.out, BK3.out, BK5.out, GW5.out, GE5.out, NB2_5.out, NB5_2.out, NB3_5.out, NB5_3.out, (by repeat (first | (with_reducible first | exact HB.out | apply below_alloc | apply pw_below_drewN | apply below_drew1 | refine below_set ?_ GE2.out | refine below_set ?_ GE3.out | refine below_set ?_ GE5.out) | exact HB.out))⟩)
    intro hJ2_5
    refine join_ (σ := Value × Nat) 4 #[true, true, true, true, true, false, true, false, false, false] (fun s_ => [(51, s_.1), (11, .pointer (some ⟨s_.2, 0, none⟩))]) (fun s_ w' => (w'.cell? ⟨gb2, 0, none⟩ = some (.slice A0 l0.length c0) ∧ w'.cell? ⟨gb3, 0, none⟩ = some (.slice Ao19 t210.length co19)) ∧ (Kd.R Kd.bool 4 w' w.heap.size (fun k_ => some k_ ≠ (v216 : Value).ownBlock) s_.1 y220) ∧ (Kd.R (Kd.int .i64) 3 w' w.heap.size (fun _ => True) (.slice Ao19 t210.length co19) t210) ∧ (Kd.R (Kd.int .i64) 3 w' w.heap.size (fun _ => True) (.slice Ao19 t210.length co19) t210) ∧ (Kd.R Kd.bool 4 w' w.heap.size (fun k_ => some k_ ≠ (s_.1 : Value).ownBlock) v216 x8_1) ∧ (w'.heap[gb2]? = some (.cells #[.slice A0 l0.length c0] 22 (0, 0))) ∧ (w'.heap[gb3]? = some (.cells #[.slice Ao19 t210.length co19] 29 (0, 0))) ∧ (w'.heap[s_.2]? = some (.cells #[.slice none 0 0] 38 (0, 0))) ∧ (w.heap.size ≤ s_.2) ∧ (w.heap.size ≤ s_.2) ∧ (gb2 ≠ s_.2) ∧ (s_.2 ≠ gb2) ∧ (gb3 ≠ s_.2) ∧ (s_.2 ≠ gb3) ∧ (Below w.heap.size w w')) ?_ ?_
    ·
     skip
     rintro ⟨v221, gb4⟩ w43 ⟨hS_, h0_, h1_, h2_, h3_, h4_, h5_, h6_, h7_, h8_, h9_, h10_, h11_, h12_, h13_⟩
     try dsimp only at h0_ h1_ h2_ h3_ h4_ h5_ h6_ h7_ h8_ h9_ h10_ h11_ h12_ h13_
     have n0_ := Aside0.mk h0_
     have n1_ := Aside0.mk h1_
     have n2_ := Aside0.mk h2_
     have n3_ := Aside0.mk h3_
     have n4_ := Aside0.mk h4_
     have n5_ := Aside0.mk h5_
     have n6_ := Aside0.mk h6_
     have n7_ := Aside0.mk h7_
     have n8_ := Aside0.mk h8_
     have n9_ := Aside0.mk h9_
     have n10_ := Aside0.mk h10_
     have n11_ := Aside0.mk h11_
     have n12_ := Aside0.mk h12_
     have n13_ := Aside0.mk h13_
     clear HO_8; clear HO_37; clear HO_215000; clear BK2; clear BK3; clear HB
     clear h0_ h1_ h2_ h3_ h4_ h5_ h6_ h7_ h8_ h9_ h10_ h11_ h12_ h13_
     have HO222 := n0_
     have HO_215000 := n1_
     have HO_37 := n2_
     have HO_8 := n3_
     have BK2 := n4_
     have BK3 := n5_
     have BK4 := n6_
     have GW4 := n7_
     have GE4 := n8_
     have NB2_4 := n9_
     have NB4_2 := n10_
     have NB3_4 := n11_
     have NB4_3 := n12_
     have HB := n13_
     clear n0_ n1_ n2_ n3_ n4_ n5_ n6_ n7_ n8_ n9_ n10_ n11_ n12_ n13_
     have hHeld : w43.cell? ⟨gb2, 0, none⟩ = some (.slice A0 l0.length c0) ∧ w43.cell? ⟨gb3, 0, none⟩ = some (.slice Ao19 t210.length co19) := hS_
     refine norm_ (a' := ?_) ?_ ?_
     rotate_left
     ·
      simp only [putAll, Act.put, List.setIfInBounds_toArray, List.set_cons_zero, List.set_cons_succ]
      rfl
     refine two_ (i := 5) (j := 7) (Ni := some 54) (Nj := some 12) #[true, true, true, true, true, true, true, false, false, false] #[true, true, true, true, true, false, true, true, false, false] rfl rfl rfl rfl (two_of HT_.out (by kernel_rfl)) (by decide) (by decide) (fun K hK => ?_) (fun K hK => ?_)
     ·
      skip
      refine Kd.R_make_step Kd.bool _ 4 (by rfl) (N := 54) rfl 38 _ _ rfl (t210.length : Int) rfl rfl Try.underlying38 (.bool false) 1 info4 rfl (by decide) (by omega) false (ok := fun _ => True) (okp := fun _ => True) rfl (fun _ hk => hk) trivial (of_decide_eq_true (by first | (with_reducible assumption) | assumption)) (Nat.le_trans (Nat.mul_le_mul_right _ (of_decide_eq_true (by first | (with_reducible assumption) | assumption) : (t210.length : Int).toNat ≤ 281474976710656)) (by omega)) (Below.refl _ _) (Nat.le_refl _) ?_
      intro v224 w44 ho45 hb hg_ hnew_
      clear hg_ hnew_
      (first | rw [← Ny223.out] at ho45 | (simp only [Int.reduceToNat] at ho45; rw [← Ny223.out] at ho45))
      replace HO_37 := Aside0.mk (Kd.R_below (by (with_reducible repeat (first | apply Kd.R_alloc | apply Kd.R_drewN | apply Kd.R_drew)); exact HO_37.out) hb); replace HO_215000 := Aside0.mk (Kd.R_below (by (with_reducible repeat (first | apply Kd.R_alloc | apply Kd.R_drewN | apply Kd.R_drew)); exact HO_215000.out) hb); have HO225 := Aside0.mk (Kd.R_lower (Kd.R_new' (Kd.R_new' ho45 (Kd.R_lt (by (with_reducible repeat (first | apply Kd.R_alloc | apply Kd.R_drewN | apply Kd.R_drew)); exact HO_8.out))) (Kd.R_lt (by (with_reducible repeat (first | apply Kd.R_alloc | apply Kd.R_drewN | apply Kd.R_drew)); exact HO222.out))) (below_size (by repeat (first | (with_reducible first | exact HB.out | apply below_alloc | apply pw_below_drewN | apply below_drew1 | refine below_set ?_ GE2.out | refine below_set ?_ GE3.out | refine below_set ?_ GE4.out) | exact HB.out)))); replace HO_8 := Aside0.mk (Kd.R_elder' (by (with_reducible repeat (first | apply Kd.R_alloc | apply Kd.R_drewN | apply Kd.R_drew)); exact HO_8.out) (Kd.R_base ho45) hb); replace HO222 := Aside0.mk (Kd.R_elder' (by (with_reducible repeat (first | apply Kd.R_alloc | apply Kd.R_drewN | apply Kd.R_drew)); exact HO222.out) (Kd.R_base ho45) hb); replace BK2 := mBb BK2 hb; replace BK3 := mBb BK3 hb; replace BK4 := mBb BK4 hb; replace HB := Aside0.mk (below_step (by repeat (first | (with_reducible first | exact HB.out | apply below_alloc | apply pw_below_drewN | apply below_drew1 | refine below_set ?_ GE2.out | refine below_set ?_ GE3.out | refine below_set ?_ GE4.out) | exact HB.out)) hb)
      clear hb ho45
      refine hK.out _ _ ⟨blk_cell BK2.out 0, blk_cell BK3.out 0⟩ (fun hHeld => ?_)
      clear hK K
      refine norm_ (a' := ?_) ?_ ?_
      rotate_left
      ·
       show Act.put _ (some 54) _ = _
       simp only [Act.put, List.setIfInBounds_toArray, List.set_cons_zero, List.set_cons_succ, i64_w, i32_w]
       rfl
      exact norm_ (by simp only [putAll, Act.put, List.setIfInBounds_toArray, List.set_cons_zero, List.set_cons_succ] <;> rfl) (hJ2_5_6 (v221, v224, gb4) _ ⟨hHeld, (by (with_reducible repeat (first | apply Kd.R_alloc | apply Kd.R_drewN | apply Kd.R_drew)); exact Kd.R_mono HO222.out (fun _ hk => ⟨hk.2, hk.1⟩)), (by (with_reducible repeat (first | apply Kd.R_alloc | apply Kd.R_drewN | apply Kd.R_drew)); exact Kd.R_mono HO225.out (fun _ hk => ⟨hk.2, hk.1.2⟩)), (by (with_reducible repeat (first | apply Kd.R_alloc | apply Kd.R_drewN | apply Kd.R_drew)); exact HO_215000.out), (by (with_reducible repeat (first | apply Kd.R_alloc | apply Kd.R_drewN | apply Kd.R_drew)); exact HO_37.out), (by (with_reducible repeat (first | apply Kd.R_alloc | apply Kd.R_drewN | apply Kd.R_drew)); exact HO_8.out), BK2.out, BK3.out, BK4.out, GW4.out, GE4.out, NB2_4.out, NB4_2.out, NB3_4.out, NB4_3.out, (by repeat (first | (with_reducible first | exact HB.out | apply below_alloc | apply pw_below_drewN | apply below_drew1 | refine below_set ?_ GE2.out | refine below_set ?_ GE3.out | refine below_set ?_ GE4.out) | exact HB.out))⟩)
     ·
      skip
      refine box_step ?hg (N := 12) ?hd (cs := #[.slice none 0 0]) (t := 38) ?hr ?_; (case hd => rfl); (case hg => rfl); (case hr => first | (go_simp; done) | (go_simp; rfl))
      intro gb5 hg w44 hbox hb
      replace HO_8 := Aside0.mk (Kd.R_below (by (with_reducible repeat (first | apply Kd.R_alloc | apply Kd.R_drewN | apply Kd.R_drew)); exact HO_8.out) hb); replace HO_37 := Aside0.mk (Kd.R_below (by (with_reducible repeat (first | apply Kd.R_alloc | apply Kd.R_drewN | apply Kd.R_drew)); exact HO_37.out) hb); replace HO_215000 := Aside0.mk (Kd.R_below (by (with_reducible repeat (first | apply Kd.R_alloc | apply Kd.R_drewN | apply Kd.R_drew)); exact HO_215000.out) hb); replace HO222 := Aside0.mk (Kd.R_below (by (with_reducible repeat (first | apply Kd.R_alloc | apply Kd.R_drewN | apply Kd.R_drew)); exact HO222.out) hb); have BK5 := Aside0.mk hbox; have GW5 := Aside0.mk ((by rw [hg]; exact (below_size (by repeat (first | (with_reducible first | exact HB.out | apply below_alloc | apply pw_below_drewN | apply below_drew1 | refine below_set ?_ GE2.out | refine below_set ?_ GE3.out | refine below_set ?_ GE4.out) | exact HB.out))) : w.heap.size ≤ gb5)); have GE5 := GW5; replace HB := Aside0.mk (below_step (by repeat (first | (with_reducible first | exact HB.out | apply below_alloc | apply pw_below_drewN | apply below_drew1 | refine below_set ?_ GE2.out | refine below_set ?_ GE3.out | refine below_set ?_ GE4.out) | exact HB.out)) hb); have NB2_5 := mNe BK2 hg; have NB5_2 := mSy NB2_5; replace BK2 := mBb BK2 hb; have NB3_5 := mNe BK3 hg; have NB5_3 := mSy NB3_5; replace BK3 := mBb BK3 hb; have NB4_5 := mNe BK4 hg; have NB5_4 := mSy NB4_5; replace BK4 := mBb BK4 hb
      clear hb hbox hg
      refine hK.out _ _ ⟨blk_cell BK2.out 0, blk_cell BK3.out 0⟩ (fun hHeld => ?_)
      clear hK K
      refine norm_ (a' := ?_) ?_ ?_
      rotate_left
      ·
       show Act.put _ (some 12) _ = _
       simp only [Act.put, List.setIfInBounds_toArray, List.set_cons_zero, List.set_cons_succ, i64_w, i32_w]
       rfl
      exact norm_ (by simp only [putAll, Act.put, List.setIfInBounds_toArray, List.set_cons_zero, List.set_cons_succ] <;> rfl) (hJ2_6_7 (v221, gb4, gb5) _ ⟨hHeld, (by (with_reducible repeat (first | apply Kd.R_alloc | apply Kd.R_drewN | apply Kd.R_drew)); exact HO222.out), (by (with_reducible repeat (first | apply Kd.R_alloc | apply Kd.R_drewN | apply Kd.R_drew)); exact HO_215000.out), (by (with_reducible repeat (first | apply Kd.R_alloc | apply Kd.R_drewN | apply Kd.R_drew)); exact HO_37.out), (by (with_reducible repeat (first | apply Kd.R_alloc | apply Kd.R_drewN | apply Kd.R_drew)); exact HO_8.out), BK2.out, BK3.out, BK4.out, BK5.out, GW4.out, GE4.out, NB2_4.out, NB4_2.out, NB3_4.out, NB4_3.out, NB5_4.out, NB4_5.out, GW5.out, GE5.out, NB2_5.out, NB5_2.out, NB3_5.out, NB5_3.out, (by repeat (first | (with_reducible first | exact HB.out | apply below_alloc | apply pw_below_drewN | apply below_drew1 | refine below_set ?_ GE2.out | refine below_set ?_ GE3.out | refine below_set ?_ GE4.out | refine below_set ?_ GE5.out) | exact HB.out))⟩)
    intro hJ2_6
    refine join_ (σ := Value × Nat) 4 #[true, true, true, true, true, false, false, true, false, false] (fun s_ => [(51, s_.1), (12, .pointer (some ⟨s_.2, 0, none⟩))]) (fun s_ w' => (w'.cell? ⟨gb2, 0, none⟩ = some (.slice A0 l0.length c0) ∧ w'.cell? ⟨gb3, 0, none⟩ = some (.slice Ao19 t210.length co19)) ∧ (Kd.R Kd.bool 4 w' w.heap.size (fun k_ => some k_ ≠ (v216 : Value).ownBlock) s_.1 y220) ∧ (Kd.R (Kd.int .i64) 3 w' w.heap.size (fun _ => True) (.slice Ao19 t210.length co19) t210) ∧ (Kd.R (Kd.int .i64) 3 w' w.heap.size (fun _ => True) (.slice Ao19 t210.length co19) t210) ∧ (Kd.R Kd.bool 4 w' w.heap.size (fun k_ => some k_ ≠ (s_.1 : Value).ownBlock) v216 x8_1) ∧ (w'.heap[gb2]? = some (.cells #[.slice A0 l0.length c0] 22 (0, 0))) ∧ (w'.heap[gb3]? = some (.cells #[.slice Ao19 t210.length co19] 29 (0, 0))) ∧ (w'.heap[s_.2]? = some (.cells #[.slice none 0 0] 38 (0, 0))) ∧ (w.heap.size ≤ s_.2) ∧ (w.heap.size ≤ s_.2) ∧ (gb2 ≠ s_.2) ∧ (s_.2 ≠ gb2) ∧ (gb3 ≠ s_.2) ∧ (s_.2 ≠ gb3) ∧ (Below w.heap.size w w')) ?_ ?_
    ·
     skip
     rintro ⟨v221, gb5⟩ w43 ⟨hS_, h0_, h1_, h2_, h3_, h4_, h5_, h6_, h7_, h8_, h9_, h10_, h11_, h12_, h13_⟩
     try dsimp only at h0_ h1_ h2_ h3_ h4_ h5_ h6_ h7_ h8_ h9_ h10_ h11_ h12_ h13_
     have n0_ := Aside0.mk h0_
     have n1_ := Aside0.mk h1_
     have n2_ := Aside0.mk h2_
     have n3_ := Aside0.mk h3_
     have n4_ := Aside0.mk h4_
     have n5_ := Aside0.mk h5_
     have n6_ := Aside0.mk h6_
     have n7_ := Aside0.mk h7_
     have n8_ := Aside0.mk h8_
     have n9_ := Aside0.mk h9_
     have n10_ := Aside0.mk h10_
     have n11_ := Aside0.mk h11_
     have n12_ := Aside0.mk h12_
     have n13_ := Aside0.mk h13_
     clear HO_8; clear HO_37; clear HO_215000; clear BK2; clear BK3; clear HB
     clear h0_ h1_ h2_ h3_ h4_ h5_ h6_ h7_ h8_ h9_ h10_ h11_ h12_ h13_
     have HO222 := n0_
     have HO_215000 := n1_
     have HO_37 := n2_
     have HO_8 := n3_
     have BK2 := n4_
     have BK3 := n5_
     have BK5 := n6_
     have GW5 := n7_
     have GE5 := n8_
     have NB2_5 := n9_
     have NB5_2 := n10_
     have NB3_5 := n11_
     have NB5_3 := n12_
     have HB := n13_
     clear n0_ n1_ n2_ n3_ n4_ n5_ n6_ n7_ n8_ n9_ n10_ n11_ n12_ n13_
     have hHeld : w43.cell? ⟨gb2, 0, none⟩ = some (.slice A0 l0.length c0) ∧ w43.cell? ⟨gb3, 0, none⟩ = some (.slice Ao19 t210.length co19) := hS_
     refine norm_ (a' := ?_) ?_ ?_
     rotate_left
     ·
      simp only [putAll, Act.put, List.setIfInBounds_toArray, List.set_cons_zero, List.set_cons_succ]
      rfl
     refine two_ (i := 5) (j := 6) (Ni := some 54) (Nj := some 11) #[true, true, true, true, true, true, false, true, false, false] #[true, true, true, true, true, false, true, true, false, false] rfl rfl rfl rfl (two_of HT_.out (by kernel_rfl)) (by decide) (by decide) (fun K hK => ?_) (fun K hK => ?_)
     ·
      skip
      refine Kd.R_make_step Kd.bool _ 4 (by rfl) (N := 54) rfl 38 _ _ rfl (t210.length : Int) rfl rfl Try.underlying38 (.bool false) 1 info4 rfl (by decide) (by omega) false (ok := fun _ => True) (okp := fun _ => True) rfl (fun _ hk => hk) trivial (of_decide_eq_true (by first | (with_reducible assumption) | assumption)) (Nat.le_trans (Nat.mul_le_mul_right _ (of_decide_eq_true (by first | (with_reducible assumption) | assumption) : (t210.length : Int).toNat ≤ 281474976710656)) (by omega)) (Below.refl _ _) (Nat.le_refl _) ?_
      intro v224 w44 ho45 hb hg_ hnew_
      clear hg_ hnew_
      (first | rw [← Ny223.out] at ho45 | (simp only [Int.reduceToNat] at ho45; rw [← Ny223.out] at ho45))
      replace HO_37 := Aside0.mk (Kd.R_below (by (with_reducible repeat (first | apply Kd.R_alloc | apply Kd.R_drewN | apply Kd.R_drew)); exact HO_37.out) hb); replace HO_215000 := Aside0.mk (Kd.R_below (by (with_reducible repeat (first | apply Kd.R_alloc | apply Kd.R_drewN | apply Kd.R_drew)); exact HO_215000.out) hb); have HO225 := Aside0.mk (Kd.R_lower (Kd.R_new' (Kd.R_new' ho45 (Kd.R_lt (by (with_reducible repeat (first | apply Kd.R_alloc | apply Kd.R_drewN | apply Kd.R_drew)); exact HO_8.out))) (Kd.R_lt (by (with_reducible repeat (first | apply Kd.R_alloc | apply Kd.R_drewN | apply Kd.R_drew)); exact HO222.out))) (below_size (by repeat (first | (with_reducible first | exact HB.out | apply below_alloc | apply pw_below_drewN | apply below_drew1 | refine below_set ?_ GE2.out | refine below_set ?_ GE3.out | refine below_set ?_ GE5.out) | exact HB.out)))); replace HO_8 := Aside0.mk (Kd.R_elder' (by (with_reducible repeat (first | apply Kd.R_alloc | apply Kd.R_drewN | apply Kd.R_drew)); exact HO_8.out) (Kd.R_base ho45) hb); replace HO222 := Aside0.mk (Kd.R_elder' (by (with_reducible repeat (first | apply Kd.R_alloc | apply Kd.R_drewN | apply Kd.R_drew)); exact HO222.out) (Kd.R_base ho45) hb); replace BK2 := mBb BK2 hb; replace BK3 := mBb BK3 hb; replace BK5 := mBb BK5 hb; replace HB := Aside0.mk (below_step (by repeat (first | (with_reducible first | exact HB.out | apply below_alloc | apply pw_below_drewN | apply below_drew1 | refine below_set ?_ GE2.out | refine below_set ?_ GE3.out | refine below_set ?_ GE5.out) | exact HB.out)) hb)
      clear hb ho45
      refine hK.out _ _ ⟨blk_cell BK2.out 0, blk_cell BK3.out 0⟩ (fun hHeld => ?_)
      clear hK K
      refine norm_ (a' := ?_) ?_ ?_
      rotate_left
      ·
       show Act.put _ (some 54) _ = _
       simp only [Act.put, List.setIfInBounds_toArray, List.set_cons_zero, List.set_cons_succ, i64_w, i32_w]
       rfl
      exact norm_ (by simp only [putAll, Act.put, List.setIfInBounds_toArray, List.set_cons_zero, List.set_cons_succ] <;> rfl) (hJ2_5_7 (v221, v224, gb5) _ ⟨hHeld, (by (with_reducible repeat (first | apply Kd.R_alloc | apply Kd.R_drewN | apply Kd.R_drew)); exact Kd.R_mono HO222.out (fun _ hk => ⟨hk.2, hk.1⟩)), (by (with_reducible repeat (first | apply Kd.R_alloc | apply Kd.R_drewN | apply Kd.R_drew)); exact Kd.R_mono HO225.out (fun _ hk => ⟨hk.2, hk.1.2⟩)), (by (with_reducible repeat (first | apply Kd.R_alloc | apply Kd.R_drewN | apply Kd.R_drew)); exact HO_215000.out), (by (with_reducible repeat (first | apply Kd.R_alloc | apply Kd.R_drewN | apply Kd.R_drew)); exact HO_37.out), (by (with_reducible repeat (first | apply Kd.R_alloc | apply Kd.R_drewN | apply Kd.R_drew)); exact HO_8.out), BK2.out, BK3.out, BK5.out, GW5.out, GE5.out, NB2_5.out, NB5_2.out, NB3_5.out, NB5_3.out, (by repeat (first | (with_reducible first | exact HB.out | apply below_alloc | apply pw_below_drewN | apply below_drew1 | refine below_set ?_ GE2.out | refine below_set ?_ GE3.out | refine below_set ?_ GE5.out) | exact HB.out))⟩)
     ·
      skip
      refine box_step ?hg (N := 11) ?hd (cs := #[.slice none 0 0]) (t := 38) ?hr ?_; (case hd => rfl); (case hg => rfl); (case hr => first | (go_simp; done) | (go_simp; rfl))
      intro gb4 hg w44 hbox hb
      replace HO_8 := Aside0.mk (Kd.R_below (by (with_reducible repeat (first | apply Kd.R_alloc | apply Kd.R_drewN | apply Kd.R_drew)); exact HO_8.out) hb); replace HO_37 := Aside0.mk (Kd.R_below (by (with_reducible repeat (first | apply Kd.R_alloc | apply Kd.R_drewN | apply Kd.R_drew)); exact HO_37.out) hb); replace HO_215000 := Aside0.mk (Kd.R_below (by (with_reducible repeat (first | apply Kd.R_alloc | apply Kd.R_drewN | apply Kd.R_drew)); exact HO_215000.out) hb); replace HO222 := Aside0.mk (Kd.R_below (by (with_reducible repeat (first | apply Kd.R_alloc | apply Kd.R_drewN | apply Kd.R_drew)); exact HO222.out) hb); have BK4 := Aside0.mk hbox; have GW4 := Aside0.mk ((by rw [hg]; exact (below_size (by repeat (first | (with_reducible first | exact HB.out | apply below_alloc | apply pw_below_drewN | apply below_drew1 | refine below_set ?_ GE2.out | refine below_set ?_ GE3.out | refine below_set ?_ GE5.out) | exact HB.out))) : w.heap.size ≤ gb4)); have GE4 := GW4; replace HB := Aside0.mk (below_step (by repeat (first | (with_reducible first | exact HB.out | apply below_alloc | apply pw_below_drewN | apply below_drew1 | refine below_set ?_ GE2.out | refine below_set ?_ GE3.out | refine below_set ?_ GE5.out) | exact HB.out)) hb); have NB2_4 := mNe BK2 hg; have NB4_2 := mSy NB2_4; replace BK2 := mBb BK2 hb; have NB3_4 := mNe BK3 hg; have NB4_3 := mSy NB3_4; replace BK3 := mBb BK3 hb; have NB5_4 := mNe BK5 hg; have NB4_5 := mSy NB5_4; replace BK5 := mBb BK5 hb
      clear hb hbox hg
      refine hK.out _ _ ⟨blk_cell BK2.out 0, blk_cell BK3.out 0⟩ (fun hHeld => ?_)
      clear hK K
      refine norm_ (a' := ?_) ?_ ?_
      rotate_left
      ·
       show Act.put _ (some 11) _ = _
       simp only [Act.put, List.setIfInBounds_toArray, List.set_cons_zero, List.set_cons_succ, i64_w, i32_w]
       rfl
      exact norm_ (by simp only [putAll, Act.put, List.setIfInBounds_toArray, List.set_cons_zero, List.set_cons_succ] <;> rfl) (hJ2_6_7 (v221, gb4, gb5) _ ⟨hHeld, (by (with_reducible repeat (first | apply Kd.R_alloc | apply Kd.R_drewN | apply Kd.R_drew)); exact HO222.out), (by (with_reducible repeat (first | apply Kd.R_alloc | apply Kd.R_drewN | apply Kd.R_drew)); exact HO_215000.out), (by (with_reducible repeat (first | apply Kd.R_alloc | apply Kd.R_drewN | apply Kd.R_drew)); exact HO_37.out), (by (with_reducible repeat (first | apply Kd.R_alloc | apply Kd.R_drewN | apply Kd.R_drew)); exact HO_8.out), BK2.out, BK3.out, BK4.out, BK5.out, GW4.out, GE4.out, NB2_4.out, NB4_2.out, NB3_4.out, NB4_3.out, NB5_4.out, NB4_5.out, GW5.out, GE5.out, NB2_5.out, NB5_2.out, NB3_5.out, NB5_3.out, (by repeat (first | (with_reducible first | exact HB.out | apply below_alloc | apply pw_below_drewN | apply below_drew1 | refine below_set ?_ GE2.out | refine below_set ?_ GE3.out | refine below_set ?_ GE5.out | refine below_set ?_ GE4.out) | exact HB.out))⟩)
    intro hJ2_7
    refine join_ (σ := Value × Nat) 4 #[true, true, false, true, true, true, true, false, false, false] (fun s_ => [(54, s_.1), (11, .pointer (some ⟨s_.2, 0, none⟩))]) (fun s_ w' => (w'.cell? ⟨gb2, 0, none⟩ = some (.slice A0 l0.length c0) ∧ w'.cell? ⟨gb3, 0, none⟩ = some (.slice Ao19 t210.length co19)) ∧ (Kd.R Kd.bool 4 w' w.heap.size (fun k_ => some k_ ≠ (v216 : Value).ownBlock) s_.1 y223) ∧ (Kd.R (Kd.int .i64) 3 w' w.heap.size (fun _ => True) (.slice Ao19 t210.length co19) t210) ∧ (Kd.R (Kd.int .i64) 3 w' w.heap.size (fun _ => True) (.slice Ao19 t210.length co19) t210) ∧ (Kd.R Kd.bool 4 w' w.heap.size (fun k_ => some k_ ≠ (s_.1 : Value).ownBlock) v216 x8_1) ∧ (w'.heap[gb2]? = some (.cells #[.slice A0 l0.length c0] 22 (0, 0))) ∧ (w'.heap[gb3]? = some (.cells #[.slice Ao19 t210.length co19] 29 (0, 0))) ∧ (w'.heap[s_.2]? = some (.cells #[.slice none 0 0] 38 (0, 0))) ∧ (w.heap.size ≤ s_.2) ∧ (w.heap.size ≤ s_.2) ∧ (gb2 ≠ s_.2) ∧ (s_.2 ≠ gb2) ∧ (gb3 ≠ s_.2) ∧ (s_.2 ≠ gb3) ∧ (Below w.heap.size w w')) ?_ ?_
    ·
     skip
     rintro ⟨v224, gb4⟩ w43 ⟨hS_, h0_, h1_, h2_, h3_, h4_, h5_, h6_, h7_, h8_, h9_, h10_, h11_, h12_, h13_⟩
     try dsimp only at h0_ h1_ h2_ h3_ h4_ h5_ h6_ h7_ h8_ h9_ h10_ h11_ h12_ h13_
     have n0_ := Aside0.mk h0_
     have n1_ := Aside0.mk h1_
     have n2_ := Aside0.mk h2_
     have n3_ := Aside0.mk h3_
     have n4_ := Aside0.mk h4_
     have n5_ := Aside0.mk h5_
     have n6_ := Aside0.mk h6_
     have n7_ := Aside0.mk h7_
     have n8_ := Aside0.mk h8_
     have n9_ := Aside0.mk h9_
     have n10_ := Aside0.mk h10_
     have n11_ := Aside0.mk h11_
     have n12_ := Aside0.mk h12_
     have n13_ := Aside0.mk h13_
     clear HO_8; clear HO_37; clear HO_215000; clear BK2; clear BK3; clear HB
     clear h0_ h1_ h2_ h3_ h4_ h5_ h6_ h7_ h8_ h9_ h10_ h11_ h12_ h13_
     have HO225 := n0_
     have HO_215000 := n1_
     have HO_37 := n2_
     have HO_8 := n3_
     have BK2 := n4_
     have BK3 := n5_
     have BK4 := n6_
     have GW4 := n7_
     have GE4 := n8_
     have NB2_4 := n9_
     have NB4_2 := n10_
     have NB3_4 := n11_
     have NB4_3 := n12_
     have HB := n13_
     clear n0_ n1_ n2_ n3_ n4_ n5_ n6_ n7_ n8_ n9_ n10_ n11_ n12_ n13_
     have hHeld : w43.cell? ⟨gb2, 0, none⟩ = some (.slice A0 l0.length c0) ∧ w43.cell? ⟨gb3, 0, none⟩ = some (.slice Ao19 t210.length co19) := hS_
     refine norm_ (a' := ?_) ?_ ?_
     rotate_left
     ·
      simp only [putAll, Act.put, List.setIfInBounds_toArray, List.set_cons_zero, List.set_cons_succ]
      rfl
     refine two_ (i := 2) (j := 7) (Ni := some 51) (Nj := some 12) #[true, true, true, true, true, true, true, false, false, false] #[true, true, false, true, true, true, true, true, false, false] rfl rfl rfl rfl (two_of HT_.out (by kernel_rfl)) (by decide) (by decide) (fun K hK => ?_) (fun K hK => ?_)
     ·
      skip
      refine Kd.R_make_step Kd.bool _ 4 (by rfl) (N := 51) rfl 38 _ _ rfl (l0.length : Int) rfl rfl Try.underlying38 (.bool false) 1 info4 rfl (by decide) (by omega) false (ok := fun _ => True) (okp := fun _ => True) rfl (fun _ hk => hk) trivial (of_decide_eq_true (by first | (with_reducible assumption) | assumption)) (Nat.le_trans (Nat.mul_le_mul_right _ (of_decide_eq_true (by first | (with_reducible assumption) | assumption) : (l0.length : Int).toNat ≤ 281474976710656)) (by omega)) (Below.refl _ _) (Nat.le_refl _) ?_
      intro v221 w44 ho45 hb hg_ hnew_
      clear hg_ hnew_
      (first | rw [← Ny220.out] at ho45 | (simp only [Int.reduceToNat] at ho45; rw [← Ny220.out] at ho45))
      replace HO_37 := Aside0.mk (Kd.R_below (by (with_reducible repeat (first | apply Kd.R_alloc | apply Kd.R_drewN | apply Kd.R_drew)); exact HO_37.out) hb); replace HO_215000 := Aside0.mk (Kd.R_below (by (with_reducible repeat (first | apply Kd.R_alloc | apply Kd.R_drewN | apply Kd.R_drew)); exact HO_215000.out) hb); have HO222 := Aside0.mk (Kd.R_lower (Kd.R_new' (Kd.R_new' ho45 (Kd.R_lt (by (with_reducible repeat (first | apply Kd.R_alloc | apply Kd.R_drewN | apply Kd.R_drew)); exact HO_8.out))) (Kd.R_lt (by (with_reducible repeat (first | apply Kd.R_alloc | apply Kd.R_drewN | apply Kd.R_drew)); exact HO225.out))) (below_size (by repeat (first | (with_reducible first | exact HB.out | apply below_alloc | apply pw_below_drewN | apply below_drew1 | refine below_set ?_ GE2.out | refine below_set ?_ GE3.out | refine below_set ?_ GE4.out) | exact HB.out)))); replace HO_8 := Aside0.mk (Kd.R_elder' (by (with_reducible repeat (first | apply Kd.R_alloc | apply Kd.R_drewN | apply Kd.R_drew)); exact HO_8.out) (Kd.R_base ho45) hb); replace HO225 := Aside0.mk (Kd.R_elder' (by (with_reducible repeat (first | apply Kd.R_alloc | apply Kd.R_drewN | apply Kd.R_drew)); exact HO225.out) (Kd.R_base ho45) hb); replace BK2 := mBb BK2 hb; replace BK3 := mBb BK3 hb; replace BK4 := mBb BK4 hb; replace HB := Aside0.mk (below_step (by repeat (first | (with_reducible first | exact HB.out | apply below_alloc | apply pw_below_drewN | apply below_drew1 | refine below_set ?_ GE2.out | refine below_set ?_ GE3.out | refine below_set ?_ GE4.out) | exact HB.out)) hb)
      clear hb ho45
      refine hK.out _ _ ⟨blk_cell BK2.out 0, blk_cell BK3.out 0⟩ (fun hHeld => ?_)
      clear hK K
      refine norm_ (a' := ?_) ?_ ?_
      rotate_left
      ·
       show Act.put _ (some 51) _ = _
       simp only [Act.put, List.setIfInBounds_toArray, List.set_cons_zero, List.set_cons_succ, i64_w, i32_w]
       rfl
      exact norm_ (by simp only [putAll, Act.put, List.setIfInBounds_toArray, List.set_cons_zero, List.set_cons_succ] <;> rfl) (hJ2_5_6 (v221, v224, gb4) _ ⟨hHeld, (by (with_reducible repeat (first | apply Kd.R_alloc | apply Kd.R_drewN | apply Kd.R_drew)); exact Kd.R_mono HO222.out (fun _ hk => ⟨hk.2, hk.1.2⟩)), (by (with_reducible repeat (first | apply Kd.R_alloc | apply Kd.R_drewN | apply Kd.R_drew)); exact Kd.R_mono HO225.out (fun _ hk => ⟨hk.2, hk.1⟩)), (by (with_reducible repeat (first | apply Kd.R_alloc | apply Kd.R_drewN | apply Kd.R_drew)); exact HO_215000.out), (by (with_reducible repeat (first | apply Kd.R_alloc | apply Kd.R_drewN | apply Kd.R_drew)); exact HO_37.out), (by (with_reducible repeat (first | apply Kd.R_alloc | apply Kd.R_drewN | apply Kd.R_drew)); exact Kd.R_mono HO_8.out (fun _ hk => ⟨hk.2, hk.1⟩)), BK2.out, BK3.out, BK4.out, GW4.out, GE4.out, NB2_4.out, NB4_2.out, NB3_4.out, NB4_3.out, (by repeat (first | (with_reducible first | exact HB.out | apply below_alloc | apply pw_below_drewN | apply below_drew1 | refine below_set ?_ GE2.out | refine below_set ?_ GE3.out | refine below_set ?_ GE4.out) | exact HB.out))⟩)
     ·
      skip
      refine box_step ?hg (N := 12) ?hd (cs := #[.slice none 0 0]) (t := 38) ?hr ?_; (case hd => rfl); (case hg => rfl); (case hr => first | (go_simp; done) | (go_simp; rfl))
      intro gb5 hg w44 hbox hb
      replace HO_8 := Aside0.mk (Kd.R_below (by (with_reducible repeat (first | apply Kd.R_alloc | apply Kd.R_drewN | apply Kd.R_drew)); exact HO_8.out) hb); replace HO_37 := Aside0.mk (Kd.R_below (by (with_reducible repeat (first | apply Kd.R_alloc | apply Kd.R_drewN | apply Kd.R_drew)); exact HO_37.out) hb); replace HO_215000 := Aside0.mk (Kd.R_below (by (with_reducible repeat (first | apply Kd.R_alloc | apply Kd.R_drewN | apply Kd.R_drew)); exact HO_215000.out) hb); replace HO225 := Aside0.mk (Kd.R_below (by (with_reducible repeat (first | apply Kd.R_alloc | apply Kd.R_drewN | apply Kd.R_drew)); exact HO225.out) hb); have BK5 := Aside0.mk hbox; have GW5 := Aside0.mk ((by rw [hg]; exact (below_size (by repeat (first | (with_reducible first | exact HB.out | apply below_alloc | apply pw_below_drewN | apply below_drew1 | refine below_set ?_ GE2.out | refine below_set ?_ GE3.out | refine below_set ?_ GE4.out) | exact HB.out))) : w.heap.size ≤ gb5)); have GE5 := GW5; replace HB := Aside0.mk (below_step (by repeat (first | (with_reducible first | exact HB.out | apply below_alloc | apply pw_below_drewN | apply below_drew1 | refine below_set ?_ GE2.out | refine below_set ?_ GE3.out | refine below_set ?_ GE4.out) | exact HB.out)) hb); have NB2_5 := mNe BK2 hg; have NB5_2 := mSy NB2_5; replace BK2 := mBb BK2 hb; have NB3_5 := mNe BK3 hg; have NB5_3 := mSy NB3_5; replace BK3 := mBb BK3 hb; have NB4_5 := mNe BK4 hg; have NB5_4 := mSy NB4_5; replace BK4 := mBb BK4 hb
      clear hb hbox hg
      refine hK.out _ _ ⟨blk_cell BK2.out 0, blk_cell BK3.out 0⟩ (fun hHeld => ?_)
      clear hK K
      refine norm_ (a' := ?_) ?_ ?_
      rotate_left
      ·
       show Act.put _ (some 12) _ = _
       simp only [Act.put, List.setIfInBounds_toArray, List.set_cons_zero, List.set_cons_succ, i64_w, i32_w]
       rfl
      exact norm_ (by simp only [putAll, Act.put, List.setIfInBounds_toArray, List.set_cons_zero, List.set_cons_succ] <;> rfl) (hJ5_6_7 (v224, gb4, gb5) _ ⟨hHeld, (by (with_reducible repeat (first | apply Kd.R_alloc | apply Kd.R_drewN | apply Kd.R_drew)); exact HO225.out), (by (with_reducible repeat (first | apply Kd.R_alloc | apply Kd.R_drewN | apply Kd.R_drew)); exact HO_215000.out), (by (with_reducible repeat (first | apply Kd.R_alloc | apply Kd.R_drewN | apply Kd.R_drew)); exact HO_37.out), (by (with_reducible repeat (first | apply Kd.R_alloc | apply Kd.R_drewN | apply Kd.R_drew)); exact HO_8.out), BK2.out, BK3.out, BK4.out, BK5.out, GW4.out, GE4.out, NB2_4.out, NB4_2.out, NB3_4.out, NB4_3.out, NB5_4.out, NB4_5.out, GW5.out, GE5.out, NB2_5.out, NB5_2.out, NB3_5.out, NB5_3.out, (by repeat (first | (with_reducible first | exact HB.out | apply below_alloc | apply pw_below_drewN | apply below_drew1 | refine below_set ?_ GE2.out | refine below_set ?_ GE3.out | refine below_set ?_ GE4.out | refine below_set ?_ GE5.out) | exact HB.out))⟩)
    intro hJ5_6
    refine join_ (σ := Value × Nat) 4 #[true, true, false, true, true, true, false, true, false, false] (fun s_ => [(54, s_.1), (12, .pointer (some ⟨s_.2, 0, none⟩))]) (fun s_ w' => (w'.cell? ⟨gb2, 0, none⟩ = some (.slice A0 l0.length c0) ∧ w'.cell? ⟨gb3, 0, none⟩ = some (.slice Ao19 t210.length co19)) ∧ (Kd.R Kd.bool 4 w' w.heap.size (fun k_ => some k_ ≠ (v216 : Value).ownBlock) s_.1 y223) ∧ (Kd.R (Kd.int .i64) 3 w' w.heap.size (fun _ => True) (.slice Ao19 t210.length co19) t210) ∧ (Kd.R (Kd.int .i64) 3 w' w.heap.size (fun _ => True) (.slice Ao19 t210.length co19) t210) ∧ (Kd.R Kd.bool 4 w' w.heap.size (fun k_ => some k_ ≠ (s_.1 : Value).ownBlock) v216 x8_1) ∧ (w'.heap[gb2]? = some (.cells #[.slice A0 l0.length c0] 22 (0, 0))) ∧ (w'.heap[gb3]? = some (.cells #[.slice Ao19 t210.length co19] 29 (0, 0))) ∧ (w'.heap[s_.2]? = some (.cells #[.slice none 0 0] 38 (0, 0))) ∧ (w.heap.size ≤ s_.2) ∧ (w.heap.size ≤ s_.2) ∧ (gb2 ≠ s_.2) ∧ (s_.2 ≠ gb2) ∧ (gb3 ≠ s_.2) ∧ (s_.2 ≠ gb3) ∧ (Below w.heap.size w w')) ?_ ?_
    ·
     skip
     rintro ⟨v224, gb5⟩ w43 ⟨hS_, h0_, h1_, h2_, h3_, h4_, h5_, h6_, h7_, h8_, h9_, h10_, h11_, h12_, h13_⟩
     try dsimp only at h0_ h1_ h2_ h3_ h4_ h5_ h6_ h7_ h8_ h9_ h10_ h11_ h12_ h13_
     have n0_ := Aside0.mk h0_
     have n1_ := Aside0.mk h1_
     have n2_ := Aside0.mk h2_
     have n3_ := Aside0.mk h3_
     have n4_ := Aside0.mk h4_
     have n5_ := Aside0.mk h5_
     have n6_ := Aside0.mk h6_
     have n7_ := Aside0.mk h7_
     have n8_ := Aside0.mk h8_
     have n9_ := Aside0.mk h9_
     have n10_ := Aside0.mk h10_
     have n11_ := Aside0.mk h11_
     have n12_ := Aside0.mk h12_
     have n13_ := Aside0.mk h13_
     clear HO_8; clear HO_37; clear HO_215000; clear BK2; clear BK3; clear HB
     clear h0_ h1_ h2_ h3_ h4_ h5_ h6_ h7_ h8_ h9_ h10_ h11_ h12_ h13_
     have HO225 := n0_
     have HO_215000 := n1_
     have HO_37 := n2_
     have HO_8 := n3_
     have BK2 := n4_
     have BK3 := n5_
     have BK5 := n6_
     have GW5 := n7_
     have GE5 := n8_
     have NB2_5 := n9_
     have NB5_2 := n10_
     have NB3_5 := n11_
     have NB5_3 := n12_
     have HB := n13_
     clear n0_ n1_ n2_ n3_ n4_ n5_ n6_ n7_ n8_ n9_ n10_ n11_ n12_ n13_
     have hHeld : w43.cell? ⟨gb2, 0, none⟩ = some (.slice A0 l0.length c0) ∧ w43.cell? ⟨gb3, 0, none⟩ = some (.slice Ao19 t210.length co19) := hS_
     refine norm_ (a' := ?_) ?_ ?_
     rotate_left
     ·
      simp only [putAll, Act.put, List.setIfInBounds_toArray, List.set_cons_zero, List.set_cons_succ]
      rfl
     refine two_ (i := 2) (j := 6) (Ni := some 51) (Nj := some 11) #[true, true, true, true, true, true, false, true, false, false] #[true, true, false, true, true, true, true, true, false, false] rfl rfl rfl rfl (two_of HT_.out (by kernel_rfl)) (by decide) (by decide) (fun K hK => ?_) (fun K hK => ?_)
     ·
      skip
      refine Kd.R_make_step Kd.bool _ 4 (by rfl) (N := 51) rfl 38 _ _ rfl (l0.length : Int) rfl rfl Try.underlying38 (.bool false) 1 info4 rfl (by decide) (by omega) false (ok := fun _ => True) (okp := fun _ => True) rfl (fun _ hk => hk) trivial (of_decide_eq_true (by first | (with_reducible assumption) | assumption)) (Nat.le_trans (Nat.mul_le_mul_right _ (of_decide_eq_true (by first | (with_reducible assumption) | assumption) : (l0.length : Int).toNat ≤ 281474976710656)) (by omega)) (Below.refl _ _) (Nat.le_refl _) ?_
      intro v221 w44 ho45 hb hg_ hnew_
      clear hg_ hnew_
      (first | rw [← Ny220.out] at ho45 | (simp only [Int.reduceToNat] at ho45; rw [← Ny220.out] at ho45))
      replace HO_37 := Aside0.mk (Kd.R_below (by (with_reducible repeat (first | apply Kd.R_alloc | apply Kd.R_drewN | apply Kd.R_drew)); exact HO_37.out) hb); replace HO_215000 := Aside0.mk (Kd.R_below (by (with_reducible repeat (first | apply Kd.R_alloc | apply Kd.R_drewN | apply Kd.R_drew)); exact HO_215000.out) hb); have HO222 := Aside0.mk (Kd.R_lower (Kd.R_new' (Kd.R_new' ho45 (Kd.R_lt (by (with_reducible repeat (first | apply Kd.R_alloc | apply Kd.R_drewN | apply Kd.R_drew)); exact HO_8.out))) (Kd.R_lt (by (with_reducible repeat (first | apply Kd.R_alloc | apply Kd.R_drewN | apply Kd.R_drew)); exact HO225.out))) (below_size (by repeat (first | (with_reducible first | exact HB.out | apply below_alloc | apply pw_below_drewN | apply below_drew1 | refine below_set ?_ GE2.out | refine below_set ?_ GE3.out | refine below_set ?_ GE5.out) | exact HB.out)))); replace HO_8 := Aside0.mk (Kd.R_elder' (by (with_reducible repeat (first | apply Kd.R_alloc | apply Kd.R_drewN | apply Kd.R_drew)); exact HO_8.out) (Kd.R_base ho45) hb); replace HO225 := Aside0.mk (Kd.R_elder' (by (with_reducible repeat (first | apply Kd.R_alloc | apply Kd.R_drewN | apply Kd.R_drew)); exact HO225.out) (Kd.R_base ho45) hb); replace BK2 := mBb BK2 hb; replace BK3 := mBb BK3 hb; replace BK5 := mBb BK5 hb; replace HB := Aside0.mk (below_step (by repeat (first | (with_reducible first | exact HB.out | apply below_alloc | apply pw_below_drewN | apply below_drew1 | refine below_set ?_ GE2.out | refine below_set ?_ GE3.out | refine below_set ?_ GE5.out) | exact HB.out)) hb)
      clear hb ho45
      refine hK.out _ _ ⟨blk_cell BK2.out 0, blk_cell BK3.out 0⟩ (fun hHeld => ?_)
      clear hK K
      refine norm_ (a' := ?_) ?_ ?_
      rotate_left
      ·
       show Act.put _ (some 51) _ = _
       simp only [Act.put, List.setIfInBounds_toArray, List.set_cons_zero, List.set_cons_succ, i64_w, i32_w]
       rfl
      exact norm_ (by simp only [putAll, Act.put, List.setIfInBounds_toArray, List.set_cons_zero, List.set_cons_succ] <;> rfl) (hJ2_5_7 (v221, v224, gb5) _ ⟨hHeld, (by (with_reducible repeat (first | apply Kd.R_alloc | apply Kd.R_drewN | apply Kd.R_drew)); exact Kd.R_mono HO222.out (fun _ hk => ⟨hk.2, hk.1.2⟩)), (by (with_reducible repeat (first | apply Kd.R_alloc | apply Kd.R_drewN | apply Kd.R_drew)); exact Kd.R_mono HO225.out (fun _ hk => ⟨hk.2, hk.1⟩)), (by (with_reducible repeat (first | apply Kd.R_alloc | apply Kd.R_drewN | apply Kd.R_drew)); exact HO_215000.out), (by (with_reducible repeat (first | apply Kd.R_alloc | apply Kd.R_drewN | apply Kd.R_drew)); exact HO_37.out), (by (with_reducible repeat (first | apply Kd.R_alloc | apply Kd.R_drewN | apply Kd.R_drew)); exact Kd.R_mono HO_8.out (fun _ hk => ⟨hk.2, hk.1⟩)), BK2.out, BK3.out, BK5.out, GW5.out, GE5.out, NB2_5.out, NB5_2.out, NB3_5.out, NB5_3.out, (by repeat (first | (with_reducible first | exact HB.out | apply below_alloc | apply pw_below_drewN | apply below_drew1 | refine below_set ?_ GE2.out | refine below_set ?_ GE3.out | refine below_set ?_ GE5.out) | exact HB.out))⟩)
     ·
      skip
      refine box_step ?hg (N := 11) ?hd (cs := #[.slice none 0 0]) (t := 38) ?hr ?_; (case hd => rfl); (case hg => rfl); (case hr => first | (go_simp; done) | (go_simp; rfl))
      intro gb4 hg w44 hbox hb
      replace HO_8 := Aside0.mk (Kd.R_below (by (with_reducible repeat (first | apply Kd.R_alloc | apply Kd.R_drewN | apply Kd.R_drew)); exact HO_8.out) hb); replace HO_37 := Aside0.mk (Kd.R_below (by (with_reducible repeat (first | apply Kd.R_alloc | apply Kd.R_drewN | apply Kd.R_drew)); exact HO_37.out) hb); replace HO_215000 := Aside0.mk (Kd.R_below (by (with_reducible repeat (first | apply Kd.R_alloc | apply Kd.R_drewN | apply Kd.R_drew)); exact HO_215000.out) hb); replace HO225 := Aside0.mk (Kd.R_below (by (with_reducible repeat (first | apply Kd.R_alloc | apply Kd.R_drewN | apply Kd.R_drew)); exact HO225.out) hb); have BK4 := Aside0.mk hbox; have GW4 := Aside0.mk ((by rw [hg]; exact (below_size (by repeat (first | (with_reducible first | exact HB.out | apply below_alloc | apply pw_below_drewN | apply below_drew1 | refine below_set ?_ GE2.out | refine below_set ?_ GE3.out | refine below_set ?_ GE5.out) | exact HB.out))) : w.heap.size ≤ gb4)); have GE4 := GW4; replace HB := Aside0.mk (below_step (by repeat (first | (with_reducible first | exact HB.out | apply below_alloc | apply pw_below_drewN | apply below_drew1 | refine below_set ?_ GE2.out | refine below_set ?_ GE3.out | refine below_set ?_ GE5.out) | exact HB.out)) hb); have NB2_4 := mNe BK2 hg; have NB4_2 := mSy NB2_4; replace BK2 := mBb BK2 hb; have NB3_4 := mNe BK3 hg; have NB4_3 := mSy NB3_4; replace BK3 := mBb BK3 hb; have NB5_4 := mNe BK5 hg; have NB4_5 := mSy NB5_4; replace BK5 := mBb BK5 hb
      clear hb hbox hg
      refine hK.out _ _ ⟨blk_cell BK2.out 0, blk_cell BK3.out 0⟩ (fun hHeld => ?_)
      clear hK K
      refine norm_ (a' := ?_) ?_ ?_
      rotate_left
      ·
       show Act.put _ (some 11) _ = _
       simp only [Act.put, List.setIfInBounds_toArray, List.set_cons_zero, List.set_cons_succ, i64_w, i32_w]
       rfl
      exact norm_ (by simp only [putAll, Act.put, List.setIfInBounds_toArray, List.set_cons_zero, List.set_cons_succ] <;> rfl) (hJ5_6_7 (v224, gb4, gb5) _ ⟨hHeld, (by (with_reducible repeat (first | apply Kd.R_alloc | apply Kd.R_drewN | apply Kd.R_drew)); exact HO225.out), (by (with_reducible repeat (first | apply Kd.R_alloc | apply Kd.R_drewN | apply Kd.R_drew)); exact HO_215000.out), (by (with_reducible repeat (first | apply Kd.R_alloc | apply Kd.R_drewN | apply Kd.R_drew)); exact HO_37.out), (by (with_reducible repeat (first | apply Kd.R_alloc | apply Kd.R_drewN | apply Kd.R_drew)); exact HO_8.out), BK2.out, BK3.out, BK4.out, BK5.out, GW4.out, GE4.out, NB2_4.out, NB4_2.out, NB3_4.out, NB4_3.out, NB5_4.out, NB4_5.out, GW5.out, GE5.out, NB2_5.out, NB5_2.out, NB3_5.out, NB5_3.out, (by repeat (first | (with_reducible first | exact HB.out | apply below_alloc | apply pw_below_drewN | apply below_drew1 | refine below_set ?_ GE2.out | refine below_set ?_ GE3.out | refine below_set ?_ GE5.out | refine below_set ?_ GE4.out) | exact HB.out))⟩)
    intro hJ5_7
    refine join_ (σ := Nat × Nat) 4 #[true, true, false, true, true, false, true, true, false, false] (fun s_ => [(11, .pointer (some ⟨s_.1, 0, none⟩)), (12, .pointer (some ⟨s_.2, 0, none⟩))]) (fun s_ w' => (w'.cell? ⟨gb2, 0, none⟩ = some (.slice A0 l0.length c0) ∧ w'.cell? ⟨gb3, 0, none⟩ = some (.slice Ao19 t210.length co19)) ∧ (Kd.R (Kd.int .i64) 3 w' w.heap.size (fun _ => True) (.slice Ao19 t210.length co19) t210) ∧ (Kd.R (Kd.int .i64) 3 w' w.heap.size (fun _ => True) (.slice Ao19 t210.length co19) t210) ∧ (Kd.R Kd.bool 4 w' w.heap.size (fun _ => True) v216 x8_1) ∧ (w'.heap[gb2]? = some (.cells #[.slice A0 l0.length c0] 22 (0, 0))) ∧ (w'.heap[gb3]? = some (.cells #[.slice Ao19 t210.length co19] 29 (0, 0))) ∧ (w'.heap[s_.1]? = some (.cells #[.slice none 0 0] 38 (0, 0))) ∧ (w'.heap[s_.2]? = some (.cells #[.slice none 0 0] 38 (0, 0))) ∧ (w.heap.size ≤ s_.1) ∧ (w.heap.size ≤ s_.1) ∧ (gb2 ≠ s_.1) ∧ (s_.1 ≠ gb2) ∧ (gb3 ≠ s_.1) ∧ (s_.1 ≠ gb3) ∧ (s_.2 ≠ s_.1) ∧ (s_.1 ≠ s_.2) ∧ (w.heap.size ≤ s_.2) ∧ (w.heap.size ≤ s_.2) ∧ (gb2 ≠ s_.2) ∧ (s_.2 ≠ gb2) ∧ (gb3 ≠ s_.2) ∧ (s_.2 ≠ gb3) ∧ (Below w.heap.size w w')) ?_ ?_
    ·
     skip
     rintro ⟨gb4, gb5⟩ w42 ⟨hS_, h0_, h1_, h2_, h3_, h4_, h5_, h6_, h7_, h8_, h9_, h10_, h11_, h12_, h13_, h14_, h15_, h16_, h17_, h18_, h19_, h20_, h21_⟩
     try dsimp only at h0_ h1_ h2_ h3_ h4_ h5_ h6_ h7_ h8_ h9_ h10_ h11_ h12_ h13_ h14_ h15_ h16_ h17_ h18_ h19_ h20_ h21_
     have n0_ := Aside0.mk h0_
     have n1_ := Aside0.mk h1_
     have n2_ := Aside0.mk h2_
     have n3_ := Aside0.mk h3_
     have n4_ := Aside0.mk h4_
     have n5_ := Aside0.mk h5_
     have n6_ := Aside0.mk h6_
     have n7_ := Aside0.mk h7_
     have n8_ := Aside0.mk h8_
     have n9_ := Aside0.mk h9_
     have n10_ := Aside0.mk h10_
     have n11_ := Aside0.mk h11_
     have n12_ := Aside0.mk h12_
     have n13_ := Aside0.mk h13_
     have n14_ := Aside0.mk h14_
     have n15_ := Aside0.mk h15_
     have n16_ := Aside0.mk h16_
     have n17_ := Aside0.mk h17_
     have n18_ := Aside0.mk h18_
     have n19_ := Aside0.mk h19_
     have n20_ := Aside0.mk h20_
     have n21_ := Aside0.mk h21_
     clear HO_8; clear HO_37; clear HO_215000; clear BK2; clear BK3; clear HB
     clear h0_ h1_ h2_ h3_ h4_ h5_ h6_ h7_ h8_ h9_ h10_ h11_ h12_ h13_ h14_ h15_ h16_ h17_ h18_ h19_ h20_ h21_
     have HO_215000 := n0_
     have HO_37 := n1_
     have HO_8 := n2_
     have BK2 := n3_
     have BK3 := n4_
     have BK4 := n5_
     have BK5 := n6_
     have GW4 := n7_
     have GE4 := n8_
     have NB2_4 := n9_
     have NB4_2 := n10_
     have NB3_4 := n11_
     have NB4_3 := n12_
     have NB5_4 := n13_
     have NB4_5 := n14_
     have GW5 := n15_
     have GE5 := n16_
     have NB2_5 := n17_
     have NB5_2 := n18_
     have NB3_5 := n19_
     have NB5_3 := n20_
     have HB := n21_
     clear n0_ n1_ n2_ n3_ n4_ n5_ n6_ n7_ n8_ n9_ n10_ n11_ n12_ n13_ n14_ n15_ n16_ n17_ n18_ n19_ n20_ n21_
     have hHeld : w42.cell? ⟨gb2, 0, none⟩ = some (.slice A0 l0.length c0) ∧ w42.cell? ⟨gb3, 0, none⟩ = some (.slice Ao19 t210.length co19) := hS_
     refine norm_ (a' := ?_) ?_ ?_
     rotate_left
     ·
      simp only [putAll, Act.put, List.setIfInBounds_toArray, List.set_cons_zero, List.set_cons_succ]
      rfl
     refine two_ (i := 2) (j := 5) (Ni := some 51) (Nj := some 54) #[true, true, true, true, true, false, true, true, false, false] #[true, true, false, true, true, true, true, true, false, false] rfl rfl rfl rfl (two_of HT_.out (by kernel_rfl)) (by decide) (by decide) (fun K hK => ?_) (fun K hK => ?_)
     ·
      skip
      refine Kd.R_make_step Kd.bool _ 4 (by rfl) (N := 51) rfl 38 _ _ rfl (l0.length : Int) rfl rfl Try.underlying38 (.bool false) 1 info4 rfl (by decide) (by omega) false (ok := fun _ => True) (okp := fun _ => True) rfl (fun _ hk => hk) trivial (of_decide_eq_true (by first | (with_reducible assumption) | assumption)) (Nat.le_trans (Nat.mul_le_mul_right _ (of_decide_eq_true (by first | (with_reducible assumption) | assumption) : (l0.length : Int).toNat ≤ 281474976710656)) (by omega)) (Below.refl _ _) (Nat.le_refl _) ?_
      intro v221 w43 ho44 hb hg_ hnew_
      clear hg_ hnew_
      (first | rw [← Ny220.out] at ho44 | (simp only [Int.reduceToNat] at ho44; rw [← Ny220.out] at ho44))
      replace HO_37 := Aside0.mk (Kd.R_below (by (with_reducible repeat (first | apply Kd.R_alloc | apply Kd.R_drewN | apply Kd.R_drew)); exact HO_37.out) hb); replace HO_215000 := Aside0.mk (Kd.R_below (by (with_reducible repeat (first | apply Kd.R_alloc | apply Kd.R_drewN | apply Kd.R_drew)); exact HO_215000.out) hb); have HO222 := Aside0.mk (Kd.R_lower (Kd.R_new' ho44 (Kd.R_lt (by (with_reducible repeat (first | apply Kd.R_alloc | apply Kd.R_drewN | apply Kd.R_drew)); exact HO_8.out))) (below_size (by repeat (first | (with_reducible first | exact HB.out | apply below_alloc | apply pw_below_drewN | apply below_drew1 | refine below_set ?_ GE2.out | refine below_set ?_ GE3.out | refine below_set ?_ GE4.out | refine below_set ?_ GE5.out) | exact HB.out)))); replace HO_8 := Aside0.mk (Kd.R_elder' (by (with_reducible repeat (first | apply Kd.R_alloc | apply Kd.R_drewN | apply Kd.R_drew)); exact HO_8.out) (Kd.R_base ho44) hb); replace BK2 := mBb BK2 hb; replace BK3 := mBb BK3 hb; replace BK4 := mBb BK4 hb; replace BK5 := mBb BK5 hb; replace HB := Aside0.mk (below_step (by repeat (first | (with_reducible first | exact HB.out | apply below_alloc | apply pw_below_drewN | apply below_drew1 | refine below_set ?_ GE2.out | refine below_set ?_ GE3.out | refine below_set ?_ GE4.out | refine below_set ?_ GE5.out) | exact HB.out)) hb)
      clear hb ho44
      refine hK.out _ _ ⟨blk_cell BK2.out 0, blk_cell BK3.out 0⟩ (fun hHeld => ?_)
      clear hK K
      refine norm_ (a' := ?_) ?_ ?_
      rotate_left
      ·
       show Act.put _ (some 51) _ = _
       simp only [Act.put, List.setIfInBounds_toArray, List.set_cons_zero, List.set_cons_succ, i64_w, i32_w]
       rfl
      exact norm_ (by simp only [putAll, Act.put, List.setIfInBounds_toArray, List.set_cons_zero, List.set_cons_succ] <;> rfl) (hJ2_6_7 (v221, gb4, gb5) _ ⟨hHeld, (by (with_reducible repeat (first | apply Kd.R_alloc | apply Kd.R_drewN | apply Kd.R_drew)); exact Kd.R_mono HO222.out (fun _ hk => hk.2)), (by (with_reducible repeat (first | apply Kd.R_alloc | apply Kd.R_drewN | apply Kd.R_drew)); exact HO_215000.out), (by (with_reducible repeat (first | apply Kd.R_alloc | apply Kd.R_drewN | apply Kd.R_drew)); exact HO_37.out), (by (with_reducible repeat (first | apply Kd.R_alloc | apply Kd.R_drewN | apply Kd.R_drew)); exact Kd.R_mono HO_8.out (fun _ hk => hk.2)), BK2.out, BK3.out, BK4.out, BK5.out, GW4.out, GE4.out, NB2_4.out, NB4_2.out, NB3_4.out, NB4_3.out, NB5_4.out, NB4_5.out, GW5.out, GE5.out, NB2_5.out, NB5_2.out, NB3_5.out, NB5_3.out, (by repeat (first | (with_reducible first | exact HB.out | apply below_alloc | apply pw_below_drewN | apply below_drew1 | refine below_set ?_ GE2.out | refine below_set ?_ GE3.out | refine below_set ?_ GE4.out | refine below_set ?_ GE5.out) | exact HB.out))⟩)
     ·
      skip
      refine Kd.R_make_step Kd.bool _ 4 (by rfl) (N := 54) rfl 38 _ _ rfl (t210.length : Int) rfl rfl Try.underlying38 (.bool false) 1 info4 rfl (by decide) (by omega) false (ok := fun _ => True) (okp := fun _ => True) rfl (fun _ hk => hk) trivial (of_decide_eq_true (by first | (with_reducible assumption) | assumption)) (Nat.le_trans (Nat.mul_le_mul_right _ (of_decide_eq_true (by first | (with_reducible assumption) | assumption) : (t210.length : Int).toNat ≤ 281474976710656)) (by omega)) (Below.refl _ _) (Nat.le_refl _) ?_
      intro v224 w43 ho44 hb hg_ hnew_
      clear hg_ hnew_
      (first | rw [← Ny223.out] at ho44 | (simp only [Int.reduceToNat] at ho44; rw [← Ny223.out] at ho44))
      replace HO_37 := Aside0.mk (Kd.R_below (by (with_reducible repeat (first | apply Kd.R_alloc | apply Kd.R_drewN | apply Kd.R_drew)); exact HO_37.out) hb); replace HO_215000 := Aside0.mk (Kd.R_below (by (with_reducible repeat (first | apply Kd.R_alloc | apply Kd.R_drewN | apply Kd.R_drew)); exact HO_215000.out) hb); have HO225 := Aside0.mk (Kd.R_lower (Kd.R_new' ho44 (Kd.R_lt (by (with_reducible repeat (first | apply Kd.R_alloc | apply Kd.R_drewN | apply Kd.R_drew)); exact HO_8.out))) (below_size (by repeat (first | (with_reducible first | exact HB.out | apply below_alloc | apply pw_below_drewN | apply below_drew1 | refine below_set ?_ GE2.out | refine below_set ?_ GE3.out | refine below_set ?_ GE4.out | refine below_set ?_ GE5.out) | exact HB.out)))); replace HO_8 := Aside0.mk (Kd.R_elder' (by (with_reducible repeat (first | apply Kd.R_alloc | apply Kd.R_drewN | apply Kd.R_drew)); exact HO_8.out) (Kd.R_base ho44) hb); replace BK2 := mBb BK2 hb; replace BK3 := mBb BK3 hb; replace BK4 := mBb BK4 hb; replace BK5 := mBb BK5 hb; replace HB := Aside0.mk (below_step (by repeat (first | (with_reducible first | exact HB.out | apply below_alloc | apply pw_below_drewN | apply below_drew1 | refine below_set ?_ GE2.out | refine below_set ?_ GE3.out | refine below_set ?_ GE4.out | refine below_set ?_ GE5.out) | exact HB.out)) hb)
      clear hb ho44
      refine hK.out _ _ ⟨blk_cell BK2.out 0, blk_cell BK3.out 0⟩ (fun hHeld => ?_)
      clear hK K
      refine norm_ (a' := ?_) ?_ ?_
      rotate_left
      ·
       show Act.put _ (some 54) _ = _
       simp only [Act.put, List.setIfInBounds_toArray, List.set_cons_zero, List.set_cons_succ, i64_w, i32_w]
       rfl
      exact norm_ (by simp only [putAll, Act.put, List.setIfInBounds_toArray, List.set_cons_zero, List.set_cons_succ] <;> rfl) (hJ5_6_7 (v224, gb4, gb5) _ ⟨hHeld, (by (with_reducible repeat (first | apply Kd.R_alloc | apply Kd.R_drewN | apply Kd.R_drew)); exact Kd.R_mono HO225.out (fun _ hk => hk.2)), (by (with_reducible repeat (first | apply Kd.R_alloc | apply Kd.R_drewN | apply Kd.R_drew)); exact HO_215000.out), (by (with_reducible repeat (first | apply Kd.R_alloc | apply Kd.R_drewN | apply Kd.R_drew)); exact HO_37.out), (by (with_reducible repeat (first | apply Kd.R_alloc | apply Kd.R_drewN | apply Kd.R_drew)); exact Kd.R_mono HO_8.out (fun _ hk => hk.2)), BK2.out, BK3.out, BK4.out, BK5.out, GW4.out, GE4.out, NB2_4.out, NB4_2.out, NB3_4.out, NB4_3.out, NB5_4.out, NB4_5.out, GW5.out, GE5.out, NB2_5.out, NB5_2.out, NB3_5.out, NB5_3.out, (by repeat (first | (with_reducible first | exact HB.out | apply below_alloc | apply pw_below_drewN | apply below_drew1 | refine below_set ?_ GE2.out | refine below_set ?_ GE3.out | refine below_set ?_ GE4.out | refine below_set ?_ GE5.out) | exact HB.out))⟩)
    intro hJ6_7
    refine join_ (σ := Value) 5 #[true, true, true, true, true, false, false, false, false, false] (fun s_ => [(51, s_)]) (fun s_ w' => (w'.cell? ⟨gb2, 0, none⟩ = some (.slice A0 l0.length c0) ∧ w'.cell? ⟨gb3, 0, none⟩ = some (.slice Ao19 t210.length co19)) ∧ (Kd.R Kd.bool 4 w' w.heap.size (fun k_ => some k_ ≠ (v216 : Value).ownBlock) s_ y220) ∧ (Kd.R (Kd.int .i64) 3 w' w.heap.size (fun _ => True) (.slice Ao19 t210.length co19) t210) ∧ (Kd.R (Kd.int .i64) 3 w' w.heap.size (fun _ => True) (.slice Ao19 t210.length co19) t210) ∧ (Kd.R Kd.bool 4 w' w.heap.size (fun k_ => some k_ ≠ (s_ : Value).ownBlock) v216 x8_1) ∧ (w'.heap[gb2]? = some (.cells #[.slice A0 l0.length c0] 22 (0, 0))) ∧ (w'.heap[gb3]? = some (.cells #[.slice Ao19 t210.length co19] 29 (0, 0))) ∧ (Below w.heap.size w w')) ?_ ?_
    ·
     skip
     rintro v221 w42 ⟨hS_, h0_, h1_, h2_, h3_, h4_, h5_, h6_⟩
     have n0_ := Aside0.mk h0_
     have n1_ := Aside0.mk h1_
     have n2_ := Aside0.mk h2_
     have n3_ := Aside0.mk h3_
     have n4_ := Aside0.mk h4_
     have n5_ := Aside0.mk h5_
     have n6_ := Aside0.mk h6_
     clear HO_8; clear HO_37; clear HO_215000; clear BK2; clear BK3; clear HB
     clear h0_ h1_ h2_ h3_ h4_ h5_ h6_
     have HO222 := n0_
     have HO_215000 := n1_
     have HO_37 := n2_
     have HO_8 := n3_
     have BK2 := n4_
     have BK3 := n5_
     have HB := n6_
     clear n0_ n1_ n2_ n3_ n4_ n5_ n6_
     have hHeld : w42.cell? ⟨gb2, 0, none⟩ = some (.slice A0 l0.length c0) ∧ w42.cell? ⟨gb3, 0, none⟩ = some (.slice Ao19 t210.length co19) := hS_
     refine norm_ (a' := ?_) ?_ ?_
     rotate_left
     ·
      simp only [putAll, Act.put, List.setIfInBounds_toArray, List.set_cons_zero, List.set_cons_succ]
      rfl
     refine three_ (i := 5) (j := 6) (k := 7) (Ni := some 54) (Nj := some 11) (Nk := some 12) #[true, true, true, true, true, true, false, false, false, false] #[true, true, true, true, true, false, true, false, false, false] #[true, true, true, true, true, false, false, true, false, false] rfl rfl rfl rfl rfl rfl (three_of HT_.out (by kernel_rfl)) (by decide) (by decide) (by decide) (fun K hK => ?_) (fun K hK => ?_) (fun K hK => ?_)
     ·
      skip
      refine Kd.R_make_step Kd.bool _ 4 (by rfl) (N := 54) rfl 38 _ _ rfl (t210.length : Int) rfl rfl Try.underlying38 (.bool false) 1 info4 rfl (by decide) (by omega) false (ok := fun _ => True) (okp := fun _ => True) rfl (fun _ hk => hk) trivial (of_decide_eq_true (by first | (with_reducible assumption) | assumption)) (Nat.le_trans (Nat.mul_le_mul_right _ (of_decide_eq_true (by first | (with_reducible assumption) | assumption) : (t210.length : Int).toNat ≤ 281474976710656)) (by omega)) (Below.refl _ _) (Nat.le_refl _) ?_
      intro v224 w43 ho44 hb hg_ hnew_
      clear hg_ hnew_
      (first | rw [← Ny223.out] at ho44 | (simp only [Int.reduceToNat] at ho44; rw [← Ny223.out] at ho44))
      replace HO_37 := Aside0.mk (Kd.R_below (by (with_reducible repeat (first | apply Kd.R_alloc | apply Kd.R_drewN | apply Kd.R_drew)); exact HO_37.out) hb); replace HO_215000 := Aside0.mk (Kd.R_below (by (with_reducible repeat (first | apply Kd.R_alloc | apply Kd.R_drewN | apply Kd.R_drew)); exact HO_215000.out) hb); have HO225 := Aside0.mk (Kd.R_lower (Kd.R_new' (Kd.R_new' ho44 (Kd.R_lt (by (with_reducible repeat (first | apply Kd.R_alloc | apply Kd.R_drewN | apply Kd.R_drew)); exact HO_8.out))) (Kd.R_lt (by (with_reducible repeat (first | apply Kd.R_alloc | apply Kd.R_drewN | apply Kd.R_drew)); exact HO222.out))) (below_size (by repeat (first | (with_reducible first | exact HB.out | apply below_alloc | apply pw_below_drewN | apply below_drew1 | refine below_set ?_ GE2.out | refine below_set ?_ GE3.out) | exact HB.out)))); replace HO_8 := Aside0.mk (Kd.R_elder' (by (with_reducible repeat (first | apply Kd.R_alloc | apply Kd.R_drewN | apply Kd.R_drew)); exact HO_8.out) (Kd.R_base ho44) hb); replace HO222 := Aside0.mk (Kd.R_elder' (by (with_reducible repeat (first | apply Kd.R_alloc | apply Kd.R_drewN | apply Kd.R_drew)); exact HO222.out) (Kd.R_base ho44) hb); replace BK2 := mBb BK2 hb; replace BK3 := mBb BK3 hb; replace HB := Aside0.mk (below_step (by repeat (first | (with_reducible first | exact HB.out | apply below_alloc | apply pw_below_drewN | apply below_drew1 | refine below_set ?_ GE2.out | refine below_set ?_ GE3.out) | exact HB.out)) hb)
      clear hb ho44
      refine hK.out _ _ ⟨blk_cell BK2.out 0, blk_cell BK3.out 0⟩ (fun hHeld => ?_)
      clear hK K
      refine norm_ (a' := ?_) ?_ ?_
      rotate_left
      ·
       show Act.put _ (some 54) _ = _
       simp only [Act.put, List.setIfInBounds_toArray, List.set_cons_zero, List.set_cons_succ, i64_w, i32_w]
       rfl
      exact norm_ (by simp only [putAll, Act.put, List.setIfInBounds_toArray, List.set_cons_zero, List.set_cons_succ] <;> rfl) (hJ2_5 (v221, v224) _ ⟨hHeld, (by (with_reducible repeat (first | apply Kd.R_alloc | apply Kd.R_drewN | apply Kd.R_drew)); exact Kd.R_mono HO222.out (fun _ hk => ⟨hk.2, hk.1⟩)), (by (with_reducible repeat (first | apply Kd.R_alloc | apply Kd.R_drewN | apply Kd.R_drew)); exact Kd.R_mono HO225.out (fun _ hk => ⟨hk.2, hk.1.2⟩)), (by (with_reducible repeat (first | apply Kd.R_alloc | apply Kd.R_drewN | apply Kd.R_drew)); exact HO_215000.out), (by (with_reducible repeat (first | apply Kd.R_alloc | apply Kd.R_drewN | apply Kd.R_drew)); exact HO_37.out), (by (with_reducible repeat (first | apply Kd.R_alloc | apply Kd.R_drewN | apply Kd.R_drew)); exact HO_8.out), BK2.out, BK3.out, (by repeat (first | (with_reducible first | exact HB.out | apply below_alloc | apply pw_below_drewN | apply below_drew1 | refine below_set ?_ GE2.out | refine below_set ?_ GE3.out) | exact HB.out))⟩)
     ·
      skip
      refine box_step ?hg (N := 11) ?hd (cs := #[.slice none 0 0]) (t := 38) ?hr ?_; (case hd => rfl); (case hg => rfl); (case hr => first | (go_simp; done) | (go_simp; rfl))
      intro gb4 hg w43 hbox hb
      replace HO_8 := Aside0.mk (Kd.R_below (by (with_reducible repeat (first | apply Kd.R_alloc | apply Kd.R_drewN | apply Kd.R_drew)); exact HO_8.out) hb); replace HO_37 := Aside0.mk (Kd.R_below (by (with_reducible repeat (first | apply Kd.R_alloc | apply Kd.R_drewN | apply Kd.R_drew)); exact HO_37.out) hb); replace HO_215000 := Aside0.mk (Kd.R_below (by (with_reducible repeat (first | apply Kd.R_alloc | apply Kd.R_drewN | apply Kd.R_drew)); exact HO_215000.out) hb); replace HO222 := Aside0.mk (Kd.R_below (by (with_reducible repeat (first | apply Kd.R_alloc | apply Kd.R_drewN | apply Kd.R_drew)); exact HO222.out) hb); have BK4 := Aside0.mk hbox; have GW4 := Aside0.mk ((by rw [hg]; exact (below_size (by repeat (first | (with_reducible first | exact HB.out | apply below_alloc | apply pw_below_drewN | apply below_drew1 | refine below_set ?_ GE2.out | refine below_set ?_ GE3.out) | exact HB.out))) : w.heap.size ≤ gb4)); have GE4 := GW4; replace HB := Aside0.mk (below_step (by repeat (first | (with_reducible first | exact HB.out | apply below_alloc | apply pw_below_drewN | apply below_drew1 | refine below_set ?_ GE2.out | refine below_set ?_ GE3.out) | exact HB.out)) hb); have NB2_4 := mNe BK2 hg; have NB4_2 := mSy NB2_4; replace BK2 := mBb BK2 hb; have NB3_4 := mNe BK3 hg; have NB4_3 := mSy NB3_4; replace BK3 := mBb BK3 hb
      clear hb hbox hg
      refine hK.out _ _ ⟨blk_cell BK2.out 0, blk_cell BK3.out 0⟩ (fun hHeld => ?_)
      clear hK K
      refine norm_ (a' := ?_) ?_ ?_
      rotate_left
      ·
       show Act.put _ (some 11) _ = _
       simp only [Act.put, List.setIfInBounds_toArray, List.set_cons_zero, List.set_cons_succ, i64_w, i32_w]
       rfl
      exact norm_ (by simp only [putAll, Act.put, List.setIfInBounds_toArray, List.set_cons_zero, List.set_cons_succ] <;> rfl) (hJ2_6 (v221, gb4) _ ⟨hHeld, (by (with_reducible repeat (first | apply Kd.R_alloc | apply Kd.R_drewN | apply Kd.R_drew)); exact HO222.out), (by (with_reducible repeat (first | apply Kd.R_alloc | apply Kd.R_drewN | apply Kd.R_drew)); exact HO_215000.out), (by (with_reducible repeat (first | apply Kd.R_alloc | apply Kd.R_drewN | apply Kd.R_drew)); exact HO_37.out), (by (with_reducible repeat (first | apply Kd.R_alloc | apply Kd.R_drewN | apply Kd.R_drew)); exact HO_8.out), BK2.out, BK3.out, BK4.out, GW4.out, GE4.out, NB2_4.out, NB4_2.out, NB3_4.out, NB4_3.out, (by repeat (first | (with_reducible first | exact HB.out | apply below_alloc | apply pw_below_drewN | apply below_drew1 | refine below_set ?_ GE2.out | refine below_set ?_ GE3.out | refine below_set ?_ GE4.out) | exact HB.out))⟩)
     ·
      skip
      refine box_step ?hg (N := 12) ?hd (cs := #[.slice none 0 0]) (t := 38) ?hr ?_; (case hd => rfl); (case hg => rfl); (case hr => first | (go_simp; done) | (go_simp; rfl))
      intro gb5 hg w43 hbox hb
      replace HO_8 := Aside0.mk (Kd.R_below (by (with_reducible repeat (first | apply Kd.R_alloc | apply Kd.R_drewN | apply Kd.R_drew)); exact HO_8.out) hb); replace HO_37 := Aside0.mk (Kd.R_below (by (with_reducible repeat (first | apply Kd.R_alloc | apply Kd.R_drewN | apply Kd.R_drew)); exact HO_37.out) hb); replace HO_215000 := Aside0.mk (Kd.R_below (by (with_reducible repeat (first | apply Kd.R_alloc | apply Kd.R_drewN | apply Kd.R_drew)); exact HO_215000.out) hb); replace HO222 := Aside0.mk (Kd.R_below (by (with_reducible repeat (first | apply Kd.R_alloc | apply Kd.R_drewN | apply Kd.R_drew)); exact HO222.out) hb); have BK5 := Aside0.mk hbox; have GW5 := Aside0.mk ((by rw [hg]; exact (below_size (by repeat (first | (with_reducible first | exact HB.out | apply below_alloc | apply pw_below_drewN | apply below_drew1 | refine below_set ?_ GE2.out | refine below_set ?_ GE3.out) | exact HB.out))) : w.heap.size ≤ gb5)); have GE5 := GW5; replace HB := Aside0.mk (below_step (by repeat (first | (with_reducible first | exact HB.out | apply below_alloc | apply pw_below_drewN | apply below_drew1 | refine below_set ?_ GE2.out | refine below_set ?_ GE3.out) | exact HB.out)) hb); have NB2_5 := mNe BK2 hg; have NB5_2 := mSy NB2_5; replace BK2 := mBb BK2 hb; have NB3_5 := mNe BK3 hg; have NB5_3 := mSy NB3_5; replace BK3 := mBb BK3 hb
      clear hb hbox hg
      refine hK.out _ _ ⟨blk_cell BK2.out 0, blk_cell BK3.out 0⟩ (fun hHeld => ?_)
      clear hK K
      refine norm_ (a' := ?_) ?_ ?_
      rotate_left
      ·
       show Act.put _ (some 12) _ = _
       simp only [Act.put, List.setIfInBounds_toArray, List.set_cons_zero, List.set_cons_succ, i64_w, i32_w]
       rfl
      exact norm_ (by simp only [putAll, Act.put, List.setIfInBounds_toArray, List.set_cons_zero, List.set_cons_succ] <;> rfl) (hJ2_7 (v221, gb5) _ ⟨hHeld, (by (with_reducible repeat (first | apply Kd.R_alloc | apply Kd.R_drewN | apply Kd.R_drew)); exact HO222.out), (by (with_reducible repeat (first | apply Kd.R_alloc | apply Kd.R_drewN | apply Kd.R_drew)); exact HO_215000.out), (by (with_reducible repeat (first | apply Kd.R_alloc | apply Kd.R_drewN | apply Kd.R_drew)); exact HO_37.out), (by (with_reducible repeat (first | apply Kd.R_alloc | apply Kd.R_drewN | apply Kd.R_drew)); exact HO_8.out), BK2.out, BK3.out, BK5.out, GW5.out, GE5.out, NB2_5.out, NB5_2.out, NB3_5.out, NB5_3.out, (by repeat (first | (with_reducible first | exact HB.out | apply below_alloc | apply pw_below_drewN | apply below_drew1 | refine below_set ?_ GE2.out | refine below_set ?_ GE3.out | refine below_set ?_ GE5.out) | exact HB.out))⟩)
    intro hJ2
    refine join_ (σ := Value) 5 #[true, true, false, true, true, true, false, false, false, false] (fun s_ => [(54, s_)]) (fun s_ w' => (w'.cell? ⟨gb2, 0, none⟩ = some (.slice A0 l0.length c0) ∧ w'.cell? ⟨gb3, 0, none⟩ = some (.slice Ao19 t210.length co19)) ∧ (Kd.R Kd.bool 4 w' w.heap.size (fun k_ => some k_ ≠ (v216 : Value).ownBlock) s_ y223) ∧ (Kd.R (Kd.int .i64) 3 w' w.heap.size (fun _ => True) (.slice Ao19 t210.length co19) t210) ∧ (Kd.R (Kd.int .i64) 3 w' w.heap.size (fun _ => True) (.slice Ao19 t210.length co19) t210) ∧ (Kd.R Kd.bool 4 w' w.heap.size (fun k_ => some k_ ≠ (s_ : Value).ownBlock) v216 x8_1) ∧ (w'.heap[gb2]? = some (.cells #[.slice A0 l0.length c0] 22 (0, 0))) ∧ (w'.heap[gb3]? = some (.cells #[.slice Ao19 t210.length co19] 29 (0, 0))) ∧ (Below w.heap.size w w')) ?_ ?_
    ·
     skip
     rintro v224 w42 ⟨hS_, h0_, h1_, h2_, h3_, h4_, h5_, h6_⟩
     have n0_ := Aside0.mk h0_
     have n1_ := Aside0.mk h1_
     have n2_ := Aside0.mk h2_
     have n3_ := Aside0.mk h3_
     have n4_ := Aside0.mk h4_
     have n5_ := Aside0.mk h5_
     have n6_ := Aside0.mk h6_
     clear HO_8; clear HO_37; clear HO_215000; clear BK2; clear BK3; clear HB
     clear h0_ h1_ h2_ h3_ h4_ h5_ h6_
     have HO225 := n0_
     have HO_215000 := n1_
     have HO_37 := n2_
     have HO_8 := n3_
     have BK2 := n4_
     have BK3 := n5_
     have HB := n6_
     clear n0_ n1_ n2_ n3_ n4_ n5_ n6_
     have hHeld : w42.cell? ⟨gb2, 0, none⟩ = some (.slice A0 l0.length c0) ∧ w42.cell? ⟨gb3, 0, none⟩ = some (.slice Ao19 t210.length co19) := hS_
     refine norm_ (a' := ?_) ?_ ?_
     rotate_left
     ·
      simp only [putAll, Act.put, List.setIfInBounds_toArray, List.set_cons_zero, List.set_cons_succ]
      rfl
     refine three_ (i := 2) (j := 6) (k := 7) (Ni := some 51) (Nj := some 11) (Nk := some 12) #[true, true, true, true, true, true, false, false, false, false] #[true, true, false, true, true, true, true, false, false, false] #[true, true, false, true, true, true, false, true, false, false] rfl rfl rfl rfl rfl rfl (three_of HT_.out (by kernel_rfl)) (by decide) (by decide) (by decide) (fun K hK => ?_) (fun K hK => ?_) (fun K hK => ?_)
     ·
      skip
      refine Kd.R_make_step Kd.bool _ 4 (by rfl) (N := 51) rfl 38 _ _ rfl (l0.length : Int) rfl rfl Try.underlying38 (.bool false) 1 info4 rfl (by decide) (by omega) false (ok := fun _ => True) (okp := fun _ => True) rfl (fun _ hk => hk) trivial (of_decide_eq_true (by first | (with_reducible assumption) | assumption)) (Nat.le_trans (Nat.mul_le_mul_right _ (of_decide_eq_true (by first | (with_reducible assumption) | assumption) : (l0.length : Int).toNat ≤ 281474976710656)) (by omega)) (Below.refl _ _) (Nat.le_refl _) ?_
      intro v221 w43 ho44 hb hg_ hnew_
      clear hg_ hnew_
      (first | rw [← Ny220.out] at ho44 | (simp only [Int.reduceToNat] at ho44; rw [← Ny220.out] at ho44))
      replace HO_37 := Aside0.mk (Kd.R_below (by (with_reducible repeat (first | apply Kd.R_alloc | apply Kd.R_drewN | apply Kd.R_drew)); exact HO_37.out) hb); replace HO_215000 := Aside0.mk (Kd.R_below (by (with_reducible repeat (first | apply Kd.R_alloc | apply Kd.R_drewN | apply Kd.R_drew)); exact HO_215000.out) hb); have HO222 := Aside0.mk (Kd.R_lower (Kd.R_new' (Kd.R_new' ho44 (Kd.R_lt (by (with_reducible repeat (first | apply Kd.R_alloc | apply Kd.R_drewN | apply Kd.R_drew)); exact HO_8.out))) (Kd.R_lt (by (with_reducible repeat (first | apply Kd.R_alloc | apply Kd.R_drewN | apply Kd.R_drew)); exact HO225.out))) (below_size (by repeat (first | (with_reducible first | exact HB.out | apply below_alloc | apply pw_below_drewN | apply below_drew1 | refine below_set ?_ GE2.out | refine below_set ?_ GE3.out) | exact HB.out)))); replace HO_8 := Aside0.mk (Kd.R_elder' (by (with_reducible repeat (first | apply Kd.R_alloc | apply Kd.R_drewN | apply Kd.R_drew)); exact HO_8.out) (Kd.R_base ho44) hb); replace HO225 := Aside0.mk (Kd.R_elder' (by (with_reducible repeat (first | apply Kd.R_alloc | apply Kd.R_drewN | apply Kd.R_drew)); exact HO225.out) (Kd.R_base ho44) hb); replace BK2 := mBb BK2 hb; replace BK3 := mBb BK3 hb; replace HB := Aside0.mk (below_step (by repeat (first | (with_reducible first | exact HB.out | apply below_alloc | apply pw_below_drewN | apply below_drew1 | refine below_set ?_ GE2.out | refine below_set ?_ GE3.out) | exact HB.out)) hb)
      clear hb ho44
      refine hK.out _ _ ⟨blk_cell BK2.out 0, blk_cell BK3.out 0⟩ (fun hHeld => ?_)
      clear hK K
      refine norm_ (a' := ?_) ?_ ?_
      rotate_left
      ·
       show Act.put _ (some 51) _ = _
       simp only [Act.put, List.setIfInBounds_toArray, List.set_cons_zero, List.set_cons_succ, i64_w, i32_w]
       rfl
      exact norm_ (by simp only [putAll, Act.put, List.setIfInBounds_toArray, List.set_cons_zero, List.set_cons_succ] <;> rfl) (hJ2_5 (v221, v224) _ ⟨hHeld, (by (with_reducible repeat (first | apply Kd.R_alloc | apply Kd.R_drewN | apply Kd.R_drew)); exact Kd.R_mono HO222.out (fun _ hk => ⟨hk.2, hk.1.2⟩)), (by (with_reducible repeat (first | apply Kd.R_alloc | apply Kd.R_drewN | apply Kd.R_drew)); exact Kd.R_mono HO225.out (fun _ hk => ⟨hk.2, hk.1⟩)), (by (with_reducible repeat (first | apply Kd.R_alloc | apply Kd.R_drewN | apply Kd.R_drew)); exact HO_215000.out), (by (with_reducible repeat (first | apply Kd.R_alloc | apply Kd.R_drewN | apply Kd.R_drew)); exact HO_37.out), (by (with_reducible repeat (first | apply Kd.R_alloc | apply Kd.R_drewN | apply Kd.R_drew)); exact Kd.R_mono HO_8.out (fun _ hk => ⟨hk.2, hk.1⟩)), BK2.out, BK3.out, (by repeat (first | (with_reducible first | exact HB.out | apply below_alloc | apply pw_below_drewN | apply below_drew1 | refine below_set ?_ GE2.out | refine below_set ?_ GE3.out) | exact HB.out))⟩)
     ·
      skip
      refine box_step ?hg (N := 11) ?hd (cs := #[.slice none 0 0]) (t := 38) ?hr ?_; (case hd => rfl); (case hg => rfl); (case hr => first | (go_simp; done) | (go_simp; rfl))
      intro gb4 hg w43 hbox hb
      replace HO_8 := Aside0.mk (Kd.R_below (by (with_reducible repeat (first | apply Kd.R_alloc | apply Kd.R_drewN | apply Kd.R_drew)); exact HO_8.out) hb); replace HO_37 := Aside0.mk (Kd.R_below (by (with_reducible repeat (first | apply Kd.R_alloc | apply Kd.R_drewN | apply Kd.R_drew)); exact HO_37.out) hb); replace HO_215000 := Aside0.mk (Kd.R_below (by (with_reducible repeat (first | apply Kd.R_alloc | apply Kd.R_drewN | apply Kd.R_drew)); exact HO_215000.out) hb); replace HO225 := Aside0.mk (Kd.R_below (by (with_reducible repeat (first | apply Kd.R_alloc | apply Kd.R_drewN | apply Kd.R_drew)); exact HO225.out) hb); have BK4 := Aside0.mk hbox; have GW4 := Aside0.mk ((by rw [hg]; exact (below_size (by repeat (first | (with_reducible first | exact HB.out | apply below_alloc | apply pw_below_drewN | apply below_drew1 | refine below_set ?_ GE2.out | refine below_set ?_ GE3.out) | exact HB.out))) : w.heap.size ≤ gb4)); have GE4 := GW4; replace HB := Aside0.mk (below_step (by repeat (first | (with_reducible first | exact HB.out | apply below_alloc | apply pw_below_drewN | apply below_drew1 | refine below_set ?_ GE2.out | refine below_set ?_ GE3.out) | exact HB.out)) hb); have NB2_4 := mNe BK2 hg; have NB4_2 := mSy NB2_4; replace BK2 := mBb BK2 hb; have NB3_4 := mNe BK3 hg; have NB4_3 := mSy NB3_4; replace BK3 := mBb BK3 hb
      clear hb hbox hg
      refine hK.out _ _ ⟨blk_cell BK2.out 0, blk_cell BK3.out 0⟩ (fun hHeld => ?_)
      clear hK K
      refine norm_ (a' := ?_) ?_ ?_
      rotate_left
      ·
       show Act.put _ (some 11) _ = _
       simp only [Act.put, List.setIfInBounds_toArray, List.set_cons_zero, List.set_cons_succ, i64_w, i32_w]
       rfl
      exact norm_ (by simp only [putAll, Act.put, List.setIfInBounds_toArray, List.set_cons_zero, List.set_cons_succ] <;> rfl) (hJ5_6 (v224, gb4) _ ⟨hHeld, (by (with_reducible repeat (first | apply Kd.R_alloc | apply Kd.R_drewN | apply Kd.R_drew)); exact HO225.out), (by (with_reducible repeat (first | apply Kd.R_alloc | apply Kd.R_drewN | apply Kd.R_drew)); exact HO_215000.out), (by (with_reducible repeat (first | apply Kd.R_alloc | apply Kd.R_drewN | apply Kd.R_drew)); exact HO_37.out), (by (with_reducible repeat (first | apply Kd.R_alloc | apply Kd.R_drewN | apply Kd.R_drew)); exact HO_8.out), BK2.out, BK3.out, BK4.out, GW4.out, GE4.out, NB2_4.out, NB4_2.out, NB3_4.out, NB4_3.out, (by repeat (first | (with_reducible first | exact HB.out | apply below_alloc | apply pw_below_drewN | apply below_drew1 | refine below_set ?_ GE2.out | refine below_set ?_ GE3.out | refine below_set ?_ GE4.out) | exact HB.out))⟩)
     ·
      skip
      refine box_step ?hg (N := 12) ?hd (cs := #[.slice none 0 0]) (t := 38) ?hr ?_; (case hd => rfl); (case hg => rfl); (case hr => first | (go_simp; done) | (go_simp; rfl))
      intro gb5 hg w43 hbox hb
      replace HO_8 := Aside0.mk (Kd.R_below (by (with_reducible repeat (first | apply Kd.R_alloc | apply Kd.R_drewN | apply Kd.R_drew)); exact HO_8.out) hb); replace HO_37 := Aside0.mk (Kd.R_below (by (with_reducible repeat (first | apply Kd.R_alloc | apply Kd.R_drewN | apply Kd.R_drew)); exact HO_37.out) hb); replace HO_215000 := Aside0.mk (Kd.R_below (by (with_reducible repeat (first | apply Kd.R_alloc | apply Kd.R_drewN | apply Kd.R_drew)); exact HO_215000.out) hb); replace HO225 := Aside0.mk (Kd.R_below (by (with_reducible repeat (first | apply Kd.R_alloc | apply Kd.R_drewN | apply Kd.R_drew)); exact HO225.out) hb); have BK5 := Aside0.mk hbox; have GW5 := Aside0.mk ((by rw [hg]; exact (below_size (by repeat (first | (with_reducible first | exact HB.out | apply below_alloc | apply pw_below_drewN | apply below_drew1 | refine below_set ?_ GE2.out | refine below_set ?_ GE3.out) | exact HB.out))) : w.heap.size ≤ gb5)); have GE5 := GW5; replace HB := Aside0.mk (below_step (by repeat (first | (with_reducible first | exact HB.out | apply below_alloc | apply pw_below_drewN | apply below_drew1 | refine below_set ?_ GE2.out | refine below_set ?_ GE3.out) | exact HB.out)) hb); have NB2_5 := mNe BK2 hg; have NB5_2 := mSy NB2_5; replace BK2 := mBb BK2 hb; have NB3_5 := mNe BK3 hg; have NB5_3 := mSy NB3_5; replace BK3 := mBb BK3 hb
      clear hb hbox hg
      refine hK.out _ _ ⟨blk_cell BK2.out 0, blk_cell BK3.out 0⟩ (fun hHeld => ?_)
      clear hK K
      refine norm_ (a' := ?_) ?_ ?_
      rotate_left
      ·
       show Act.put _ (some 12) _ = _
       simp only [Act.put, List.setIfInBounds_toArray, List.set_cons_zero, List.set_cons_succ, i64_w, i32_w]
       rfl
      exact norm_ (by simp only [putAll, Act.put, List.setIfInBounds_toArray, List.set_cons_zero, List.set_cons_succ] <;> rfl) (hJ5_7 (v224, gb5) _ ⟨hHeld, (by (with_reducible repeat (first | apply Kd.R_alloc | apply Kd.R_drewN | apply Kd.R_drew)); exact HO225.out), (by (with_reducible repeat (first | apply Kd.R_alloc | apply Kd.R_drewN | apply Kd.R_drew)); exact HO_215000.out), (by (with_reducible repeat (first | apply Kd.R_alloc | apply Kd.R_drewN | apply Kd.R_drew)); exact HO_37.out), (by (with_reducible repeat (first | apply Kd.R_alloc | apply Kd.R_drewN | apply Kd.R_drew)); exact HO_8.out), BK2.out, BK3.out, BK5.out, GW5.out, GE5.out, NB2_5.out, NB5_2.out, NB3_5.out, NB5_3.out, (by repeat (first | (with_reducible first | exact HB.out | apply below_alloc | apply pw_below_drewN | apply below_drew1 | refine below_set ?_ GE2.out | refine below_set ?_ GE3.out | refine below_set ?_ GE5.out) | exact HB.out))⟩)
    intro hJ5
    refine join_ (σ := Nat) 5 #[true, true, false, true, true, false, true, false, false, false] (fun s_ => [(11, .pointer (some ⟨s_, 0, none⟩))]) (fun s_ w' => (w'.cell? ⟨gb2, 0, none⟩ = some (.slice A0 l0.length c0) ∧ w'.cell? ⟨gb3, 0, none⟩ = some (.slice Ao19 t210.length co19)) ∧ (Kd.R (Kd.int .i64) 3 w' w.heap.size (fun _ => True) (.slice Ao19 t210.length co19) t210) ∧ (Kd.R (Kd.int .i64) 3 w' w.heap.size (fun _ => True) (.slice Ao19 t210.length co19) t210) ∧ (Kd.R Kd.bool 4 w' w.heap.size (fun _ => True) v216 x8_1) ∧ (w'.heap[gb2]? = some (.cells #[.slice A0 l0.length c0] 22 (0, 0))) ∧ (w'.heap[gb3]? = some (.cells #[.slice Ao19 t210.length co19] 29 (0, 0))) ∧ (w'.heap[s_]? = some (.cells #[.slice none 0 0] 38 (0, 0))) ∧ (w.heap.size ≤ s_) ∧ (w.heap.size ≤ s_) ∧ (gb2 ≠ s_) ∧ (s_ ≠ gb2) ∧ (gb3 ≠ s_) ∧ (s_ ≠ gb3) ∧ (Below w.heap.size w w')) ?_ ?_
    ·
     skip
     rintro gb4 w41 ⟨hS_, h0_, h1_, h2_, h3_, h4_, h5_, h6_, h7_, h8_, h9_, h10_, h11_, h12_⟩
     have n0_ := Aside0.mk h0_
     have n1_ := Aside0.mk h1_
     have n2_ := Aside0.mk h2_
     have n3_ := Aside0.mk h3_
     have n4_ := Aside0.mk h4_
     have n5_ := Aside0.mk h5_
     have n6_ := Aside0.mk h6_
     have n7_ := Aside0.mk h7_
     have n8_ := Aside0.mk h8_
     have n9_ := Aside0.mk h9_
     have n10_ := Aside0.mk h10_
     have n11_ := Aside0.mk h11_
     have n12_ := Aside0.mk h12_
     clear HO_8; clear HO_37; clear HO_215000; clear BK2; clear BK3; clear HB
     clear h0_ h1_ h2_ h3_ h4_ h5_ h6_ h7_ h8_ h9_ h10_ h11_ h12_
     have HO_215000 := n0_
     have HO_37 := n1_
     have HO_8 := n2_
     have BK2 := n3_
     have BK3 := n4_
     have BK4 := n5_
     have GW4 := n6_
     have GE4 := n7_
     have NB2_4 := n8_
     have NB4_2 := n9_
     have NB3_4 := n10_
     have NB4_3 := n11_
     have HB := n12_
     clear n0_ n1_ n2_ n3_ n4_ n5_ n6_ n7_ n8_ n9_ n10_ n11_ n12_
     have hHeld : w41.cell? ⟨gb2, 0, none⟩ = some (.slice A0 l0.length c0) ∧ w41.cell? ⟨gb3, 0, none⟩ = some (.slice Ao19 t210.length co19) := hS_
     refine norm_ (a' := ?_) ?_ ?_
     rotate_left
     ·
      simp only [putAll, Act.put, List.setIfInBounds_toArray, List.set_cons_zero, List.set_cons_succ]
      rfl
     refine three_ (i := 2) (j := 5) (k := 7) (Ni := some 51) (Nj := some 54) (Nk := some 12) #[true, true, true, true, true, false, true, false, false, false] #[true, true, false, true, true, true, true, false, false, false] #[true, true, false, true, true, false, true, true, false, false] rfl rfl rfl rfl rfl rfl (three_of HT_.out (by kernel_rfl)) (by decide) (by decide) (by decide) (fun K hK => ?_) (fun K hK => ?_) (fun K hK => ?_)
     ·
      skip
      refine Kd.R_make_step Kd.bool _ 4 (by rfl) (N := 51) rfl 38 _ _ rfl (l0.length : Int) rfl rfl Try.underlying38 (.bool false) 1 info4 rfl (by decide) (by omega) false (ok := fun _ => True) (okp := fun _ => True) rfl (fun _ hk => hk) trivial (of_decide_eq_true (by first | (with_reducible assumption) | assumption)) (Nat.le_trans (Nat.mul_le_mul_right _ (of_decide_eq_true (by first | (with_reducible assumption) | assumption) : (l0.length : Int).toNat ≤ 281474976710656)) (by omega)) (Below.refl _ _) (Nat.le_refl _) ?_
      intro v221 w42 ho43 hb hg_ hnew_
      clear hg_ hnew_
      (first | rw [← Ny220.out] at ho43 | (simp only [Int.reduceToNat] at ho43; rw [← Ny220.out] at ho43))
      replace HO_37 := Aside0.mk (Kd.R_below (by (with_reducible repeat (first | apply Kd.R_alloc | apply Kd.R_drewN | apply Kd.R_drew)); exact HO_37.out) hb); replace HO_215000 := Aside0.mk (Kd.R_below (by (with_reducible repeat (first | apply Kd.R_alloc | apply Kd.R_drewN | apply Kd.R_drew)); exact HO_215000.out) hb); have HO222 := Aside0.mk (Kd.R_lower (Kd.R_new' ho43 (Kd.R_lt (by (with_reducible repeat (first | apply Kd.R_alloc | apply Kd.R_drewN | apply Kd.R_drew)); exact HO_8.out))) (below_size (by repeat (first | (with_reducible first | exact HB.out | apply below_alloc | apply pw_below_drewN | apply below_drew1 | refine below_set ?_ GE2.out | refine below_set ?_ GE3.out | refine below_set ?_ GE4.out) | exact HB.out)))); replace HO_8 := Aside0.mk (Kd.R_elder' (by (with_reducible repeat (first | apply Kd.R_alloc | apply Kd.R_drewN | apply Kd.R_drew)); exact HO_8.out) (Kd.R_base ho43) hb); replace BK2 := mBb BK2 hb; replace BK3 := mBb BK3 hb; replace BK4 := mBb BK4 hb; replace HB := Aside0.mk (below_step (by repeat (first | (with_reducible first | exact HB.out | apply below_alloc | apply pw_below_drewN | apply below_drew1 | refine below_set ?_ GE2.out | refine below_set ?_ GE3.out | refine below_set ?_ GE4.out) | exact HB.out)) hb)
      clear hb ho43
      refine hK.out _ _ ⟨blk_cell BK2.out 0, blk_cell BK3.out 0⟩ (fun hHeld => ?_)
      clear hK K
      refine norm_ (a' := ?_) ?_ ?_
      rotate_left
      ·
       show Act.put _ (some 51) _ = _
       simp only [Act.put, List.setIfInBounds_toArray, List.set_cons_zero, List.set_cons_succ, i64_w, i32_w]
       rfl
      exact norm_ (by simp only [putAll, Act.put, List.setIfInBounds_toArray, List.set_cons_zero, List.set_cons_succ] <;> rfl) (hJ2_6 (v221, gb4) _ ⟨hHeld, (by (with_reducible repeat (first | apply Kd.R_alloc | apply Kd.R_drewN | apply Kd.R_drew)); exact Kd.R_mono HO222.out (fun _ hk => hk.2)), (by (with_reducible repeat (first | apply Kd.R_alloc | apply Kd.R_drewN | apply Kd.R_drew)); exact HO_215000.out), (by (with_reducible repeat (first | apply Kd.R_alloc | apply Kd.R_drewN | apply Kd.R_drew)); exact HO_37.out), (by (with_reducible repeat (first | apply Kd.R_alloc | apply Kd.R_drewN | apply Kd.R_drew)); exact Kd.R_mono HO_8.out (fun _ hk => hk.2)), BK2.out, BK3.out, BK4.out, GW4.out, GE4.out, NB2_4.out, NB4_2.out, NB3_4.out, NB4_3.out, (by repeat (first | (with_reducible first | exact HB.out | apply below_alloc | apply pw_below_drewN | apply below_drew1 | refine below_set ?_ GE2.out | refine below_set ?_ GE3.out | refine below_set ?_ GE4.out) | exact HB.out))⟩)
     ·
      skip
      refine Kd.R_make_step Kd.bool _ 4 (by rfl) (N := 54) rfl 38 _ _ rfl (t210.length : Int) rfl rfl Try.underlying38 (.bool false) 1 info4 rfl (by decide) (by omega) false (ok := fun _ => True) (okp := fun _ => True) rfl (fun _ hk => hk) trivial (of_decide_eq_true (by first | (with_reducible assumption) | assumption)) (Nat.le_trans (Nat.mul_le_mul_right _ (of_decide_eq_true (by first | (with_reducible assumption) | assumption) : (t210.length : Int).toNat ≤ 281474976710656)) (by omega)) (Below.refl _ _) (Nat.le_refl _) ?_
      intro v224 w42 ho43 hb hg_ hnew_
      clear hg_ hnew_
      (first | rw [← Ny223.out] at ho43 | (simp only [Int.reduceToNat] at ho43; rw [← Ny223.out] at ho43))
      replace HO_37 := Aside0.mk (Kd.R_below (by (with_reducible repeat (first | apply Kd.R_alloc | apply Kd.R_drewN | apply Kd.R_drew)); exact HO_37.out) hb); replace HO_215000 := Aside0.mk (Kd.R_below (by (with_reducible repeat (first | apply Kd.R_alloc | apply Kd.R_drewN | apply Kd.R_drew)); exact HO_215000.out) hb); have HO225 := Aside0.mk (Kd.R_lower (Kd.R_new' ho43 (Kd.R_lt (by (with_reducible repeat (first | apply Kd.R_alloc | apply Kd.R_drewN | apply Kd.R_drew)); exact HO_8.out))) (below_size (by repeat (first | (with_reducible first | exact HB.out | apply below_alloc | apply pw_below_drewN | apply below_drew1 | refine below_set ?_ GE2.out | refine below_set ?_ GE3.out | refine below_set ?_ GE4.out) | exact HB.out)))); replace HO_8 := Aside0.mk (Kd.R_elder' (by (with_reducible repeat (first | apply Kd.R_alloc | apply Kd.R_drewN | apply Kd.R_drew)); exact HO_8.out) (Kd.R_base ho43) hb); replace BK2 := mBb BK2 hb; replace BK3 := mBb BK3 hb; replace BK4 := mBb BK4 hb; replace HB := Aside0.mk (below_step (by repeat (first | (with_reducible first | exact HB.out | apply below_alloc | apply pw_below_drewN | apply below_drew1 | refine below_set ?_ GE2.out | refine below_set ?_ GE3.out | refine below_set ?_ GE4.out) | exact HB.out)) hb)
      clear hb ho43
      refine hK.out _ _ ⟨blk_cell BK2.out 0, blk_cell BK3.out 0⟩ (fun hHeld => ?_)
      clear hK K
      refine norm_ (a' := ?_) ?_ ?_
      rotate_left
      ·
       show Act.put _ (some 54) _ = _
       simp only [Act.put, List.setIfInBounds_toArray, List.set_cons_zero, List.set_cons_succ, i64_w, i32_w]
       rfl
      exact norm_ (by simp only [putAll, Act.put, List.setIfInBounds_toArray, List.set_cons_zero, List.set_cons_succ] <;> rfl) (hJ5_6 (v224, gb4) _ ⟨hHeld, (by (with_reducible repeat (first | apply Kd.R_alloc | apply Kd.R_drewN | apply Kd.R_drew)); exact Kd.R_mono HO225.out (fun _ hk => hk.2)), (by (with_reducible repeat (first | apply Kd.R_alloc | apply Kd.R_drewN | apply Kd.R_drew)); exact HO_215000.out), (by (with_reducible repeat (first | apply Kd.R_alloc | apply Kd.R_drewN | apply Kd.R_drew)); exact HO_37.out), (by (with_reducible repeat (first | apply Kd.R_alloc | apply Kd.R_drewN | apply Kd.R_drew)); exact Kd.R_mono HO_8.out (fun _ hk => hk.2)), BK2.out, BK3.out, BK4.out, GW4.out, GE4.out, NB2_4.out, NB4_2.out, NB3_4.out, NB4_3.out, (by repeat (first | (with_reducible first | exact HB.out | apply below_alloc | apply pw_below_drewN | apply below_drew1 | refine below_set ?_ GE2.out | refine below_set ?_ GE3.out | refine below_set ?_ GE4.out) | exact HB.out))⟩)
     ·
      skip
      refine box_step ?hg (N := 12) ?hd (cs := #[.slice none 0 0]) (t := 38) ?hr ?_; (case hd => rfl); (case hg => rfl); (case hr => first | (go_simp; done) | (go_simp; rfl))
      intro gb5 hg w42 hbox hb
      replace HO_8 := Aside0.mk (Kd.R_below (by (with_reducible repeat (first | apply Kd.R_alloc | apply Kd.R_drewN | apply Kd.R_drew)); exact HO_8.out) hb); replace HO_37 := Aside0.mk (Kd.R_below (by (with_reducible repeat (first | apply Kd.R_alloc | apply Kd.R_drewN | apply Kd.R_drew)); exact HO_37.out) hb); replace HO_215000 := Aside0.mk (Kd.R_below (by (with_reducible repeat (first | apply Kd.R_alloc | apply Kd.R_drewN | apply Kd.R_drew)); exact HO_215000.out) hb); have BK5 := Aside0.mk hbox; have GW5 := Aside0.mk ((by rw [hg]; exact (below_size (by repeat (first | (with_reducible first | exact HB.out | apply below_alloc | apply pw_below_drewN | apply below_drew1 | refine below_set ?_ GE2.out | refine below_set ?_ GE3.out | refine below_set ?_ GE4.out) | exact HB.out))) : w.heap.size ≤ gb5)); have GE5 := GW5; replace HB := Aside0.mk (below_step (by repeat (first | (with_reducible first | exact HB.out | apply below_alloc | apply pw_below_drewN | apply below_drew1 | refine below_set ?_ GE2.out | refine below_set ?_ GE3.out | refine below_set ?_ GE4.out) | exact HB.out)) hb); have NB2_5 := mNe BK2 hg; have NB5_2 := mSy NB2_5; replace BK2 := mBb BK2 hb; have NB3_5 := mNe BK3 hg; have NB5_3 := mSy NB3_5; replace BK3 := mBb BK3 hb; have NB4_5 := mNe BK4 hg; have NB5_4 := mSy NB4_5; replace BK4 := mBb BK4 hb
      clear hb hbox hg
      refine hK.out _ _ ⟨blk_cell BK2.out 0, blk_cell BK3.out 0⟩ (fun hHeld => ?_)
      clear hK K
      refine norm_ (a' := ?_) ?_ ?_
      rotate_left
      ·
       show Act.put _ (some 12) _ = _
       simp only [Act.put, List.setIfInBounds_toArray, List.set_cons_zero, List.set_cons_succ, i64_w, i32_w]
       rfl
      exact norm_ (by simp only [putAll, Act.put, List.setIfInBounds_toArray, List.set_cons_zero, List.set_cons_succ] <;> rfl) (hJ6_7 (gb4, gb5) _ ⟨hHeld, (by (with_reducible repeat (first | apply Kd.R_alloc | apply Kd.R_drewN | apply Kd.R_drew)); exact HO_215000.out), (by (with_reducible repeat (first | apply Kd.R_alloc | apply Kd.R_drewN | apply Kd.R_drew)); exact HO_37.out), (by (with_reducible repeat (first | apply Kd.R_alloc | apply Kd.R_drewN | apply Kd.R_drew)); exact HO_8.out), BK2.out, BK3.out, BK4.out, BK5.out, GW4.out, GE4.out, NB2_4.out, NB4_2.out, NB3_4.out, NB4_3.out, NB5_4.out, NB4_5.out, GW5.out, GE5.out, NB2_5.out, NB5_2.out, NB3_5.out, NB5_3.out, (by repeat (first | (with_reducible first | exact HB.out | apply below_alloc | apply pw_below_drewN | apply below_drew1 | refine below_set ?_ GE2.out | refine below_set ?_ GE3.out | refine below_set ?_ GE4.out | refine below_set ?_ GE5.out) | exact HB.out))⟩)
    intro hJ6
    refine join_ (σ := Nat) 5 #[true, true, false, true, true, false, false, true, false, false] (fun s_ => [(12, .pointer (some ⟨s_, 0, none⟩))]) (fun s_ w' => (w'.cell? ⟨gb2, 0, none⟩ = some (.slice A0 l0.length c0) ∧ w'.cell? ⟨gb3, 0, none⟩ = some (.slice Ao19 t210.length co19)) ∧ (Kd.R (Kd.int .i64) 3 w' w.heap.size (fun _ => True) (.slice Ao19 t210.length co19) t210) ∧ (Kd.R (Kd.int .i64) 3 w' w.heap.size (fun _ => True) (.slice Ao19 t210.length co19) t210) ∧ (Kd.R Kd.bool 4 w' w.heap.size (fun _ => True) v216 x8_1) ∧ (w'.heap[gb2]? = some (.cells #[.slice A0 l0.length c0] 22 (0, 0))) ∧ (w'.heap[gb3]? = some (.cells #[.slice Ao19 t210.length co19] 29 (0, 0))) ∧ (w'.heap[s_]? = some (.cells #[.slice none 0 0] 38 (0, 0))) ∧ (w.heap.size ≤ s_) ∧ (w.heap.size ≤ s_) ∧ (gb2 ≠ s_) ∧ (s_ ≠ gb2) ∧ (gb3 ≠ s_) ∧ (s_ ≠ gb3) ∧ (Below w.heap.size w w')) ?_ ?_
    rotate_left
    ·
     intro hJ7
     refine four_ (i := 2) (j := 5) (k := 6) (m := 7) (Ni := some 51) (Nj := some 54) (Nk := some 11) (Nm := some 12) #[true, true, true, true, true, false, false, false, false, false] #[true, true, false, true, true, true, false, false, false, false] #[true, true, false, true, true, false, true, false, false, false] #[true, true, false, true, true, false, false, true, false, false] rfl rfl rfl rfl rfl rfl rfl rfl (four_of HT_.out (by kernel_rfl)) (by decide) (by decide) (by decide) (by decide) (fun K hK => ?_) (fun K hK => ?_) (fun K hK => ?_) (fun K hK => ?_)
     ·
      skip
      refine Kd.R_make_step Kd.bool _ 4 (by rfl) (N := 51) rfl 38 _ _ rfl (l0.length : Int) rfl rfl Try.underlying38 (.bool false) 1 info4 rfl (by decide) (by omega) false (ok := fun _ => True) (okp := fun _ => True) rfl (fun _ hk => hk) trivial (of_decide_eq_true (by first | (with_reducible assumption) | assumption)) (Nat.le_trans (Nat.mul_le_mul_right _ (of_decide_eq_true (by first | (with_reducible assumption) | assumption) : (l0.length : Int).toNat ≤ 281474976710656)) (by omega)) (Below.refl _ _) (Nat.le_refl _) ?_
      intro v221 w40 ho41 hb hg_ hnew_
      clear hg_ hnew_
      (first | rw [← Ny220.out] at ho41 | (simp only [Int.reduceToNat] at ho41; rw [← Ny220.out] at ho41))
      replace HO_37 := Aside0.mk (Kd.R_below (by (with_reducible repeat (first | apply Kd.R_alloc | apply Kd.R_drewN | apply Kd.R_drew)); exact HO_37.out) hb); replace HO_215000 := Aside0.mk (Kd.R_below (by (with_reducible repeat (first | apply Kd.R_alloc | apply Kd.R_drewN | apply Kd.R_drew)); exact HO_215000.out) hb); have HO222 := Aside0.mk (Kd.R_lower (Kd.R_new' ho41 (Kd.R_lt (by (with_reducible repeat (first | apply Kd.R_alloc | apply Kd.R_drewN | apply Kd.R_drew)); exact HO_8.out))) (below_size (by repeat (first | (with_reducible first | exact HB.out | apply below_alloc | apply pw_below_drewN | apply below_drew1 | refine below_set ?_ GE2.out | refine below_set ?_ GE3.out) | exact HB.out)))); replace HO_8 := Aside0.mk (Kd.R_elder' (by (with_reducible repeat (first | apply Kd.R_alloc | apply Kd.R_drewN | apply Kd.R_drew)); exact HO_8.out) (Kd.R_base ho41) hb); replace BK2 := mBb BK2 hb; replace BK3 := mBb BK3 hb; replace HB := Aside0.mk (below_step (by repeat (first | (with_reducible first | exact HB.out | apply below_alloc | apply pw_below_drewN | apply below_drew1 | refine below_set ?_ GE2.out | refine below_set ?_ GE3.out) | exact HB.out)) hb)
      clear hb ho41
      refine hK.out _ _ ⟨blk_cell BK2.out 0, blk_cell BK3.out 0⟩ (fun hHeld => ?_)
      clear hK K
      refine norm_ (a' := ?_) ?_ ?_
      rotate_left
      ·
       show Act.put _ (some 51) _ = _
       simp only [Act.put, List.setIfInBounds_toArray, List.set_cons_zero, List.set_cons_succ, i64_w, i32_w]
       rfl
      exact norm_ (by simp only [putAll, Act.put, List.setIfInBounds_toArray, List.set_cons_zero, List.set_cons_succ] <;> rfl) (hJ2 (v221) _ ⟨hHeld, (by (with_reducible repeat (first | apply Kd.R_alloc | apply Kd.R_drewN | apply Kd.R_drew)); exact Kd.R_mono HO222.out (fun _ hk => hk.2)), (by (with_reducible repeat (first | apply Kd.R_alloc | apply Kd.R_drewN | apply Kd.R_drew)); exact HO_215000.out), (by (with_reducible repeat (first | apply Kd.R_alloc | apply Kd.R_drewN | apply Kd.R_drew)); exact HO_37.out), (by (with_reducible repeat (first | apply Kd.R_alloc | apply Kd.R_drewN | apply Kd.R_drew)); exact Kd.R_mono HO_8.out (fun _ hk => hk.2)), BK2.out, BK3.out, (by repeat (first | (with_reducible first | exact HB.out | apply below_alloc | apply pw_below_drewN | apply below_drew1 | refine below_set ?_ GE2.out | refine below_set ?_ GE3.out) | exact HB.out))⟩)
     ·
      skip
      refine Kd.R_make_step Kd.bool _ 4 (by rfl) (N := 54) rfl 38 _ _ rfl (t210.length : Int) rfl rfl Try.underlying38 (.bool false) 1 info4 rfl (by decide) (by omega) false (ok := fun _ => True) (okp := fun _ => True) rfl (fun _ hk => hk) trivial (of_decide_eq_true (by first | (with_reducible assumption) | assumption)) (Nat.le_trans (Nat.mul_le_mul_right _ (of_decide_eq_true (by first | (with_reducible assumption) | assumption) : (t210.length : Int).toNat ≤ 281474976710656)) (by omega)) (Below.refl _ _) (Nat.le_refl _) ?_
      intro v224 w40 ho41 hb hg_ hnew_
      clear hg_ hnew_
      (first | rw [← Ny223.out] at ho41 | (simp only [Int.reduceToNat] at ho41; rw [← Ny223.out] at ho41))
      replace HO_37 := Aside0.mk (Kd.R_below (by (with_reducible repeat (first | apply Kd.R_alloc | apply Kd.R_drewN | apply Kd.R_drew)); exact HO_37.out) hb); replace HO_215000 := Aside0.mk (Kd.R_below (by (with_reducible repeat (first | apply Kd.R_alloc | apply Kd.R_drewN | apply Kd.R_drew)); exact HO_215000.out) hb); have HO225 := Aside0.mk (Kd.R_lower (Kd.R_new' ho41 (Kd.R_lt (by (with_reducible repeat (first | apply Kd.R_alloc | apply Kd.R_drewN | apply Kd.R_drew)); exact HO_8.out))) (below_size (by repeat (first | (with_reducible first | exact HB.out | apply below_alloc | apply pw_below_drewN | apply below_drew1 | refine below_set ?_ GE2.out | refine below_set ?_ GE3.out) | exact HB.out)))); replace HO_8 := Aside0.mk (Kd.R_elder' (by (with_reducible repeat (first | apply Kd.R_alloc | apply Kd.R_drewN | apply Kd.R_drew)); exact HO_8.out) (Kd.R_base ho41) hb); replace BK2 := mBb BK2 hb; replace BK3 := mBb BK3 hb; replace HB := Aside0.mk (below_step (by repeat (first | (with_reducible first | exact HB.out | apply below_alloc | apply pw_below_drewN | apply below_drew1 | refine below_set ?_ GE2.out | refine below_set ?_ GE3.out) | exact HB.out)) hb)
      clear hb ho41
      refine hK.out _ _ ⟨blk_cell BK2.out 0, blk_cell BK3.out 0⟩ (fun hHeld => ?_)
      clear hK K
      refine norm_ (a' := ?_) ?_ ?_
      rotate_left
      ·
       show Act.put _ (some 54) _ = _
       simp only [Act.put, List.setIfInBounds_toArray, List.set_cons_zero, List.set_cons_succ, i64_w, i32_w]
       rfl
      exact norm_ (by simp only [putAll, Act.put, List.setIfInBounds_toArray, List.set_cons_zero, List.set_cons_succ] <;> rfl) (hJ5 (v224) _ ⟨hHeld, (by (with_reducible repeat (first | apply Kd.R_alloc | apply Kd.R_drewN | apply Kd.R_drew)); exact Kd.R_mono HO225.out (fun _ hk => hk.2)), (by (with_reducible repeat (first | apply Kd.R_alloc | apply Kd.R_drewN | apply Kd.R_drew)); exact HO_215000.out), (by (with_reducible repeat (first | apply Kd.R_alloc | apply Kd.R_drewN | apply Kd.R_drew)); exact HO_37.out), (by (with_reducible repeat (first | apply Kd.R_alloc | apply Kd.R_drewN | apply Kd.R_drew)); exact Kd.R_mono HO_8.out (fun _ hk => hk.2)), BK2.out, BK3.out, (by repeat (first | (with_reducible first | exact HB.out | apply below_alloc | apply pw_below_drewN | apply below_drew1 | refine below_set ?_ GE2.out | refine below_set ?_ GE3.out) | exact HB.out))⟩)
     ·
      skip
      refine box_step ?hg (N := 11) ?hd (cs := #[.slice none 0 0]) (t := 38) ?hr ?_; (case hd => rfl); (case hg => rfl); (case hr => first | (go_simp; done) | (go_simp; rfl))
      intro gb4 hg w40 hbox hb
      replace HO_8 := Aside0.mk (Kd.R_below (by (with_reducible repeat (first | apply Kd.R_alloc | apply Kd.R_drewN | apply Kd.R_drew)); exact HO_8.out) hb); replace HO_37 := Aside0.mk (Kd.R_below (by (with_reducible repeat (first | apply Kd.R_alloc | apply Kd.R_drewN | apply Kd.R_drew)); exact HO_37.out) hb); replace HO_215000 := Aside0.mk (Kd.R_below (by (with_reducible repeat (first | apply Kd.R_alloc | apply Kd.R_drewN | apply Kd.R_drew)); exact HO_215000.out) hb); have BK4 := Aside0.mk hbox; have GW4 := Aside0.mk ((by rw [hg]; exact (below_size (by repeat (first | (with_reducible first | exact HB.out | apply below_alloc | apply pw_below_drewN | apply below_drew1 | refine below_set ?_ GE2.out | refine below_set ?_ GE3.out) | exact HB.out))) : w.heap.size ≤ gb4)); have GE4 := GW4; replace HB := Aside0.mk (below_step (by repeat (first | (with_reducible first | exact HB.out | apply below_alloc | apply pw_below_drewN | apply below_drew1 | refine below_set ?_ GE2.out | refine below_set ?_ GE3.out) | exact HB.out)) hb); have NB2_4 := mNe BK2 hg; have NB4_2 := mSy NB2_4; replace BK2 := mBb BK2 hb; have NB3_4 := mNe BK3 hg; have NB4_3 := mSy NB3_4; replace BK3 := mBb BK3 hb
      clear hb hbox hg
      refine hK.out _ _ ⟨blk_cell BK2.out 0, blk_cell BK3.out 0⟩ (fun hHeld => ?_)
      clear hK K
      refine norm_ (a' := ?_) ?_ ?_
      rotate_left
      ·
       show Act.put _ (some 11) _ = _
       simp only [Act.put, List.setIfInBounds_toArray, List.set_cons_zero, List.set_cons_succ, i64_w, i32_w]
       rfl
      exact norm_ (by simp only [putAll, Act.put, List.setIfInBounds_toArray, List.set_cons_zero, List.set_cons_succ] <;> rfl) (hJ6 (gb4) _ ⟨hHeld, (by (with_reducible repeat (first | apply Kd.R_alloc | apply Kd.R_drewN | apply Kd.R_drew)); exact HO_215000.out), (by (with_reducible repeat (first | apply Kd.R_alloc | apply Kd.R_drewN | apply Kd.R_drew)); exact HO_37.out), (by (with_reducible repeat (first | apply Kd.R_alloc | apply Kd.R_drewN | apply Kd.R_drew)); exact HO_8.out), BK2.out, BK3.out, BK4.out, GW4.out, GE4.out, NB2_4.out, NB4_2.out, NB3_4.out, NB4_3.out, (by repeat (first | (with_reducible first | exact HB.out | apply below_alloc | apply pw_below_drewN | apply below_drew1 | refine below_set ?_ GE2.out | refine below_set ?_ GE3.out | refine below_set ?_ GE4.out) | exact HB.out))⟩)
     ·
      skip
      refine box_step ?hg (N := 12) ?hd (cs := #[.slice none 0 0]) (t := 38) ?hr ?_; (case hd => rfl); (case hg => rfl); (case hr => first | (go_simp; done) | (go_simp; rfl))
      intro gb5 hg w40 hbox hb
      replace HO_8 := Aside0.mk (Kd.R_below (by (with_reducible repeat (first | apply Kd.R_alloc | apply Kd.R_drewN | apply Kd.R_drew)); exact HO_8.out) hb); replace HO_37 := Aside0.mk (Kd.R_below (by (with_reducible repeat (first | apply Kd.R_alloc | apply Kd.R_drewN | apply Kd.R_drew)); exact HO_37.out) hb); replace HO_215000 := Aside0.mk (Kd.R_below (by (with_reducible repeat (first | apply Kd.R_alloc | apply Kd.R_drewN | apply Kd.R_drew)); exact HO_215000.out) hb); have BK5 := Aside0.mk hbox; have GW5 := Aside0.mk ((by rw [hg]; exact (below_size (by repeat (first | (with_reducible first | exact HB.out | apply below_alloc | apply pw_below_drewN | apply below_drew1 | refine below_set ?_ GE2.out | refine below_set ?_ GE3.out) | exact HB.out))) : w.heap.size ≤ gb5)); have GE5 := GW5; replace HB := Aside0.mk (below_step (by repeat (first | (with_reducible first | exact HB.out | apply below_alloc | apply pw_below_drewN | apply below_drew1 | refine below_set ?_ GE2.out | refine below_set ?_ GE3.out) | exact HB.out)) hb); have NB2_5 := mNe BK2 hg; have NB5_2 := mSy NB2_5; replace BK2 := mBb BK2 hb; have NB3_5 := mNe BK3 hg; have NB5_3 := mSy NB3_5; replace BK3 := mBb BK3 hb
      clear hb hbox hg
      refine hK.out _ _ ⟨blk_cell BK2.out 0, blk_cell BK3.out 0⟩ (fun hHeld => ?_)
      clear hK K
      refine norm_ (a' := ?_) ?_ ?_
      rotate_left
      ·
       show Act.put _ (some 12) _ = _
       simp only [Act.put, List.setIfInBounds_toArray, List.set_cons_zero, List.set_cons_succ, i64_w, i32_w]
       rfl
      exact norm_ (by simp only [putAll, Act.put, List.setIfInBounds_toArray, List.set_cons_zero, List.set_cons_succ] <;> rfl) (hJ7 (gb5) _ ⟨hHeld, (by (with_reducible repeat (first | apply Kd.R_alloc | apply Kd.R_drewN | apply Kd.R_drew)); exact HO_215000.out), (by (with_reducible repeat (first | apply Kd.R_alloc | apply Kd.R_drewN | apply Kd.R_drew)); exact HO_37.out), (by (with_reducible repeat (first | apply Kd.R_alloc | apply Kd.R_drewN | apply Kd.R_drew)); exact HO_8.out), BK2.out, BK3.out, BK5.out, GW5.out, GE5.out, NB2_5.out, NB5_2.out, NB3_5.out, NB5_3.out, (by repeat (first | (with_reducible first | exact HB.out | apply below_alloc | apply pw_below_drewN | apply below_drew1 | refine below_set ?_ GE2.out | refine below_set ?_ GE3.out | refine below_set ?_ GE5.out) | exact HB.out))⟩)
    skip
    rintro gb5 w41 ⟨hS_, h0_, h1_, h2_, h3_, h4_, h5_, h6_, h7_, h8_, h9_, h10_, h11_, h12_⟩
    have n0_ := Aside0.mk h0_
    have n1_ := Aside0.mk h1_
    have n2_ := Aside0.mk h2_
    have n3_ := Aside0.mk h3_
    have n4_ := Aside0.mk h4_
    have n5_ := Aside0.mk h5_
    have n6_ := Aside0.mk h6_
    have n7_ := Aside0.mk h7_
    have n8_ := Aside0.mk h8_
    have n9_ := Aside0.mk h9_
    have n10_ := Aside0.mk h10_
    have n11_ := Aside0.mk h11_
    have n12_ := Aside0.mk h12_
    clear HO_8; clear HO_37; clear HO_215000; clear BK2; clear BK3; clear HB
    clear h0_ h1_ h2_ h3_ h4_ h5_ h6_ h7_ h8_ h9_ h10_ h11_ h12_
    have HO_215000 := n0_
    have HO_37 := n1_
    have HO_8 := n2_
    have BK2 := n3_
    have BK3 := n4_
    have BK5 := n5_
    have GW5 := n6_
    have GE5 := n7_
    have NB2_5 := n8_
    have NB5_2 := n9_
    have NB3_5 := n10_
    have NB5_3 := n11_
    have HB := n12_
    clear n0_ n1_ n2_ n3_ n4_ n5_ n6_ n7_ n8_ n9_ n10_ n11_ n12_
    have hHeld : w41.cell? ⟨gb2, 0, none⟩ = some (.slice A0 l0.length c0) ∧ w41.cell? ⟨gb3, 0, none⟩ = some (.slice Ao19 t210.length co19) := hS_
    refine norm_ (a' := ?_) ?_ ?_
    rotate_left
    ·
     simp only [putAll, Act.put, List.setIfInBounds_toArray, List.set_cons_zero, List.set_cons_succ]
     rfl
    refine three_ (i := 2) (j := 5) (k := 6) (Ni := some 51) (Nj := some 54) (Nk := some 11) #[true, true, true, true, true, false, false, true, false, false] #[true, true, false, true, true, true, false, true, false, false] #[true, true, false, true, true, false, true, true, false, false] rfl rfl rfl rfl rfl rfl (three_of HT_.out (by kernel_rfl)) (by decide) (by decide) (by decide) (fun K hK => ?_) (fun K hK => ?_) (fun K hK => ?_)
    ·
     skip
     refine Kd.R_make_step Kd.bool _ 4 (by rfl) (N := 51) rfl 38 _ _ rfl (l0.length : Int) rfl rfl Try.underlying38 (.bool false) 1 info4 rfl (by decide) (by omega) false (ok := fun _ => True) (okp := fun _ => True) rfl (fun _ hk => hk) trivial (of_decide_eq_true (by first | (with_reducible assumption) | assumption)) (Nat.le_trans (Nat.mul_le_mul_right _ (of_decide_eq_true (by first | (with_reducible assumption) | assumption) : (l0.length : Int).toNat ≤ 281474976710656)) (by omega)) (Below.refl _ _) (Nat.le_refl _) ?_
     intro v221 w42 ho43 hb hg_ hnew_
     clear hg_ hnew_
     (first | rw [← Ny220.out] at ho43 | (simp only [Int.reduceToNat] at ho43; rw [← Ny220.out] at ho43))
     replace HO_37 := Aside0.mk (Kd.R_below (by (with_reducible repeat (first | apply Kd.R_alloc | apply Kd.R_drewN | apply Kd.R_drew)); exact HO_37.out) hb); replace HO_215000 := Aside0.mk (Kd.R_below (by (with_reducible repeat (first | apply Kd.R_alloc | apply Kd.R_drewN | apply Kd.R_drew)); exact HO_215000.out) hb); have HO222 := Aside0.mk (Kd.R_lower (Kd.R_new' ho43 (Kd.R_lt (by (with_reducible repeat (first | apply Kd.R_alloc | apply Kd.R_drewN | apply Kd.R_drew)); exact HO_8.out))) (below_size (by repeat (first | (with_reducible first | exact HB.out | apply below_alloc | apply pw_below_drewN | apply below_drew1 | refine below_set ?_ GE2.out | refine below_set ?_ GE3.out | refine below_set ?_ GE5.out) | exact HB.out)))); replace HO_8 := Aside0.mk (Kd.R_elder' (by (with_reducible repeat (first | apply Kd.R_alloc | apply Kd.R_drewN | apply Kd.R_drew)); exact HO_8.out) (Kd.R_base ho43) hb); replace BK2 := mBb BK2 hb; replace BK3 := mBb BK3 hb; replace BK5 := mBb BK5 hb; replace HB := Aside0.mk (below_step (by repeat (first | (with_reducible first | exact HB.out | apply below_alloc | apply pw_below_drewN | apply below_drew1 | refine below_set ?_ GE2.out | refine below_set ?_ GE3.out | refine below_set ?_ GE5.out) | exact HB.out)) hb)
     clear hb ho43
     refine hK.out _ _ ⟨blk_cell BK2.out 0, blk_cell BK3.out 0⟩ (fun hHeld => ?_)
     clear hK K
     refine norm_ (a' := ?_) ?_ ?_
     rotate_left
     ·
      show Act.put _ (some 51) _ = _
      simp only [Act.put, List.setIfInBounds_toArray, List.set_cons_zero, List.set_cons_succ, i64_w, i32_w]
      rfl
     exact norm_ (by simp only [putAll, Act.put, List.setIfInBounds_toArray, List.set_cons_zero, List.set_cons_succ] <;> rfl) (hJ2_7 (v221, gb5) _ ⟨hHeld, (by (with_reducible repeat (first | apply Kd.R_alloc | apply Kd.R_drewN | apply Kd.R_drew)); exact Kd.R_mono HO222.out (fun _ hk => hk.2)), (by (with_reducible repeat (first | apply Kd.R_alloc | apply Kd.R_drewN | apply Kd.R_drew)); exact HO_215000.out), (by (with_reducible repeat (first | apply Kd.R_alloc | apply Kd.R_drewN | apply Kd.R_drew)); exact HO_37.out), (by (with_reducible repeat (first | apply Kd.R_alloc | apply Kd.R_drewN | apply Kd.R_drew)); exact Kd.R_mono HO_8.out (fun _ hk => hk.2)), BK2.out, BK3.out, BK5.out, GW5.out, GE5.out, NB2_5.out, NB5_2.out, NB3_5.out, NB5_3.out, (by repeat (first | (with_reducible first | exact HB.out | apply below_alloc | apply pw_below_drewN | apply below_drew1 | refine below_set ?_ GE2.out | refine below_set ?_ GE3.out | refine below_set ?_ GE5.out) | exact HB.out))⟩)
    ·
     skip
     refine Kd.R_make_step Kd.bool _ 4 (by rfl) (N := 54) rfl 38 _ _ rfl (t210.length : Int) rfl rfl Try.underlying38 (.bool false) 1 info4 rfl (by decide) (by omega) false (ok := fun _ => True) (okp := fun _ => True) rfl (fun _ hk => hk) trivial (of_decide_eq_true (by first | (with_reducible assumption) | assumption)) (Nat.le_trans (Nat.mul_le_mul_right _ (of_decide_eq_true (by first | (with_reducible assumption) | assumption) : (t210.length : Int).toNat ≤ 281474976710656)) (by omega)) (Below.refl _ _) (Nat.le_refl _) ?_
     intro v224 w42 ho43 hb hg_ hnew_
     clear hg_ hnew_
     (first | rw [← Ny223.out] at ho43 | (simp only [Int.reduceToNat] at ho43; rw [← Ny223.out] at ho43))
     replace HO_37 := Aside0.mk (Kd.R_below (by (with_reducible repeat (first | apply Kd.R_alloc | apply Kd.R_drewN | apply Kd.R_drew)); exact HO_37.out) hb); replace HO_215000 := Aside0.mk (Kd.R_below (by (with_reducible repeat (first | apply Kd.R_alloc | apply Kd.R_drewN | apply Kd.R_drew)); exact HO_215000.out) hb); have HO225 := Aside0.mk (Kd.R_lower (Kd.R_new' ho43 (Kd.R_lt (by (with_reducible repeat (first | apply Kd.R_alloc | apply Kd.R_drewN | apply Kd.R_drew)); exact HO_8.out))) (below_size (by repeat (first | (with_reducible first | exact HB.out | apply below_alloc | apply pw_below_drewN | apply below_drew1 | refine below_set ?_ GE2.out | refine below_set ?_ GE3.out | refine below_set ?_ GE5.out) | exact HB.out)))); replace HO_8 := Aside0.mk (Kd.R_elder' (by (with_reducible repeat (first | apply Kd.R_alloc | apply Kd.R_drewN | apply Kd.R_drew)); exact HO_8.out) (Kd.R_base ho43) hb); replace BK2 := mBb BK2 hb; replace BK3 := mBb BK3 hb; replace BK5 := mBb BK5 hb; replace HB := Aside0.mk (below_step (by repeat (first | (with_reducible first | exact HB.out | apply below_alloc | apply pw_below_drewN | apply below_drew1 | refine below_set ?_ GE2.out | refine below_set ?_ GE3.out | refine below_set ?_ GE5.out) | exact HB.out)) hb)
     clear hb ho43
     refine hK.out _ _ ⟨blk_cell BK2.out 0, blk_cell BK3.out 0⟩ (fun hHeld => ?_)
     clear hK K
     refine norm_ (a' := ?_) ?_ ?_
     rotate_left
     ·
      show Act.put _ (some 54) _ = _
      simp only [Act.put, List.setIfInBounds_toArray, List.set_cons_zero, List.set_cons_succ, i64_w, i32_w]
      rfl
     exact norm_ (by simp only [putAll, Act.put, List.setIfInBounds_toArray, List.set_cons_zero, List.set_cons_succ] <;> rfl) (hJ5_7 (v224, gb5) _ ⟨hHeld, (by (with_reducible repeat (first | apply Kd.R_alloc | apply Kd.R_drewN | apply Kd.R_drew)); exact Kd.R_mono HO225.out (fun _ hk => hk.2)), (by (with_reducible repeat (first | apply Kd.R_alloc | apply Kd.R_drewN | apply Kd.R_drew)); exact HO_215000.out), (by (with_reducible repeat (first | apply Kd.R_alloc | apply Kd.R_drewN | apply Kd.R_drew)); exact HO_37.out), (by (with_reducible repeat (first | apply Kd.R_alloc | apply Kd.R_drewN | apply Kd.R_drew)); exact Kd.R_mono HO_8.out (fun _ hk => hk.2)), BK2.out, BK3.out, BK5.out, GW5.out, GE5.out, NB2_5.out, NB5_2.out, NB3_5.out, NB5_3.out, (by repeat (first | (with_reducible first | exact HB.out | apply below_alloc | apply pw_below_drewN | apply below_drew1 | refine below_set ?_ GE2.out | refine below_set ?_ GE3.out | refine below_set ?_ GE5.out) | exact HB.out))⟩)
    ·
     skip
     refine box_step ?hg (N := 11) ?hd (cs := #[.slice none 0 0]) (t := 38) ?hr ?_; (case hd => rfl); (case hg => rfl); (case hr => first | (go_simp; done) | (go_simp; rfl))
     intro gb4 hg w42 hbox hb
     replace HO_8 := Aside0.mk (Kd.R_below (by (with_reducible repeat (first | apply Kd.R_alloc | apply Kd.R_drewN | apply Kd.R_drew)); exact HO_8.out) hb); replace HO_37 := Aside0.mk (Kd.R_below (by (with_reducible repeat (first | apply Kd.R_alloc | apply Kd.R_drewN | apply Kd.R_drew)); exact HO_37.out) hb); replace HO_215000 := Aside0.mk (Kd.R_below (by (with_reducible repeat (first | apply Kd.R_alloc | apply Kd.R_drewN | apply Kd.R_drew)); exact HO_215000.out) hb); have BK4 := Aside0.mk hbox; have GW4 := Aside0.mk ((by rw [hg]; exact (below_size (by repeat (first | (with_reducible first | exact HB.out | apply below_alloc | apply pw_below_drewN | apply below_drew1 | refine below_set ?_ GE2.out | refine below_set ?_ GE3.out | refine below_set ?_ GE5.out) | exact HB.out))) : w.heap.size ≤ gb4)); have GE4 := GW4; replace HB := Aside0.mk (below_step (by repeat (first | (with_reducible first | exact HB.out | apply below_alloc | apply pw_below_drewN | apply below_drew1 | refine below_set ?_ GE2.out | refine below_set ?_ GE3.out | refine below_set ?_ GE5.out) | exact HB.out)) hb); have NB2_4 := mNe BK2 hg; have NB4_2 := mSy NB2_4; replace BK2 := mBb BK2 hb; have NB3_4 := mNe BK3 hg; have NB4_3 := mSy NB3_4; replace BK3 := mBb BK3 hb; have NB5_4 := mNe BK5 hg; have NB4_5 := mSy NB5_4; replace BK5 := mBb BK5 hb
     clear hb hbox hg
     refine hK.out _ _ ⟨blk_cell BK2.out 0, blk_cell BK3.out 0⟩ (fun hHeld => ?_)
     clear hK K
     refine norm_ (a' := ?_) ?_ ?_
     rotate_left
     ·
      show Act.put _ (some 11) _ = _
      simp only [Act.put, List.setIfInBounds_toArray, List.set_cons_zero, List.set_cons_succ, i64_w, i32_w]
      rfl
     exact norm_ (by simp only [putAll, Act.put, List.setIfInBounds_toArray, List.set_cons_zero, List.set_cons_succ] <;> rfl) (hJ6_7 (gb4, gb5) _ ⟨hHeld, (by (with_reducible repeat (first | apply Kd.R_alloc | apply Kd.R_drewN | apply Kd.R_drew)); exact HO_215000.out), (by (with_reducible repeat (first | apply Kd.R_alloc | apply Kd.R_drewN | apply Kd.R_drew)); exact HO_37.out), (by (with_reducible repeat (first | apply Kd.R_alloc | apply Kd.R_drewN | apply Kd.R_drew)); exact HO_8.out), BK2.out, BK3.out, BK4.out, BK5.out, GW4.out, GE4.out, NB2_4.out, NB4_2.out, NB3_4.out, NB4_3.out, NB5_4.out, NB4_5.out, GW5.out, GE5.out, NB2_5.out, NB5_2.out, NB3_5.out, NB5_3.out, (by repeat (first | (with_reducible first | exact HB.out | apply below_alloc | apply pw_below_drewN | apply below_drew1 | refine below_set ?_ GE2.out | refine below_set ?_ GE3.out | refine below_set ?_ GE5.out | refine below_set ?_ GE4.out) | exact HB.out))⟩)
   rintro ⟨v221, v224, gb4, gb5⟩ w48 ⟨hS_, h0_, h1_, h2_, h3_, h4_, h5_, h6_, h7_, h8_, h9_, h10_, h11_, h12_, h13_, h14_, h15_, h16_, h17_, h18_, h19_, h20_, h21_, h22_, h23_⟩
   try dsimp only at h0_ h1_ h2_ h3_ h4_ h5_ h6_ h7_ h8_ h9_ h10_ h11_ h12_ h13_ h14_ h15_ h16_ h17_ h18_ h19_ h20_ h21_ h22_ h23_
   have n0_ := Aside0.mk h0_
   have n1_ := Aside0.mk h1_
   have n2_ := Aside0.mk h2_
   have n3_ := Aside0.mk h3_
   have n4_ := Aside0.mk h4_
   have n5_ := Aside0.mk h5_
   have n6_ := Aside0.mk h6_
   have n7_ := Aside0.mk h7_
   have n8_ := Aside0.mk h8_
   have n9_ := Aside0.mk h9_
   have n10_ := Aside0.mk h10_
   have n11_ := Aside0.mk h11_
   have n12_ := Aside0.mk h12_
   have n13_ := Aside0.mk h13_
   have n14_ := Aside0.mk h14_
   have n15_ := Aside0.mk h15_
   have n16_ := Aside0.mk h16_
   have n17_ := Aside0.mk h17_
   have n18_ := Aside0.mk h18_
   have n19_ := Aside0.mk h19_
   have n20_ := Aside0.mk h20_
   have n21_ := Aside0.mk h21_
   have n22_ := Aside0.mk h22_
   have n23_ := Aside0.mk h23_
   clear HO_8; clear HO_37; clear HO_215000; clear BK2; clear BK3; clear HB
   clear h0_ h1_ h2_ h3_ h4_ h5_ h6_ h7_ h8_ h9_ h10_ h11_ h12_ h13_ h14_ h15_ h16_ h17_ h18_ h19_ h20_ h21_ h22_ h23_
   have HO222 := n0_
   have HO225 := n1_
   have HO_215000 := n2_
   have HO_37 := n3_
   have HO_8 := n4_
   have BK2 := n5_
   have BK3 := n6_
   have BK4 := n7_
   have BK5 := n8_
   have GW4 := n9_
   have GE4 := n10_
   have NB2_4 := n11_
   have NB4_2 := n12_
   have NB3_4 := n13_
   have NB4_3 := n14_
   have NB5_4 := n15_
   have NB4_5 := n16_
   have GW5 := n17_
   have GE5 := n18_
   have NB2_5 := n19_
   have NB5_2 := n20_
   have NB3_5 := n21_
   have NB5_3 := n22_
   have HB := n23_
   clear n0_ n1_ n2_ n3_ n4_ n5_ n6_ n7_ n8_ n9_ n10_ n11_ n12_ n13_ n14_ n15_ n16_ n17_ n18_ n19_ n20_ n21_ n22_ n23_
   have hHeld : w48.cell? ⟨gb2, 0, none⟩ = some (.slice A0 l0.length c0) ∧ w48.cell? ⟨gb3, 0, none⟩ = some (.slice Ao19 t210.length co19) := hS_
   obtain ⟨Ao49, co49, eo49⟩ := Kd.R_slice HO225.out
   (first | subst eo49 | (injection eo49 with f1_ f2_ f3_; have f4_ := f1_.symm; have f5_ := f3_.symm; clear f1_ f2_ f3_; subst f4_; subst f5_))
   refine norm_ (a' := ?_) ?_ ?_
   rotate_left
   ·
    simp only [putAll, Act.put, List.setIfInBounds_toArray, List.set_cons_zero, List.set_cons_succ]
    rfl
   refine one_ (i := 9) (N := none) #[true, true, true, true, true, true, true, true, true, true] rfl rfl (one_of HT_.out (by kernel_rfl)) (by decide) (fun K hK => ?_)
   have hs50 : w48.cell? ⟨gb5, 0, none⟩ = some (.slice none 0 0) := (blk_cell BK5.out 0).trans rfl
   have hfs50 := blk_frozen BK5.out 0
   have hns50_0 := NB2_5.out
   have hns50_1 := NB3_5.out
   have hns50_2 := NB4_5.out
   have hms50_0 := NB5_2.out
   have hms50_1 := NB5_3.out
   have hms50_2 := NB5_4.out
   refine skip_ (w1 := ?_) (by rfl) rfl ?_ ?_
   rotate_left
   ·
    go_simp
    rfl
   refine hK.out _ _ ⟨((cell_far (p := ⟨gb5, _, none⟩) NB2_5.out _).trans (hHeld.1)), ((cell_far (p := ⟨gb5, _, none⟩) NB3_5.out _).trans (hHeld.2))⟩ (fun hHeld => ?_)
   clear hK K
   refine done_ (done_of HT_.out (by kernel_rfl)) ?_
   try go_wp2_with (first | ((with_reducible refine gate_dst (N := 13) rfl ?_); refine box_event ?hg (N := 13) ?hd (cs := #[.nilFunc]) (t := 45) ?hr ?_; (case hd => rfl); (case hg => rfl); (case hr => first | (go_simp; done) | (go_simp; rfl)); intro gb6 hg w51 hbox hb; replace HO_8 := Aside0.mk (Kd.R_below (by (with_reducible repeat (first | apply Kd.R_alloc | apply Kd.R_drewN | apply Kd.R_drew)); exact (Kd.R_mono (Kd.R_far (p := ⟨gb5, 0, none⟩) (Kd.R_types HO_8.out BK5.out (by decide)) (fun _ hk => hk.2) (.slice Ao49 y223.length co49)) (fun _ h_ => h_.1))) hb); replace HO_37 := Aside0.mk (Kd.R_below (by (with_reducible repeat (first | apply Kd.R_alloc | apply Kd.R_drewN | apply Kd.R_drew)); exact (Kd.R_mono (Kd.R_far (p := ⟨gb5, 0, none⟩) (Kd.R_types HO_37.out BK5.out (by decide)) (fun _ hk => hk.2) (.slice Ao49 y223.length co49)) (fun _ h_ => h_.1))) hb); replace HO_215000 := Aside0.mk (Kd.R_below (by (with_reducible repeat (first | apply Kd.R_alloc | apply Kd.R_drewN | apply Kd.R_drew)); exact (Kd.R_mono (Kd.R_far (p := ⟨gb5, 0, none⟩) (Kd.R_types HO_215000.out BK5.out (by decide)) (fun _ hk => hk.2) (.slice Ao49 y223.length co49)) (fun _ h_ => h_.1))) hb); replace HO222 := Aside0.mk (Kd.R_below (by (with_reducible repeat (first | apply Kd.R_alloc | apply Kd.R_drewN | apply Kd.R_drew)); exact (Kd.R_mono (Kd.R_far (p := ⟨gb5, 0, none⟩) (Kd.R_types HO222.out BK5.out (by decide)) (fun _ hk => hk.2) (.slice Ao49 y223.length co49)) (fun _ h_ => h_.1))) hb); replace HO225 := Aside0.mk (Kd.R_below (by (with_reducible repeat (first | apply Kd.R_alloc | apply Kd.R_drewN | apply Kd.R_drew)); exact (Kd.R_mono (Kd.R_far (p := ⟨gb5, 0, none⟩) (Kd.R_types HO225.out BK5.out (by decide)) (fun _ hk => hk.2) (.slice Ao49 y223.length co49)) (fun _ h_ => h_.1))) hb); have BK6 := Aside0.mk hbox; have GW6 := Aside0.mk ((by rw [hg]; exact (below_size (by repeat (first | (with_reducible first | exact HB.out | apply below_alloc | apply pw_below_drewN | apply below_drew1 | refine below_set ?_ GE2.out | refine below_set ?_ GE3.out | refine below_set ?_ GE4.out | refine below_set ?_ GE5.out) | exact HB.out))) : w.heap.size ≤ gb6)); have GE6 := GW6; replace HB := Aside0.mk (below_step (by repeat (first | (with_reducible first | exact HB.out | apply below_alloc | apply pw_below_drewN | apply below_drew1 | refine below_set ?_ GE2.out | refine below_set ?_ GE3.out | refine below_set ?_ GE4.out | refine below_set ?_ GE5.out) | exact HB.out)) hb); have NB2_6 := Aside0.mk ((by rw [hg]; exact Nat.ne_of_lt (blk_lt (g := gb2) (o := .cells #[.slice A0 l0.length c0] 22 (0, 0)) (by (with_reducible repeat (first | refine blk_drewN ?_ _ | refine blk_drew ?_ | refine blk_alloc ?_ _)); refine blk_far ?_ NB2_5.out _; (with_reducible repeat (first | refine blk_drewN ?_ _ | refine blk_drew ?_ | refine blk_alloc ?_ _)); exact BK2.out)) : gb2 ≠ gb6)); have NB6_2 := mSy NB2_6; replace BK2 := Aside0.mk (blk_below (g := gb2) (o := .cells #[.slice A0 l0.length c0] 22 (0, 0)) (by (with_reducible repeat (first | refine blk_drewN ?_ _ | refine blk_drew ?_ | refine blk_alloc ?_ _)); refine blk_far ?_ NB2_5.out _; (with_reducible repeat (first | refine blk_drewN ?_ _ | refine blk_drew ?_ | refine blk_alloc ?_ _)); exact BK2.out) hb); have NB3_6 := Aside0.mk ((by rw [hg]; exact Nat.ne_of_lt (blk_lt (g := gb3) (o := .cells #[.slice Ao19 t210.length co19] 29 (0, 0)) (by (with_reducible repeat (first | refine blk_drewN ?_ _ | refine blk_drew ?_ | refine blk_alloc ?_ _)); refine blk_far ?_ NB3_5.out _; (with_reducible repeat (first | refine blk_drewN ?_ _ | refine blk_drew ?_ | refine blk_alloc ?_ _)); exact BK3.out)) : gb3 ≠ gb6)); have NB6_3 := mSy NB3_6; replace BK3 := Aside0.mk (blk_below (g := gb3) (o := .cells #[.slice Ao19 t210.length co19] 29 (0, 0)) (by (with_reducible repeat (first | refine blk_drewN ?_ _ | refine blk_drew ?_ | refine blk_alloc ?_ _)); refine blk_far ?_ NB3_5.out _; (with_reducible repeat (first | refine blk_drewN ?_ _ | refine blk_drew ?_ | refine blk_alloc ?_ _)); exact BK3.out) hb); have NB4_6 := Aside0.mk ((by rw [hg]; exact Nat.ne_of_lt (blk_lt (g := gb4) (o := .cells #[v221] 38 (0, 0)) (by (with_reducible repeat (first | refine blk_drewN ?_ _ | refine blk_drew ?_ | refine blk_alloc ?_ _)); refine blk_far ?_ NB4_5.out _; (with_reducible repeat (first | refine blk_drewN ?_ _ | refine blk_drew ?_ | refine blk_alloc ?_ _)); exact BK4.out)) : gb4 ≠ gb6)); have NB6_4 := mSy NB4_6; replace BK4 := Aside0.mk (blk_below (g := gb4) (o := .cells #[v221] 38 (0, 0)) (by (with_reducible repeat (first | refine blk_drewN ?_ _ | refine blk_drew ?_ | refine blk_alloc ?_ _)); refine blk_far ?_ NB4_5.out _; (with_reducible repeat (first | refine blk_drewN ?_ _ | refine blk_drew ?_ | refine blk_alloc ?_ _)); exact BK4.out) hb); have NB5_6 := Aside0.mk ((by rw [hg]; exact Nat.ne_of_lt (blk_lt (g := gb5) (o := .cells #[.slice Ao49 y223.length co49] 38 (0, 0)) (by (with_reducible repeat (first | refine blk_drewN ?_ _ | refine blk_drew ?_ | refine blk_alloc ?_ _)); refine blk_put (cs := #[.slice none 0 0]) ?_ 0 _ rfl; (with_reducible repeat (first | refine blk_drewN ?_ _ | refine blk_drew ?_ | refine blk_alloc ?_ _)); exact BK5.out)) : gb5 ≠ gb6)); have NB6_5 := mSy NB5_6; replace BK5 := Aside0.mk (blk_below (g := gb5) (o := .cells #[.slice Ao49 y223.length co49] 38 (0, 0)) (by (with_reducible repeat (first | refine blk_drewN ?_ _ | refine blk_drew ?_ | refine blk_alloc ?_ _)); refine blk_put (cs := #[.slice none 0 0]) ?_ 0 _ rfl; (with_reducible repeat (first | refine blk_drewN ?_ _ | refine blk_drew ?_ | refine blk_alloc ?_ _)); exact BK5.out) hb); clear hb hbox hg; have hnb52 := NB6_2.out; have hnc52 := NB2_6.out; have hnb53 := NB6_3.out; have hnc53 := NB3_6.out; have hnb54 := NB6_4.out; have hnc54 := NB4_6.out; have hnb55 := NB6_5.out; have hnc55 := NB5_6.out; have hcz56 := blk_cell BK6.out; have hfz56 := blk_frozen BK6.out; have hnb57 := NB2_3.out; have hnc57 := NB3_2.out; have hnb58 := NB2_4.out; have hnc58 := NB4_2.out; have hnb59 := NB2_5.out; have hnc59 := NB5_2.out; have hcz60 := blk_cell BK2.out; have hfz60 := blk_frozen BK2.out))
   go_loopg [58] k1 (fun kq v58 w' => ∃ (x8_2 : List Bool) (x58_2 : Int) (x227000_2 : List Bool) (x228000_2 : List Bool) (u227000 : Value) (u228000 : Value), v58 = .int .i64 x58_2 ∧ Aside0 (match_Cover.l1 kq x8_2 (l0.length : Int) x58_2 l0 t210 x227000_2 x228000_2 = some (r1, r2, r3)) ∧ Aside0 (kq ≤ k1) ∧ Aside0 (Kd.R Kd.bool 4 w' w.heap.size (fun k_ => some k_ ≠ (u227000 : Value).ownBlock ∧ some k_ ≠ (u228000 : Value).ownBlock) v216 x8_2) ∧ Aside0 (Kd.R (Kd.int .i64) 3 w' w.heap.size (fun _ => True) (.slice Ao19 t210.length co19) t210) ∧ Aside0 (Kd.R Kd.bool 4 w' w.heap.size (fun k_ => some k_ ≠ (v216 : Value).ownBlock ∧ some k_ ≠ (u228000 : Value).ownBlock) u227000 x227000_2) ∧ Aside0 (Kd.R Kd.bool 4 w' w.heap.size (fun k_ => some k_ ≠ (v216 : Value).ownBlock ∧ some k_ ≠ (u227000 : Value).ownBlock) u228000 x228000_2) ∧ Aside0 (w'.heap[gb2]? = some (.cells #[(.slice A0 l0.length c0)] 22 (0, 0))) ∧ Aside0 (w'.heap[gb3]? = some (.cells #[(.slice Ao19 t210.length co19)] 29 (0, 0))) ∧ Aside0 (w'.heap[gb4]? = some (.cells #[u227000] 38 (0, 0))) ∧ Aside0 (w'.heap[gb5]? = some (.cells #[u228000] 38 (0, 0))) ∧ Aside0 (w'.heap[gb6]? = some (.cells #[.func (.func 30) #[] #[.pointer (some ⟨gb4, 0, none⟩), .pointer (some ⟨gb2, 0, none⟩), .pointer (some ⟨gb5, 0, none⟩), .pointer (some ⟨gb3, 0, none⟩), .pointer (some ⟨gb6, 0, none⟩)]] 45 (0, 0))) ∧ Aside0 (Below w.heap.size w w'))
   case atStart => exact ⟨(x8_1), (0), (y220), (y223), (v221), (.slice Ao49 y223.length co49), (by first | rfl | (simp; done) | (simp [*]; done)), H', ⟨Nat.le_refl _⟩, ⟨by (with_reducible repeat (first | apply Kd.R_alloc | apply Kd.R_drewN | apply Kd.R_drew)); exact Kd.R_mono (Kd.R_far (p := ⟨gb6, 0, none⟩) (Kd.R_types HO_8.out BK6.out (by decide)) (fun _ hk => hk.2) (.func (.func 30) #[] #[.pointer (some ⟨gb4, 0, none⟩), .pointer (some ⟨gb2, 0, none⟩), .pointer (some ⟨gb5, 0, none⟩), .pointer (some ⟨gb3, 0, none⟩), .pointer (some ⟨gb6, 0, none⟩)])) (fun _ hk => ⟨hk.1.1, hk.1.2⟩)⟩, ⟨by (with_reducible repeat (first | apply Kd.R_alloc | apply Kd.R_drewN | apply Kd.R_drew)); exact Kd.R_mono (Kd.R_far (p := ⟨gb6, 0, none⟩) (Kd.R_types HO_215000.out BK6.out (by decide)) (fun _ hk => hk.2) (.func (.func 30) #[] #[.pointer (some ⟨gb4, 0, none⟩), .pointer (some ⟨gb2, 0, none⟩), .pointer (some ⟨gb5, 0, none⟩), .pointer (some ⟨gb3, 0, none⟩), .pointer (some ⟨gb6, 0, none⟩)])) (fun _ hk => trivial)⟩, ⟨by (with_reducible repeat (first | apply Kd.R_alloc | apply Kd.R_drewN | apply Kd.R_drew)); exact Kd.R_mono (Kd.R_far (p := ⟨gb6, 0, none⟩) (Kd.R_types HO222.out BK6.out (by decide)) (fun _ hk => hk.2) (.func (.func 30) #[] #[.pointer (some ⟨gb4, 0, none⟩), .pointer (some ⟨gb2, 0, none⟩), .pointer (some ⟨gb5, 0, none⟩), .pointer (some ⟨gb3, 0, none⟩), .pointer (some ⟨gb6, 0, none⟩)])) (fun _ hk => ⟨hk.1.2, hk.1.1⟩)⟩, ⟨by (with_reducible repeat (first | apply Kd.R_alloc | apply Kd.R_drewN | apply Kd.R_drew)); exact Kd.R_mono (Kd.R_far (p := ⟨gb6, 0, none⟩) (Kd.R_types HO225.out BK6.out (by decide)) (fun _ hk => hk.2) (.func (.func 30) #[] #[.pointer (some ⟨gb4, 0, none⟩), .pointer (some ⟨gb2, 0, none⟩), .pointer (some ⟨gb5, 0, none⟩), .pointer (some ⟨gb3, 0, none⟩), .pointer (some ⟨gb6, 0, none⟩)])) (fun _ hk => ⟨hk.1.2, hk.1.1⟩)⟩, ⟨by (with_reducible repeat (first | refine blk_drewN ?_ _ | refine blk_drew ?_ | refine blk_alloc ?_ _)); refine blk_far ?_ NB2_6.out _; (with_reducible repeat (first | refine blk_drewN ?_ _ | refine blk_drew ?_ | refine blk_alloc ?_ _)); exact BK2.out⟩, ⟨by (with_reducible repeat (first | refine blk_drewN ?_ _ | refine blk_drew ?_ | refine blk_alloc ?_ _)); refine blk_far ?_ NB3_6.out _; (with_reducible repeat (first | refine blk_drewN ?_ _ | refine blk_drew ?_ | refine blk_alloc ?_ _)); exact BK3.out⟩, ⟨by (with_reducible repeat (first | refine blk_drewN ?_ _ | refine blk_drew ?_ | refine blk_alloc ?_ _)); refine blk_far ?_ NB4_6.out _; (with_reducible repeat (first | refine blk_drewN ?_ _ | refine blk_drew ?_ | refine blk_alloc ?_ _)); exact BK4.out⟩, ⟨by (with_reducible repeat (first | refine blk_drewN ?_ _ | refine blk_drew ?_ | refine blk_alloc ?_ _)); refine blk_far ?_ NB5_6.out _; (with_reducible repeat (first | refine blk_drewN ?_ _ | refine blk_drew ?_ | refine blk_alloc ?_ _)); exact BK5.out⟩, ⟨by (with_reducible repeat (first | refine blk_drewN ?_ _ | refine blk_drew ?_ | refine blk_alloc ?_ _)); refine blk_put (cs := #[.nilFunc]) ?_ 0 _ rfl; (with_reducible repeat (first | refine blk_drewN ?_ _ | refine blk_drew ?_ | refine blk_alloc ?_ _)); exact BK6.out⟩, ⟨by repeat (first | (with_reducible first | exact HB.out | apply below_alloc | apply pw_below_drewN | apply below_drew1 | refine below_set ?_ GE2.out | refine below_set ?_ GE3.out | refine below_set ?_ GE4.out | refine below_set ?_ GE5.out | refine below_set ?_ GE6.out) | exact HB.out)⟩⟩
   case round =>
    clear H'
    try clear p2; try clear c5; try clear c52; try clear c53; try clear c54; try clear c55; try clear c57; try clear c58; try clear c59; try clear hcz56_0; try clear hcz60_0; try clear hfz56_0; try clear hfz60_0
    obtain ⟨x8_2, x58_2, x227000_2, x228000_2, u227000, u228000, rfl, HA, HK2, HO_8, HO_215000, HO_227000, HO_228000, BK2, BK3, BK4, BK5, BK6, HB⟩ := hrel
    cases gk with
    | zero => exact absurd HA.out (by simp [match_Cover.l1])
    | succ k2 =>
     have H := HA.out
     clear HA
     simp only [match_Cover.l1] at H
     by_cases c61 : x58_2 < (l0.length : Int)
     ·
      rw [if_pos c61] at H
      have c61b0 : decide (x58_2 < (l0.length : Int)) = true := decide_eq_true c61
      clear c61
      by_cases c62 : 0 ≤ x58_2
      rotate_left
      ·
       rw [if_neg c62] at H
       exact absurd H (by simp)
      rw [if_pos c62] at H
      have c62b0 : decide (0 ≤ x58_2) = true := decide_eq_true c62
      clear c62
      by_cases c63 : x58_2 < (x8_2.length : Int)
      rotate_left
      ·
       rw [if_neg c63] at H
       exact absurd H (by simp)
      rw [if_pos c63] at H
      have c63b0 : decide (x58_2 < (x8_2.length : Int)) = true := decide_eq_true c63
      clear c63
      obtain ⟨bq64, hbq64⟩ : ∃ b_ : Bool, b_ = (rdOf false x8_2 x58_2) := ⟨_, rfl⟩
      replace H : (if bq64 = true then (match_Cover.l1 k2 x8_2 (l0.length : Int) (wrap64 (x58_2 + 1)) l0 t210 x227000_2 x228000_2) else ((match_Cover_fn1.f k2 x58_2 x227000_2 l0 x228000_2 t210).bind fun bt230 => (match_Cover.l1 k2 x8_2 (l0.length : Int) (wrap64 (x58_2 + 1)) l0 t210 bt230.1 bt230.2))) = some (r1, r2, r3) := by rw [← hbq64] at H; exact H
      have Nbq64 := Aside0.mk hbq64
      clear hbq64
      by_cases c65 : bq64 = true
      ·
       subst c65
       rw [if_pos rfl] at H
       have H' := Aside0.mk H
       clear H
       obtain ⟨Ao66, co66, eo66⟩ := Kd.R_slice HO_8.out
       subst eo66
       have p229 : 0 ≤ (x58_2 : Int) := of_decide_eq_true (by first | (with_reducible assumption) | assumption)
       have q229 : x58_2 < (x8_2.length : Int) := of_decide_eq_true (by first | (with_reducible assumption) | assumption)
       obtain ⟨ad229, e229, hx229_0⟩ := Kd.at_bool (Kd.R_reads' HO_8.out).2.2 x58_2 p229 q229
       (try rw [← Nbq64.out] at hx229_0)
       cases e229
       replace p229 := eq_true p229
       replace q229 := eq_true q229
       go_wp2
       go_roundg k2
       case measure => have := HK1.out; have := HK2.out; omega
       case rel => exact ⟨(x8_2), (wrap64 (x58_2 + 1)), (x227000_2), (x228000_2), (u227000), (u228000), (by first | rfl | (simp; done) | (simp [*]; done)), H', ⟨by have := HK1.out; have := HK2.out; omega⟩, ⟨by (with_reducible repeat (first | apply Kd.R_alloc | apply Kd.R_drewN | apply Kd.R_drew)); exact HO_8.out⟩, ⟨by (with_reducible repeat (first | apply Kd.R_alloc | apply Kd.R_drewN | apply Kd.R_drew)); exact HO_215000.out⟩, ⟨by (with_reducible repeat (first | apply Kd.R_alloc | apply Kd.R_drewN | apply Kd.R_drew)); exact HO_227000.out⟩, ⟨by (with_reducible repeat (first | apply Kd.R_alloc | apply Kd.R_drewN | apply Kd.R_drew)); exact HO_228000.out⟩, ⟨BK2.out⟩, ⟨BK3.out⟩, ⟨BK4.out⟩, ⟨BK5.out⟩, ⟨BK6.out⟩, ⟨by repeat (first | (with_reducible first | exact HB.out | apply below_alloc | apply pw_below_drewN | apply below_drew1 | refine below_set ?_ GE2.out | refine below_set ?_ GE3.out | refine below_set ?_ GE4.out | refine below_set ?_ GE5.out | refine below_set ?_ GE6.out) | exact HB.out)⟩⟩
      replace c65 := Bool.eq_false_iff.mpr c65
      subst c65
      rw [if_neg (show ¬ (false = true) by decide)] at H
      replace H := Option.bind_eq_some_iff.mp H
      obtain ⟨⟨t230, t231⟩, A670, H⟩ := H
      try dsimp only at H
      have A67 := Aside0.mk A670
      clear A670
      have H' := Aside0.mk H
      clear H
      obtain ⟨Ao68, co68, eo68⟩ := Kd.R_slice HO_8.out
      subst eo68
      have p229 : 0 ≤ (x58_2 : Int) := of_decide_eq_true (by first | (with_reducible assumption) | assumption)
      have q229 : x58_2 < (x8_2.length : Int) := of_decide_eq_true (by first | (with_reducible assumption) | assumption)
      obtain ⟨ad229, e229, hx229_0⟩ := Kd.at_bool (Kd.R_reads' HO_8.out).2.2 x58_2 p229 q229
      (try rw [← Nbq64.out] at hx229_0)
      cases e229
      replace p229 := eq_true p229
      replace q229 := eq_true q229
      have hnb69 := NB6_2.out
      have hnc69 := NB2_6.out
      have hnb70 := NB6_3.out
      have hnc70 := NB3_6.out
      have hnb71 := NB6_4.out
      have hnc71 := NB4_6.out
      have hnb72 := NB6_5.out
      have hnc72 := NB5_6.out
      have hcz73 := blk_cell BK6.out; have hfz73 := blk_frozen BK6.out
      have hnb74 := NB4_2.out
      have hnc74 := NB2_4.out
      have hnb75 := NB4_3.out
      have hnc75 := NB3_4.out
      have hnb76 := NB4_5.out
      have hnc76 := NB5_4.out
      have hcz77 := blk_cell BK4.out; have hfz77 := blk_frozen BK4.out
      have hnb78 := NB2_3.out
      have hnc78 := NB3_2.out
      have hnb79 := NB2_5.out
      have hnc79 := NB5_2.out
      have hcz80 := blk_cell BK2.out; have hfz80 := blk_frozen BK2.out
      have hnb81 := NB5_3.out
      have hnc81 := NB3_5.out
      have hcz82 := blk_cell BK5.out; have hfz82 := blk_frozen BK5.out; have hcz83 := blk_cell BK3.out; have hfz83 := blk_frozen BK3.out
      obtain ⟨Ao84, co84, eo84⟩ := Kd.R_slice HO_227000.out
      subst eo84
      obtain ⟨Ao85, co85, eo85⟩ := Kd.R_slice HO_228000.out
      subst eo85
      go_wp2_with (first | (go_at_call 30; (with_reducible refine (match_Cover_fn1.calls k2 x58_2 (fun k_ => some k_ = (.slice Ao84 x227000_2.length co84 : Value).ownBlock) (.slice Ao84 x227000_2.length co84) x227000_2 A0 c0 l0 (fun k_ => some k_ = (.slice Ao85 x228000_2.length co85 : Value).ownBlock) (.slice Ao85 x228000_2.length co85) x228000_2 Ao19 co19 t210 t230 t231 w _ ?side1 ?side2 ?side3 ?side4 ?side5 ?side6 ?side7 ?side8 ?side9 gb4 gb2 gb5 gb3 gb6 ?sg1 ?sg2 ?sg3 ?sg4 ?sg5 ?sn1 ?sn2 ?sn3 ?sn4 ?sn5 A67.out).mono ?_); (case sg1 => exact (blk_cell BK4.out 0).trans rfl); (case sg2 => exact (blk_cell BK2.out 0).trans rfl); (case sg3 => exact (blk_cell BK5.out 0).trans rfl); (case sg4 => exact (blk_cell BK3.out 0).trans rfl); (case sg5 => exact (blk_cell BK6.out 0).trans rfl); (case sn1 => exact (fun hs_ => Or.elim hs_ (fun e_ => (fun e_ => (Kd.R_ne HO_227000.out BK4.out (by decide)) e_) e_) (fun e_ => (fun e_ => (Kd.R_ne HO_228000.out BK4.out (by decide)) e_) e_))); (case sn2 => exact (fun hs_ => Or.elim hs_ (fun e_ => (fun e_ => (Kd.R_ne HO_227000.out BK2.out (by decide)) e_) e_) (fun e_ => (fun e_ => (Kd.R_ne HO_228000.out BK2.out (by decide)) e_) e_))); (case sn3 => exact (fun hs_ => Or.elim hs_ (fun e_ => (fun e_ => (Kd.R_ne HO_227000.out BK5.out (by decide)) e_) e_) (fun e_ => (fun e_ => (Kd.R_ne HO_228000.out BK5.out (by decide)) e_) e_))); (case sn4 => exact (fun hs_ => Or.elim hs_ (fun e_ => (fun e_ => (Kd.R_ne HO_227000.out BK3.out (by decide)) e_) e_) (fun e_ => (fun e_ => (Kd.R_ne HO_228000.out BK3.out (by decide)) e_) e_))); (case sn5 => exact (fun hs_ => Or.elim hs_ (fun e_ => (fun e_ => (Kd.R_ne HO_227000.out BK6.out (by decide)) e_) e_) (fun e_ => (fun e_ => (Kd.R_ne HO_228000.out BK6.out (by decide)) e_) e_))); (case side1 => repeat (first | (with_reducible first | exact HB.out | apply below_alloc | apply pw_below_drewN | apply below_drew1 | refine below_set ?_ GE2.out | refine below_set ?_ GE3.out | refine below_set ?_ GE4.out | refine below_set ?_ GE5.out | refine below_set ?_ GE6.out) | exact HB.out)); (case side2 => exact Kd.R_tight rfl HO_227000.out); (case side3 => exact fun k_ e_ => (HO_227000.out.1 k_ e_.symm).2); (case side4 => exact HR0.out); (case side5 => exact HC0.out); (case side6 => exact Kd.R_tight rfl HO_228000.out); (case side7 => exact fun k_ e_ => (HO_228000.out.1 k_ e_.symm).2); (case side8 => exact Kd.C_kept_own ((Kd.R_apart' (Kd.R_apart' HO_215000.out (Kd.R_typed HO_227000.out) (by decide)) (Kd.R_typed HO_228000.out) (by decide))) (fun k_ hk_ hs_ => Or.elim hs_ (fun e_ => (hk_.1.2) e_) (fun e_ => (hk_.2) e_))); (case side9 => exact (Kd.R_reads' HO_215000.out).2.1); rintro e w86 ⟨rfl, hy0, hy1, hb, hkp⟩; replace HO_8 := Aside0.mk (Kd.R_mono (ok' := fun k_ => some k_ ≠ (.slice Ao84 x227000_2.length co84 : Value).ownBlock ∧ some k_ ≠ (.slice Ao85 x228000_2.length co85 : Value).ownBlock) (Kd.R_keptB (HO_8.out) hkp (fun k_ hk_ hs_ => Or.elim hs_ (fun e_ => (hk_.1) e_) (fun e_ => (hk_.2) e_))) (fun k_ hk_ => ⟨hk_.1.1, hk_.1.2⟩)); replace HO_215000 := Aside0.mk (Kd.R_mono (ok' := fun k_ => True) (Kd.R_keptB ((Kd.R_apart' (Kd.R_apart' HO_215000.out (Kd.R_typed HO_227000.out) (by decide)) (Kd.R_typed HO_228000.out) (by decide))) hkp (fun k_ hk_ hs_ => Or.elim hs_ (fun e_ => (hk_.1.2) e_) (fun e_ => (hk_.2) e_))) (fun k_ hk_ => trivial)); replace BK2 := Aside0.mk (blk_kept BK2.out hkp (fun hs_ => Or.elim hs_ (fun e_ => (fun e_ => (Kd.R_ne HO_227000.out BK2.out (by decide)) e_) e_) (fun e_ => (fun e_ => (Kd.R_ne HO_228000.out BK2.out (by decide)) e_) e_))); replace BK3 := Aside0.mk (blk_kept BK3.out hkp (fun hs_ => Or.elim hs_ (fun e_ => (fun e_ => (Kd.R_ne HO_227000.out BK3.out (by decide)) e_) e_) (fun e_ => (fun e_ => (Kd.R_ne HO_228000.out BK3.out (by decide)) e_) e_))); replace BK4 := Aside0.mk (blk_kept BK4.out hkp (fun hs_ => Or.elim hs_ (fun e_ => (fun e_ => (Kd.R_ne HO_227000.out BK4.out (by decide)) e_) e_) (fun e_ => (fun e_ => (Kd.R_ne HO_228000.out BK4.out (by decide)) e_) e_))); replace BK5 := Aside0.mk (blk_kept BK5.out hkp (fun hs_ => Or.elim hs_ (fun e_ => (fun e_ => (Kd.R_ne HO_227000.out BK5.out (by decide)) e_) e_) (fun e_ => (fun e_ => (Kd.R_ne HO_228000.out BK5.out (by decide)) e_) e_))); replace BK6 := Aside0.mk (blk_kept BK6.out hkp (fun hs_ => Or.elim hs_ (fun e_ => (fun e_ => (Kd.R_ne HO_227000.out BK6.out (by decide)) e_) e_) (fun e_ => (fun e_ => (Kd.R_ne HO_228000.out BK6.out (by decide)) e_) e_))); replace HO_227000 := Aside0.mk (Kd.R_reok rfl hy0 (fun k_ e_ => HO_227000.out.1 k_ e_)); replace HO_228000 := Aside0.mk (Kd.R_reok rfl hy1 (fun k_ e_ => HO_228000.out.1 k_ e_)); replace HB := Aside0.mk hb; (try clear hb); (try clear hkp); (try clear hy0); (try clear hy1)))
      go_roundg k2
      case measure => have := HK1.out; have := HK2.out; omega
      case rel => exact ⟨(x8_2), (wrap64 (x58_2 + 1)), (t230), (t231), (.slice Ao84 x227000_2.length co84), (.slice Ao85 x228000_2.length co85), (by first | rfl | (simp; done) | (simp [*]; done)), H', ⟨by have := HK1.out; have := HK2.out; omega⟩, ⟨by (with_reducible repeat (first | apply Kd.R_alloc | apply Kd.R_drewN | apply Kd.R_drew)); exact HO_8.out⟩, ⟨by (with_reducible repeat (first | apply Kd.R_alloc | apply Kd.R_drewN | apply Kd.R_drew)); exact HO_215000.out⟩, ⟨by (with_reducible repeat (first | apply Kd.R_alloc | apply Kd.R_drewN | apply Kd.R_drew)); exact HO_227000.out⟩, ⟨by (with_reducible repeat (first | apply Kd.R_alloc | apply Kd.R_drewN | apply Kd.R_drew)); exact HO_228000.out⟩, ⟨BK2.out⟩, ⟨BK3.out⟩, ⟨BK4.out⟩, ⟨BK5.out⟩, ⟨BK6.out⟩, ⟨by repeat (first | (with_reducible first | exact HB.out | apply below_alloc | apply pw_below_drewN | apply below_drew1 | refine below_set ?_ GE2.out | refine below_set ?_ GE3.out | refine below_set ?_ GE4.out | refine below_set ?_ GE5.out | refine below_set ?_ GE6.out) | exact HB.out)⟩⟩
     rw [if_neg c61] at H
     have c61b0 : decide (x58_2 < (l0.length : Int)) = false := decide_eq_false c61
     clear c61
     have H' := Aside0.mk H
     clear H
     have hnb87 := NB4_2.out
     have hnc87 := NB2_4.out
     have hnb88 := NB4_3.out
     have hnc88 := NB3_4.out
     have hnb89 := NB4_5.out
     have hnc89 := NB5_4.out
     have hnb90 := NB4_6.out
     have hnc90 := NB6_4.out
     have hcz91 := blk_cell BK4.out; have hfz91 := blk_frozen BK4.out
     obtain ⟨Ao92, co92, eo92⟩ := Kd.R_slice HO_227000.out
     subst eo92
     go_wp2
     go_loopg [15, 72] k2 (fun kq v15 v72 w' => ∃ (x15_3 : List Int) (x72_3 : Int), v72 = .int .i64 x72_3 ∧ Aside0 (match_Cover.l2 kq x15_3 x227000_2 (x227000_2.length : Int) x72_3 x228000_2 = some (r1, r2, r3)) ∧ Aside0 (kq ≤ k2) ∧ Aside0 (Kd.R (Kd.int .i64) 3 w' w.heap.size (fun k_ => some k_ ≠ ((.slice Ao19 t210.length co19) : Value).ownBlock) v15 x15_3) ∧ Aside0 (Kd.R Kd.bool 4 w' w.heap.size (fun k_ => some k_ ≠ (u228000 : Value).ownBlock) (.slice Ao92 x227000_2.length co92) x227000_2) ∧ Aside0 (Kd.R (Kd.int .i64) 3 w' w.heap.size (fun k_ => some k_ ≠ (v15 : Value).ownBlock) (.slice Ao19 t210.length co19) t210) ∧ Aside0 (Kd.R Kd.bool 4 w' w.heap.size (fun k_ => some k_ ≠ (u228000 : Value).ownBlock) (.slice Ao92 x227000_2.length co92) x227000_2) ∧ Aside0 (Kd.R Kd.bool 4 w' w.heap.size (fun k_ => some k_ ≠ ((.slice Ao92 x227000_2.length co92) : Value).ownBlock ∧ some k_ ≠ ((.slice Ao92 x227000_2.length co92) : Value).ownBlock) u228000 x228000_2) ∧ Aside0 (w'.heap[gb2]? = some (.cells #[(.slice A0 l0.length c0)] 22 (0, 0))) ∧ Aside0 (w'.heap[gb3]? = some (.cells #[(.slice Ao19 t210.length co19)] 29 (0, 0))) ∧ Aside0 (w'.heap[gb4]? = some (.cells #[(.slice Ao92 x227000_2.length co92)] 38 (0, 0))) ∧ Aside0 (w'.heap[gb5]? = some (.cells #[u228000] 38 (0, 0))) ∧ Aside0 (w'.heap[gb6]? = some (.cells #[.func (.func 30) #[] #[.pointer (some ⟨gb4, 0, none⟩), .pointer (some ⟨gb2, 0, none⟩), .pointer (some ⟨gb5, 0, none⟩), .pointer (some ⟨gb3, 0, none⟩), .pointer (some ⟨gb6, 0, none⟩)]] 45 (0, 0))) ∧ Aside0 (Below w.heap.size w w'))
     case atStart => exact ⟨(([] : List Int)), (0), (by first | rfl | (simp; done) | (simp [*]; done)), H', ⟨Nat.le_refl _⟩, ⟨by first | exact Kd.R_nil _ _ _ _ _ | exact Kd.N_nil _ _ _ _ _ | exact Kd.V_nil _ _ _ _ _ | exact Kd.Q_nil _ _ _ _ _ | exact Kd.S_nil _ _ _ _ _⟩, ⟨by (with_reducible repeat (first | apply Kd.R_alloc | apply Kd.R_drewN | apply Kd.R_drew)); exact Kd.R_mono HO_227000.out (fun _ hk => hk.2)⟩, ⟨by (with_reducible repeat (first | apply Kd.R_alloc | apply Kd.R_drewN | apply Kd.R_drew)); exact Kd.R_mono HO_215000.out (fun _ hk => (by simp [Value.ownBlock]))⟩, ⟨by (with_reducible repeat (first | apply Kd.R_alloc | apply Kd.R_drewN | apply Kd.R_drew)); exact Kd.R_mono HO_227000.out (fun _ hk => hk.2)⟩, ⟨by (with_reducible repeat (first | apply Kd.R_alloc | apply Kd.R_drewN | apply Kd.R_drew)); exact Kd.R_mono HO_228000.out (fun _ hk => ⟨hk.2, hk.2⟩)⟩, ⟨BK2.out⟩, ⟨BK3.out⟩, ⟨BK4.out⟩, ⟨BK5.out⟩, ⟨BK6.out⟩, ⟨by repeat (first | (with_reducible first | exact HB.out | apply below_alloc | apply pw_below_drewN | apply below_drew1 | refine below_set ?_ GE2.out | refine below_set ?_ GE3.out | refine below_set ?_ GE4.out | refine below_set ?_ GE5.out | refine below_set ?_ GE6.out) | exact HB.out)⟩⟩
     case round =>
      clear H'
      try clear p2; try clear q2; try clear hx2; try clear c3; try clear c5; try clear c6; try clear p6; try clear q6; try clear c7; try clear c8; try clear c9; try clear p22; try clear q22; try clear hx22; try clear c30; try clear c52; try clear c53; try clear c54; try clear c55; try clear c57; try clear c58; try clear c59; try clear c61; try clear c61b0; try clear c62; try clear c62b0; try clear c63; try clear c63b0; try clear p64; try clear q64; try clear c65; try clear c69; try clear c70; try clear c71; try clear c72; try clear c74; try clear c75; try clear c76; try clear c78; try clear c79; try clear c81; try clear c87; try clear c88; try clear c89; try clear c90; try clear hcz56_0; try clear hcz60_0; try clear hcz73_0; try clear hcz77_0; try clear hcz80_0; try clear hcz82_0; try clear hcz83_0; try clear hcz91_0; try clear hfz56_0; try clear hfz60_0; try clear hfz73_0; try clear hfz77_0; try clear hfz80_0; try clear hfz82_0; try clear hfz83_0; try clear hfz91_0; try clear hx229_0; try clear p229; try clear q229
      obtain ⟨x15_3, x72_3, rfl, HA, HK3, HO_15, HO_70, HO_215000, HO_227000, HO_228000, BK2, BK3, BK4, BK5, BK6, HB⟩ := hrel
      cases gk with
      | zero => exact absurd HA.out (by simp [match_Cover.l2])
      | succ k3 =>
       have H := HA.out
       clear HA
       simp only [match_Cover.l2] at H
       by_cases c93 : x72_3 < (x227000_2.length : Int)
       ·
        rw [if_pos c93] at H
        have c93b0 : decide (x72_3 < (x227000_2.length : Int)) = true := decide_eq_true c93
        clear c93
        by_cases c94 : 0 ≤ x72_3
        rotate_left
        ·
         rw [if_neg c94] at H
         exact absurd H (by simp)
        rw [if_pos c94] at H
        have c94b0 : decide (0 ≤ x72_3) = true := decide_eq_true c94
        clear c94
        by_cases c95 : x72_3 < (x227000_2.length : Int)
        rotate_left
        ·
         rw [if_neg c95] at H
         exact absurd H (by simp)
        rw [if_pos c95] at H
        have c95b0 : decide (x72_3 < (x227000_2.length : Int)) = true := decide_eq_true c95
        clear c95
        obtain ⟨bq96, hbq96⟩ : ∃ b_ : Bool, b_ = (rdOf false x227000_2 x72_3) := ⟨_, rfl⟩
        replace H : (if bq96 = true then (match_Cover.l2 k3 x15_3 x227000_2 (x227000_2.length : Int) (wrap64 (x72_3 + 1)) x228000_2) else (if x15_3.length < 17592186044416 then (match_Cover.l2 k3 (x15_3 ++ [x72_3]) x227000_2 (x227000_2.length : Int) (wrap64 (x72_3 + 1)) x228000_2) else (none))) = some (r1, r2, r3) := by rw [← hbq96] at H; exact H
        have Nbq96 := Aside0.mk hbq96
        clear hbq96
        by_cases c97 : bq96 = true
        ·
         subst c97
         rw [if_pos rfl] at H
         have H' := Aside0.mk H
         clear H
         have p232 : 0 ≤ (x72_3 : Int) := of_decide_eq_true (by first | (with_reducible assumption) | assumption)
         have q232 : x72_3 < (x227000_2.length : Int) := of_decide_eq_true (by first | (with_reducible assumption) | assumption)
         obtain ⟨ad232, e232, hx232_0⟩ := Kd.at_bool (Kd.R_reads' HO_70.out).2.2 x72_3 p232 q232
         (try rw [← Nbq96.out] at hx232_0)
         cases e232
         replace p232 := eq_true p232
         replace q232 := eq_true q232
         go_wp2
         go_roundg k3
         case measure => have := HK1.out; have := HK2.out; have := HK3.out; omega
         case rel => exact ⟨(x15_3), (wrap64 (x72_3 + 1)), (by first | rfl | (simp; done) | (simp [*]; done)), H', ⟨by have := HK1.out; have := HK2.out; have := HK3.out; omega⟩, ⟨by (with_reducible repeat (first | apply Kd.R_alloc | apply Kd.R_drewN | apply Kd.R_drew)); exact HO_15.out⟩, ⟨by (with_reducible repeat (first | apply Kd.R_alloc | apply Kd.R_drewN | apply Kd.R_drew)); exact HO_70.out⟩, ⟨by (with_reducible repeat (first | apply Kd.R_alloc | apply Kd.R_drewN | apply Kd.R_drew)); exact HO_215000.out⟩, ⟨by (with_reducible repeat (first | apply Kd.R_alloc | apply Kd.R_drewN | apply Kd.R_drew)); exact HO_227000.out⟩, ⟨by (with_reducible repeat (first | apply Kd.R_alloc | apply Kd.R_drewN | apply Kd.R_drew)); exact HO_228000.out⟩, ⟨BK2.out⟩, ⟨BK3.out⟩, ⟨BK4.out⟩, ⟨BK5.out⟩, ⟨BK6.out⟩, ⟨by repeat (first | (with_reducible first | exact HB.out | apply below_alloc | apply pw_below_drewN | apply below_drew1 | refine below_set ?_ GE2.out | refine below_set ?_ GE3.out | refine below_set ?_ GE4.out | refine below_set ?_ GE5.out | refine below_set ?_ GE6.out) | exact HB.out)⟩⟩
        replace c97 := Bool.eq_false_iff.mpr c97
        subst c97
        rw [if_neg (show ¬ (false = true) by decide)] at H
        by_cases c98 : x15_3.length < 17592186044416
        rotate_left
        ·
         rw [if_neg c98] at H
         exact absurd H (by simp)
        rw [if_pos c98] at H
        have LMc98 := Aside0.mk c98
        clear c98
        obtain ⟨y233, hy233⟩ : ∃ y_ : List Int, y_ = (x15_3 ++ [x72_3]) := ⟨_, rfl⟩
        rw [← hy233] at H
        have Ny233 := Aside0.mk hy233
        clear hy233
        have H' := Aside0.mk H
        clear H
        have p232 : 0 ≤ (x72_3 : Int) := of_decide_eq_true (by first | (with_reducible assumption) | assumption)
        have q232 : x72_3 < (x227000_2.length : Int) := of_decide_eq_true (by first | (with_reducible assumption) | assumption)
        obtain ⟨ad232, e232, hx232_0⟩ := Kd.at_bool (Kd.R_reads' HO_70.out).2.2 x72_3 p232 q232
        (try rw [← Nbq96.out] at hx232_0)
        cases e232
        replace p232 := eq_true p232
        replace q232 := eq_true q232
        go_wp2_with (first | ((with_reducible refine gate_builtin (b := .append) (xs := #[.tmp 79, .tmp 81]) rfl ?_); at_builtin; refine Kd.R_append (Kd.int .i64) (w0 := w) w.heap.size rfl (.tmp 79) (.tmp 81) 29 3 (.int .i64 0) 8 rfl Try.underlying29 info3 rfl (by decide) (by omega) u15 x15_3 x72_3 [.int .i64 x72_3] (fun k_ => some k_ ≠ (.slice Ao19 t210.length co19 : Value).ownBlock) (fun _ => False) rfl rfl ?aP (fun _ hk => hk.elim) ?aF ?aO ?aB ?aS ?aL ?_; (case aP => exact rfl); (case aB => exact (by repeat (first | (with_reducible first | exact HB.out | apply below_alloc | apply pw_below_drewN | apply below_drew1 | refine below_set ?_ GE2.out | refine below_set ?_ GE3.out | refine below_set ?_ GE4.out | refine below_set ?_ GE5.out | refine below_set ?_ GE6.out) | exact HB.out))); (case aF => exact (fun k_ hk => Kd.fresh' (Kd.R_lt (by (with_reducible repeat (first | apply Kd.R_alloc | apply Kd.R_drewN | apply Kd.R_drew)); exact HO_215000.out)) k_ hk)); (case aO => exact (by (with_reducible repeat (first | apply Kd.R_alloc | apply Kd.R_drewN | apply Kd.R_drew)); exact HO_15.out)); (case aS => exact (below_size (by repeat (first | (with_reducible first | exact HB.out | apply below_alloc | apply pw_below_drewN | apply below_drew1 | refine below_set ?_ GE2.out | refine below_set ?_ GE3.out | refine below_set ?_ GE4.out | refine below_set ?_ GE5.out | refine below_set ?_ GE6.out) | exact HB.out)))); (case aL => have := LMc98.out; omega); intro v234 w99 ho hb hg hat; rw [← Ny233.out] at ho; replace HO_70 := Aside0.mk (Kd.R_over' (by (with_reducible repeat (first | apply Kd.R_alloc | apply Kd.R_drewN | apply Kd.R_drew)); exact HO_70.out) (Kd.R_typed (by (with_reducible repeat (first | apply Kd.R_alloc | apply Kd.R_drewN | apply Kd.R_drew)); exact HO_15.out)) (by decide) hg); replace HO_215000 := Aside0.mk (Kd.R_after (ok := (fun _ => True)) (by (with_reducible repeat (first | apply Kd.R_alloc | apply Kd.R_drewN | apply Kd.R_drew)); exact Kd.R_mono HO_215000.out (fun _ hk => ⟨trivial, hk⟩)) hg hat); replace HO_227000 := Aside0.mk (Kd.R_over' (by (with_reducible repeat (first | apply Kd.R_alloc | apply Kd.R_drewN | apply Kd.R_drew)); exact HO_227000.out) (Kd.R_typed (by (with_reducible repeat (first | apply Kd.R_alloc | apply Kd.R_drewN | apply Kd.R_drew)); exact HO_15.out)) (by decide) hg); replace HO_228000 := Aside0.mk (Kd.R_over' (by (with_reducible repeat (first | apply Kd.R_alloc | apply Kd.R_drewN | apply Kd.R_drew)); exact HO_228000.out) (Kd.R_typed (by (with_reducible repeat (first | apply Kd.R_alloc | apply Kd.R_drewN | apply Kd.R_drew)); exact HO_15.out)) (by decide) hg); replace BK2 := Aside0.mk (blk_grown (g := gb2) (o := .cells #[.slice A0 l0.length c0] 22 (0, 0)) BK2.out hg (Kd.R_ne HO_15.out BK2.out (by decide))); replace BK3 := Aside0.mk (blk_grown (g := gb3) (o := .cells #[.slice Ao19 t210.length co19] 29 (0, 0)) BK3.out hg (Kd.R_ne HO_15.out BK3.out (by decide))); replace BK4 := Aside0.mk (blk_grown (g := gb4) (o := .cells #[.slice (some ad232) x227000_2.length co92] 38 (0, 0)) BK4.out hg (Kd.R_ne HO_15.out BK4.out (by decide))); replace BK5 := Aside0.mk (blk_grown (g := gb5) (o := .cells #[u228000] 38 (0, 0)) BK5.out hg (Kd.R_ne HO_15.out BK5.out (by decide))); replace BK6 := Aside0.mk (blk_grown (g := gb6) (o := .cells #[.func (.func 30) #[] #[.pointer (some ⟨gb4, 0, none⟩), .pointer (some ⟨gb2, 0, none⟩), .pointer (some ⟨gb5, 0, none⟩), .pointer (some ⟨gb3, 0, none⟩), .pointer (some ⟨gb6, 0, none⟩)]] 45 (0, 0)) BK6.out hg (Kd.R_ne HO_15.out BK6.out (by decide))); replace HB := Aside0.mk hb; have HO235 := Aside0.mk ho; clear HO_15; clear ho hb hg hat))
        go_roundg k3
        case measure => have := HK1.out; have := HK2.out; have := HK3.out; omega
        case rel => exact ⟨(y233), (wrap64 (x72_3 + 1)), (by first | rfl | (simp; done) | (simp [*]; done)), H', ⟨by have := HK1.out; have := HK2.out; have := HK3.out; omega⟩, ⟨by (with_reducible repeat (first | apply Kd.R_alloc | apply Kd.R_drewN | apply Kd.R_drew)); exact HO235.out⟩, ⟨by (with_reducible repeat (first | apply Kd.R_alloc | apply Kd.R_drewN | apply Kd.R_drew)); exact HO_70.out⟩, ⟨by (with_reducible repeat (first | apply Kd.R_alloc | apply Kd.R_drewN | apply Kd.R_drew)); exact Kd.R_mono HO_215000.out (fun _ hk => hk.2)⟩, ⟨by (with_reducible repeat (first | apply Kd.R_alloc | apply Kd.R_drewN | apply Kd.R_drew)); exact HO_227000.out⟩, ⟨by (with_reducible repeat (first | apply Kd.R_alloc | apply Kd.R_drewN | apply Kd.R_drew)); exact HO_228000.out⟩, ⟨BK2.out⟩, ⟨BK3.out⟩, ⟨BK4.out⟩, ⟨BK5.out⟩, ⟨BK6.out⟩, ⟨by repeat (first | (with_reducible first | exact HB.out | apply below_alloc | apply pw_below_drewN | apply below_drew1 | refine below_set ?_ GE2.out | refine below_set ?_ GE3.out | refine below_set ?_ GE4.out | refine below_set ?_ GE5.out | refine below_set ?_ GE6.out) | exact HB.out)⟩⟩
       rw [if_neg c93] at H
       have c93b0 : decide (x72_3 < (x227000_2.length : Int)) = false := decide_eq_false c93
       clear c93
       have H' := Aside0.mk H
       clear H
       have hnb100 := NB5_2.out
       have hnc100 := NB2_5.out
       have hnb101 := NB5_3.out
       have hnc101 := NB3_5.out
       have hnb102 := NB5_4.out
       have hnc102 := NB4_5.out
       have hnb103 := NB5_6.out
       have hnc103 := NB6_5.out
       have hcz104 := blk_cell BK5.out; have hfz104 := blk_frozen BK5.out
       obtain ⟨Ao105, co105, eo105⟩ := Kd.R_slice HO_228000.out
       subst eo105
       go_wp2
       go_loopg [16, 86] k3 (fun kq v16 v86 w' => ∃ (x16_4 : List Int) (x86_4 : Int), v86 = .int .i64 x86_4 ∧ Aside0 (match_Cover.l3 kq x15_3 x16_4 x228000_2 (x228000_2.length : Int) x86_4 = some (r1, r2, r3)) ∧ Aside0 (kq ≤ k3) ∧ Aside0 (Kd.R (Kd.int .i64) 3 w' w.heap.size (fun k_ => some k_ ≠ (v16 : Value).ownBlock ∧ some k_ ≠ ((.slice Ao19 t210.length co19) : Value).ownBlock) u15 x15_3) ∧ Aside0 (Kd.R (Kd.int .i64) 3 w' w.heap.size (fun k_ => some k_ ≠ (u15 : Value).ownBlock ∧ some k_ ≠ ((.slice Ao19 t210.length co19) : Value).ownBlock) v16 x16_4) ∧ Aside0 (Kd.R Kd.bool 4 w' w.heap.size (fun k_ => some k_ ≠ ((.slice Ao92 x227000_2.length co92) : Value).ownBlock) (.slice Ao105 x228000_2.length co105) x228000_2) ∧ Aside0 (Kd.R (Kd.int .i64) 3 w' w.heap.size (fun k_ => some k_ ≠ (u15 : Value).ownBlock ∧ some k_ ≠ (v16 : Value).ownBlock) (.slice Ao19 t210.length co19) t210) ∧ Aside0 (Kd.R Kd.bool 4 w' w.heap.size (fun k_ => some k_ ≠ ((.slice Ao105 x228000_2.length co105) : Value).ownBlock ∧ some k_ ≠ ((.slice Ao105 x228000_2.length co105) : Value).ownBlock) (.slice Ao92 x227000_2.length co92) x227000_2) ∧ Aside0 (Kd.R Kd.bool 4 w' w.heap.size (fun k_ => some k_ ≠ ((.slice Ao92 x227000_2.length co92) : Value).ownBlock) (.slice Ao105 x228000_2.length co105) x228000_2) ∧ Aside0 (w'.heap[gb2]? = some (.cells #[(.slice A0 l0.length c0)] 22 (0, 0))) ∧ Aside0 (w'.heap[gb3]? = some (.cells #[(.slice Ao19 t210.length co19)] 29 (0, 0))) ∧ Aside0 (w'.heap[gb4]? = some (.cells #[(.slice Ao92 x227000_2.length co92)] 38 (0, 0))) ∧ Aside0 (w'.heap[gb5]? = some (.cells #[(.slice Ao105 x228000_2.length co105)] 38 (0, 0))) ∧ Aside0 (w'.heap[gb6]? = some (.cells #[.func (.func 30) #[] #[.pointer (some ⟨gb4, 0, none⟩), .pointer (some ⟨gb2, 0, none⟩), .pointer (some ⟨gb5, 0, none⟩), .pointer (some ⟨gb3, 0, none⟩), .pointer (some ⟨gb6, 0, none⟩)]] 45 (0, 0))) ∧ Aside0 (Below w.heap.size w w'))
       case atStart => exact ⟨(([] : List Int)), (0), (by first | rfl | (simp; done) | (simp [*]; done)), H', ⟨Nat.le_refl _⟩, ⟨by (with_reducible repeat (first | apply Kd.R_alloc | apply Kd.R_drewN | apply Kd.R_drew)); exact Kd.R_mono HO_15.out (fun _ hk => ⟨(by simp [Value.ownBlock]), hk⟩)⟩, ⟨by first | exact Kd.R_nil _ _ _ _ _ | exact Kd.N_nil _ _ _ _ _ | exact Kd.V_nil _ _ _ _ _ | exact Kd.Q_nil _ _ _ _ _ | exact Kd.S_nil _ _ _ _ _⟩, ⟨by (with_reducible repeat (first | apply Kd.R_alloc | apply Kd.R_drewN | apply Kd.R_drew)); exact Kd.R_mono HO_228000.out (fun _ hk => hk.2)⟩, ⟨by (with_reducible repeat (first | apply Kd.R_alloc | apply Kd.R_drewN | apply Kd.R_drew)); exact Kd.R_mono HO_215000.out (fun _ hk => ⟨hk, (by simp [Value.ownBlock])⟩)⟩, ⟨by (with_reducible repeat (first | apply Kd.R_alloc | apply Kd.R_drewN | apply Kd.R_drew)); exact Kd.R_mono HO_227000.out (fun _ hk => ⟨hk, hk⟩)⟩, ⟨by (with_reducible repeat (first | apply Kd.R_alloc | apply Kd.R_drewN | apply Kd.R_drew)); exact Kd.R_mono HO_228000.out (fun _ hk => hk.2)⟩, ⟨BK2.out⟩, ⟨BK3.out⟩, ⟨BK4.out⟩, ⟨BK5.out⟩, ⟨BK6.out⟩, ⟨by repeat (first | (with_reducible first | exact HB.out | apply below_alloc | apply pw_below_drewN | apply below_drew1 | refine below_set ?_ GE2.out | refine below_set ?_ GE3.out | refine below_set ?_ GE4.out | refine below_set ?_ GE5.out | refine below_set ?_ GE6.out) | exact HB.out)⟩⟩
       case round =>
        clear H'
        try clear c1; try clear p2; try clear q2; try clear hx2; try clear c3; try clear c5; try clear c6; try clear p6; try clear q6; try clear c7; try clear c8; try clear c9; try clear q9; try clear c10; try clear p22; try clear q22; try clear hx22; try clear p23; try clear q23; try clear hx23; try clear c30; try clear c52; try clear c53; try clear c54; try clear c55; try clear c57; try clear c58; try clear c59; try clear c61; try clear c61b0; try clear c62; try clear c62b0; try clear c63; try clear c63b0; try clear p64; try clear q64; try clear c65; try clear c69; try clear c70; try clear c71; try clear c72; try clear c74; try clear c75; try clear c76; try clear c78; try clear c79; try clear c81; try clear c87; try clear c88; try clear c89; try clear c90; try clear c93; try clear c93b0; try clear c94; try clear c94b0; try clear c95; try clear c95b0; try clear q96; try clear c97; try clear c98; try clear c100; try clear c101; try clear c102; try clear c103; try clear hcz104_0; try clear hcz56_0; try clear hcz60_0; try clear hcz73_0; try clear hcz77_0; try clear hcz80_0; try clear hcz82_0; try clear hcz83_0; try clear hcz91_0; try clear hfz104_0; try clear hfz56_0; try clear hfz60_0; try clear hfz73_0; try clear hfz77_0; try clear hfz80_0; try clear hfz82_0; try clear hfz83_0; try clear hfz91_0; try clear hx229_0; try clear hx232_0; try clear p229; try clear p232; try clear q229; try clear q232
        obtain ⟨x16_4, x86_4, rfl, HA, HK4, HO_15, HO_16, HO_84, HO_215000, HO_227000, HO_228000, BK2, BK3, BK4, BK5, BK6, HB⟩ := hrel
        cases gk with
        | zero => exact absurd HA.out (by simp [match_Cover.l3])
        | succ k4 =>
         have H := HA.out
         clear HA
         simp only [match_Cover.l3] at H
         by_cases c106 : x86_4 < (x228000_2.length : Int)
         rotate_left
         ·
          rw [if_neg c106] at H
          have c106b0 : decide (x86_4 < (x228000_2.length : Int)) = false := decide_eq_false c106
          clear c106
          simp only [Option.some.injEq, Prod.mk.injEq] at H
          obtain ⟨rfl, rfl, rfl⟩ := H
          go_wp2
          go_ret3
          exact ⟨_, _, by first | rfl | (simp [errW_none, errW_some] <;> rfl) | (simp [*, errW_none, errW_some] <;> rfl), by (with_reducible repeat (first | apply Kd.R_alloc | apply Kd.R_drewN | apply Kd.R_drew)); exact Kd.R_mono HO_15.out (fun _ hk => hk.1), by (with_reducible repeat (first | apply Kd.R_alloc | apply Kd.R_drewN | apply Kd.R_drew)); exact Kd.R_mono HO_16.out (fun _ hk => hk.1), by repeat (first | (with_reducible first | exact HB.out | apply below_alloc | apply pw_below_drewN | apply below_drew1 | refine below_set ?_ GE2.out | refine below_set ?_ GE3.out | refine below_set ?_ GE4.out | refine below_set ?_ GE5.out | refine below_set ?_ GE6.out) | exact HB.out)⟩
         rw [if_pos c106] at H
         have c106b0 : decide (x86_4 < (x228000_2.length : Int)) = true := decide_eq_true c106
         clear c106
         by_cases c107 : 0 ≤ x86_4
         rotate_left
         ·
          rw [if_neg c107] at H
          exact absurd H (by simp)
         rw [if_pos c107] at H
         have c107b0 : decide (0 ≤ x86_4) = true := decide_eq_true c107
         clear c107
         by_cases c108 : x86_4 < (x228000_2.length : Int)
         rotate_left
         ·
          rw [if_neg c108] at H
          exact absurd H (by simp)
         rw [if_pos c108] at H
         have c108b0 : decide (x86_4 < (x228000_2.length : Int)) = true := decide_eq_true c108
         clear c108
         obtain ⟨bq109, hbq109⟩ : ∃ b_ : Bool, b_ = (rdOf false x228000_2 x86_4) := ⟨_, rfl⟩
         replace H : (if bq109 = true then (if x16_4.length < 17592186044416 then (match_Cover.l3 k4 x15_3 (x16_4 ++ [x86_4]) x228000_2 (x228000_2.length : Int) (wrap64 (x86_4 + 1))) else (none)) else (match_Cover.l3 k4 x15_3 x16_4 x228000_2 (x228000_2.length : Int) (wrap64 (x86_4 + 1)))) = some (r1, r2, r3) := by rw [← hbq109] at H; exact H
         have Nbq109 := Aside0.mk hbq109
         clear hbq109
         by_cases c110 : bq109 = true
         rotate_left
         ·
          replace c110 := Bool.eq_false_iff.mpr c110
          subst c110
          rw [if_neg (show ¬ (false = true) by decide)] at H
          have H' := Aside0.mk H
          clear H
          have p236 : 0 ≤ (x86_4 : Int) := of_decide_eq_true (by first | (with_reducible assumption) | assumption)
          have q236 : x86_4 < (x228000_2.length : Int) := of_decide_eq_true (by first | (with_reducible assumption) | assumption)
          obtain ⟨ad236, e236, hx236_0⟩ := Kd.at_bool (Kd.R_reads' HO_84.out).2.2 x86_4 p236 q236
          (try rw [← Nbq109.out] at hx236_0)
          cases e236
          replace p236 := eq_true p236
          replace q236 := eq_true q236
          go_wp2
          go_roundg k4
          case measure => have := HK1.out; have := HK2.out; have := HK3.out; have := HK4.out; omega
          case rel => exact ⟨(x16_4), (wrap64 (x86_4 + 1)), (by first | rfl | (simp; done) | (simp [*]; done)), H', ⟨by have := HK1.out; have := HK2.out; have := HK3.out; have := HK4.out; omega⟩, ⟨by (with_reducible repeat (first | apply Kd.R_alloc | apply Kd.R_drewN | apply Kd.R_drew)); exact HO_15.out⟩, ⟨by (with_reducible repeat (first | apply Kd.R_alloc | apply Kd.R_drewN | apply Kd.R_drew)); exact HO_16.out⟩, ⟨by (with_reducible repeat (first | apply Kd.R_alloc | apply Kd.R_drewN | apply Kd.R_drew)); exact HO_84.out⟩, ⟨by (with_reducible repeat (first | apply Kd.R_alloc | apply Kd.R_drewN | apply Kd.R_drew)); exact HO_215000.out⟩, ⟨by (with_reducible repeat (first | apply Kd.R_alloc | apply Kd.R_drewN | apply Kd.R_drew)); exact HO_227000.out⟩, ⟨by (with_reducible repeat (first | apply Kd.R_alloc | apply Kd.R_drewN | apply Kd.R_drew)); exact HO_228000.out⟩, ⟨BK2.out⟩, ⟨BK3.out⟩, ⟨BK4.out⟩, ⟨BK5.out⟩, ⟨BK6.out⟩, ⟨by repeat (first | (with_reducible first | exact HB.out | apply below_alloc | apply pw_below_drewN | apply below_drew1 | refine below_set ?_ GE2.out | refine below_set ?_ GE3.out | refine below_set ?_ GE4.out | refine below_set ?_ GE5.out | refine below_set ?_ GE6.out) | exact HB.out)⟩⟩
         subst c110
         rw [if_pos rfl] at H
         by_cases c111 : x16_4.length < 17592186044416
         rotate_left
         ·
          rw [if_neg c111] at H
          exact absurd H (by simp)
         rw [if_pos c111] at H
         have LMc111 := Aside0.mk c111
         clear c111
         obtain ⟨y237, hy237⟩ : ∃ y_ : List Int, y_ = (x16_4 ++ [x86_4]) := ⟨_, rfl⟩
         rw [← hy237] at H
         have Ny237 := Aside0.mk hy237
         clear hy237
         have H' := Aside0.mk H
         clear H
         have p236 : 0 ≤ (x86_4 : Int) := of_decide_eq_true (by first | (with_reducible assumption) | assumption)
         have q236 : x86_4 < (x228000_2.length : Int) := of_decide_eq_true (by first | (with_reducible assumption) | assumption)
         obtain ⟨ad236, e236, hx236_0⟩ := Kd.at_bool (Kd.R_reads' HO_84.out).2.2 x86_4 p236 q236
         (try rw [← Nbq109.out] at hx236_0)
         cases e236
         replace p236 := eq_true p236
         replace q236 := eq_true q236
         go_wp2_with (first | ((with_reducible refine gate_builtin (b := .append) (xs := #[.tmp 92, .tmp 94]) rfl ?_); at_builtin; refine Kd.R_append (Kd.int .i64) (w0 := w) w.heap.size rfl (.tmp 92) (.tmp 94) 29 3 (.int .i64 0) 8 rfl Try.underlying29 info3 rfl (by decide) (by omega) u16 x16_4 x86_4 [.int .i64 x86_4] (fun k_ => some k_ ≠ (u15 : Value).ownBlock ∧ some k_ ≠ (.slice Ao19 t210.length co19 : Value).ownBlock) (fun _ => False) rfl rfl ?aP (fun _ hk => hk.elim) ?aF ?aO ?aB ?aS ?aL ?_; (case aP => exact rfl); (case aB => exact (by repeat (first | (with_reducible first | exact HB.out | apply below_alloc | apply pw_below_drewN | apply below_drew1 | refine below_set ?_ GE2.out | refine below_set ?_ GE3.out | refine below_set ?_ GE4.out | refine below_set ?_ GE5.out | refine below_set ?_ GE6.out) | exact HB.out))); (case aF => exact (fun k_ hk => ⟨Kd.fresh' (Kd.R_lt (by (with_reducible repeat (first | apply Kd.R_alloc | apply Kd.R_drewN | apply Kd.R_drew)); exact HO_15.out)) k_ hk, Kd.fresh' (Kd.R_lt (by (with_reducible repeat (first | apply Kd.R_alloc | apply Kd.R_drewN | apply Kd.R_drew)); exact HO_215000.out)) k_ hk⟩)); (case aO => exact (by (with_reducible repeat (first | apply Kd.R_alloc | apply Kd.R_drewN | apply Kd.R_drew)); exact HO_16.out)); (case aS => exact (below_size (by repeat (first | (with_reducible first | exact HB.out | apply below_alloc | apply pw_below_drewN | apply below_drew1 | refine below_set ?_ GE2.out | refine below_set ?_ GE3.out | refine below_set ?_ GE4.out | refine below_set ?_ GE5.out | refine below_set ?_ GE6.out) | exact HB.out)))); (case aL => have := LMc111.out; omega); intro v238 w112 ho hb hg hat; rw [← Ny237.out] at ho; replace HO_15 := Aside0.mk (Kd.R_after (ok := (fun k_ => some k_ ≠ (.slice Ao19 t210.length co19 : Value).ownBlock)) (by (with_reducible repeat (first | apply Kd.R_alloc | apply Kd.R_drewN | apply Kd.R_drew)); exact Kd.R_mono HO_15.out (fun _ hk => ⟨hk.2, hk.1⟩)) hg hat); replace HO_84 := Aside0.mk (Kd.R_over' (by (with_reducible repeat (first | apply Kd.R_alloc | apply Kd.R_drewN | apply Kd.R_drew)); exact HO_84.out) (Kd.R_typed (by (with_reducible repeat (first | apply Kd.R_alloc | apply Kd.R_drewN | apply Kd.R_drew)); exact HO_16.out)) (by decide) hg); replace HO_215000 := Aside0.mk (Kd.R_after (ok := (fun k_ => some k_ ≠ (u15 : Value).ownBlock)) (by (with_reducible repeat (first | apply Kd.R_alloc | apply Kd.R_drewN | apply Kd.R_drew)); exact HO_215000.out) hg hat); replace HO_227000 := Aside0.mk (Kd.R_over' (by (with_reducible repeat (first | apply Kd.R_alloc | apply Kd.R_drewN | apply Kd.R_drew)); exact HO_227000.out) (Kd.R_typed (by (with_reducible repeat (first | apply Kd.R_alloc | apply Kd.R_drewN | apply Kd.R_drew)); exact HO_16.out)) (by decide) hg); replace HO_228000 := Aside0.mk (Kd.R_over' (by (with_reducible repeat (first | apply Kd.R_alloc | apply Kd.R_drewN | apply Kd.R_drew)); exact HO_228000.out) (Kd.R_typed (by (with_reducible repeat (first | apply Kd.R_alloc | apply Kd.R_drewN | apply Kd.R_drew)); exact HO_16.out)) (by decide) hg); replace BK2 := Aside0.mk (blk_grown (g := gb2) (o := .cells #[.slice A0 l0.length c0] 22 (0, 0)) BK2.out hg (Kd.R_ne HO_16.out BK2.out (by decide))); replace BK3 := Aside0.mk (blk_grown (g := gb3) (o := .cells #[.slice Ao19 t210.length co19] 29 (0, 0)) BK3.out hg (Kd.R_ne HO_16.out BK3.out (by decide))); replace BK4 := Aside0.mk (blk_grown (g := gb4) (o := .cells #[.slice Ao92 x227000_2.length co92] 38 (0, 0)) BK4.out hg (Kd.R_ne HO_16.out BK4.out (by decide))); replace BK5 := Aside0.mk (blk_grown (g := gb5) (o := .cells #[.slice (some ad236) x228000_2.length co105] 38 (0, 0)) BK5.out hg (Kd.R_ne HO_16.out BK5.out (by decide))); replace BK6 := Aside0.mk (blk_grown (g := gb6) (o := .cells #[.func (.func 30) #[] #[.pointer (some ⟨gb4, 0, none⟩), .pointer (some ⟨gb2, 0, none⟩), .pointer (some ⟨gb5, 0, none⟩), .pointer (some ⟨gb3, 0, none⟩), .pointer (some ⟨gb6, 0, none⟩)]] 45 (0, 0)) BK6.out hg (Kd.R_ne HO_16.out BK6.out (by decide))); replace HB := Aside0.mk hb; have HO239 := Aside0.mk ho; clear HO_16; clear ho hb hg hat))
         go_roundg k4
         case measure => have := HK1.out; have := HK2.out; have := HK3.out; have := HK4.out; omega
         case rel => exact ⟨(y237), (wrap64 (x86_4 + 1)), (by first | rfl | (simp; done) | (simp [*]; done)), H', ⟨by have := HK1.out; have := HK2.out; have := HK3.out; have := HK4.out; omega⟩, ⟨by (with_reducible repeat (first | apply Kd.R_alloc | apply Kd.R_drewN | apply Kd.R_drew)); exact Kd.R_mono HO_15.out (fun _ hk => ⟨hk.2, hk.1⟩)⟩, ⟨by (with_reducible repeat (first | apply Kd.R_alloc | apply Kd.R_drewN | apply Kd.R_drew)); exact HO239.out⟩, ⟨by (with_reducible repeat (first | apply Kd.R_alloc | apply Kd.R_drewN | apply Kd.R_drew)); exact HO_84.out⟩, ⟨by (with_reducible repeat (first | apply Kd.R_alloc | apply Kd.R_drewN | apply Kd.R_drew)); exact HO_215000.out⟩, ⟨by (with_reducible repeat (first | apply Kd.R_alloc | apply Kd.R_drewN | apply Kd.R_drew)); exact HO_227000.out⟩, ⟨by (with_reducible repeat (first | apply Kd.R_alloc | apply Kd.R_drewN | apply Kd.R_drew)); exact HO_228000.out⟩, ⟨BK2.out⟩, ⟨BK3.out⟩, ⟨BK4.out⟩, ⟨BK5.out⟩, ⟨BK6.out⟩, ⟨by repeat (first | (with_reducible first | exact HB.out | apply below_alloc | apply pw_below_drewN | apply below_drew1 | refine below_set ?_ GE2.out | refine below_set ?_ GE3.out | refine below_set ?_ GE4.out | refine below_set ?_ GE5.out | refine below_set ?_ GE6.out) | exact HB.out)⟩⟩
end Go.Proofs.Ytaacihkhckpecaa.PAll
