-- Written by wip/tools/handprint.py: walks of the functions that the law reaches; Lean checks them.
import Derived.Test.YtaacihkhckpecaaPAllx0
import Derived.Test.YtaacihkhckpecaaPAllf29
import Derived.Test.YtaacihkhckpecaaPAllf32
import Derived.Test.YtaacihkhckpecaaPAllf34
namespace Go.Proofs.Ytaacihkhckpecaa.PAll
open Go.RowKit Go.Proofs.YtaacihkhckpecaaW.PrintWords Go.Proofs.YtaacihkhckpecaaW.PrintLast Go.Proofs.YtaacihkhckpecaaW.PrintMore
attribute [local go_sem] max2_int min2_int max_two min_two max_three min_three max_four min_four   -- for this text's walks alone
set_option linter.unusedVariables false
set_option linter.unusedSimpArgs false

/-! ### dancestudioref10_enlarge: function 33 -/
mutual
def dancestudioref10_enlarge.l0 : Nat → List (List Bool) → List Int → List Int → List Int → List Int → Int → Option (List Int × Bool)
 | 0, _, _, _, _, _, _ => none
 | k + 1, x0, x1, x2, x10, x11, x12 => if x12 < (x11.length : Int) then (dancestudioref10_enlarge.l1 k x0 x1 x2 x10 x11 x12 0) else (some (x1, false))
def dancestudioref10_enlarge.l1 : Nat → List (List Bool) → List Int → List Int → List Int → List Int → Int → Int → Option (List Int × Bool)
 | 0, _, _, _, _, _, _, _ => none
 | k + 1, x0, x1, x2, x10, x11, x12, x13 => if x13 < (x1.length : Int) then (if 0 ≤ x12 then (if x12 < (x11.length : Int) then (if 0 ≤ (rd x11 x12) then (if (rd x11 x12) < (x0.length : Int) then (if 0 ≤ x13 then (if x13 < ((rd_L1 x0 (rd x11 x12)).length : Int) then (if (rdOf false (rd_L1 x0 (rd x11 x12)) x13 = true) then (if x13 < (x10.length : Int) then (if (rd x10 x13) ≥ 0 then (dancestudioref10_enlarge.j2 k x0 x1 x2 x10 x11 x12 x13 true) else ((dancestudioref10_has.f k x2 x13).bind fun t173 => (dancestudioref10_enlarge.j2 k x0 x1 x2 x10 x11 x12 x13 t173))) else (none)) else (dancestudioref10_enlarge.j2 k x0 x1 x2 x10 x11 x12 x13 true)) else (none)) else (none)) else (none)) else (none)) else (none)) else (none)) else (dancestudioref10_enlarge.l0 k x0 x1 x2 x10 x11 (wrap64 (x12 + 1)))
def dancestudioref10_enlarge.j2 : Nat → List (List Bool) → List Int → List Int → List Int → List Int → Int → Int → Bool → Option (List Int × Bool)
 | 0, _, _, _, _, _, _, _, _ => none
 | k + 1, x0, x1, x2, x10, x11, x12, x13, x53 => if x53 = true then (dancestudioref10_enlarge.l1 k x0 x1 x2 x10 x11 x12 (wrap64 (x13 + 1))) else (if 0 ≤ x12 then (if x12 < (x11.length : Int) then (if 0 ≤ x13 then (if x13 < (x10.length : Int) then ((some (x10.set (x13 : Int).toNat (rd x11 x12) : List Int)).bind fun y175 => (if x13 < (x1.length : Int) then (if (rd x1 x13) < 0 then ((dancestudioref10_exchange.f k x1 y175 x13).bind fun t177 => (some (t177, true))) else (if x11.length < 17592186044416 then (dancestudioref10_enlarge.l1 k x0 x1 x2 y175 (x11 ++ [rd x1 x13]) x12 (wrap64 (x13 + 1))) else (none))) else (none))) else (none)) else (none)) else (none)) else (none))
end
def dancestudioref10_enlarge.f (k : Nat) (l0 : List (List Bool)) (l1 : List Int) (l2 : List Int) (a3 : Int) : Option (List Int × Bool) := (dancestudioref10_none.f k (l1.length : Int)).bind fun t163 => (dancestudioref10_enlarge.l0 k l0 l1 l2 t163 (([a3] : List Int)) 0)
theorem dancestudioref10_enlarge.mono_l : ∀ k, (∀ y0 y1 y2 y3 y4 y5, LeO (dancestudioref10_enlarge.l0 k y0 y1 y2 y3 y4 y5) (dancestudioref10_enlarge.l0 (k + 1) y0 y1 y2 y3 y4 y5)) ∧ (∀ y0 y1 y2 y3 y4 y5 y6, LeO (dancestudioref10_enlarge.l1 k y0 y1 y2 y3 y4 y5 y6) (dancestudioref10_enlarge.l1 (k + 1) y0 y1 y2 y3 y4 y5 y6)) ∧ (∀ y0 y1 y2 y3 y4 y5 y6 y7, LeO (dancestudioref10_enlarge.j2 k y0 y1 y2 y3 y4 y5 y6 y7) (dancestudioref10_enlarge.j2 (k + 1) y0 y1 y2 y3 y4 y5 y6 y7))
 | 0 => ⟨fun _ _ _ _ _ _ r h => by simp [dancestudioref10_enlarge.l0] at h, fun _ _ _ _ _ _ _ r h => by simp [dancestudioref10_enlarge.l1] at h, fun _ _ _ _ _ _ _ _ r h => by simp [dancestudioref10_enlarge.j2] at h⟩
 | k + 1 => by
  obtain ⟨ih0, ih1, ih2⟩ := dancestudioref10_enlarge.mono_l k
  refine ⟨?_, ?_, ?_⟩
  ·
   intro y0 y1 y2 y3 y4 y5
   unfold dancestudioref10_enlarge.l0
   repeat' first
   | (with_reducible exact ih0 _ _ _ _ _ _)
   | (with_reducible exact ih1 _ _ _ _ _ _ _)
   | (with_reducible exact ih2 _ _ _ _ _ _ _ _)
   | (with_reducible exact dancestudioref10_exchange.mono _ _ _ _)
   | (with_reducible exact dancestudioref10_has.mono _ _ _)
   | (with_reducible exact dancestudioref10_none.mono _ _)
   | (with_reducible exact LeO.refl _)
   | (with_reducible exact LeO.none _)
   | (with_reducible refine LeO.ite ?_ ?_)
   | (with_reducible refine LeO.bind ?_ (fun _ => ?_))
   | exact ih0 _ _ _ _ _ _
   | exact ih1 _ _ _ _ _ _ _
   | exact ih2 _ _ _ _ _ _ _ _
   | exact dancestudioref10_exchange.mono _ _ _ _
   | exact dancestudioref10_has.mono _ _ _
   | exact dancestudioref10_none.mono _ _
   | exact LeO.none _
   | refine LeO.ite ?_ ?_
   | refine LeO.bind ?_ (fun _ => ?_)
  ·
   intro y0 y1 y2 y3 y4 y5 y6
   unfold dancestudioref10_enlarge.l1
   repeat' first
   | (with_reducible exact ih0 _ _ _ _ _ _)
   | (with_reducible exact ih1 _ _ _ _ _ _ _)
   | (with_reducible exact ih2 _ _ _ _ _ _ _ _)
   | (with_reducible exact dancestudioref10_exchange.mono _ _ _ _)
   | (with_reducible exact dancestudioref10_has.mono _ _ _)
   | (with_reducible exact dancestudioref10_none.mono _ _)
   | (with_reducible exact LeO.refl _)
   | (with_reducible exact LeO.none _)
   | (with_reducible refine LeO.ite ?_ ?_)
   | (with_reducible refine LeO.bind ?_ (fun _ => ?_))
   | exact ih0 _ _ _ _ _ _
   | exact ih1 _ _ _ _ _ _ _
   | exact ih2 _ _ _ _ _ _ _ _
   | exact dancestudioref10_exchange.mono _ _ _ _
   | exact dancestudioref10_has.mono _ _ _
   | exact dancestudioref10_none.mono _ _
   | exact LeO.none _
   | refine LeO.ite ?_ ?_
   | refine LeO.bind ?_ (fun _ => ?_)
  ·
   intro y0 y1 y2 y3 y4 y5 y6 y7
   unfold dancestudioref10_enlarge.j2
   repeat' first
   | (with_reducible exact ih0 _ _ _ _ _ _)
   | (with_reducible exact ih1 _ _ _ _ _ _ _)
   | (with_reducible exact ih2 _ _ _ _ _ _ _ _)
   | (with_reducible exact dancestudioref10_exchange.mono _ _ _ _)
   | (with_reducible exact dancestudioref10_has.mono _ _ _)
   | (with_reducible exact dancestudioref10_none.mono _ _)
   | (with_reducible exact LeO.refl _)
   | (with_reducible exact LeO.none _)
   | (with_reducible refine LeO.ite ?_ ?_)
   | (with_reducible refine LeO.bind ?_ (fun _ => ?_))
   | exact ih0 _ _ _ _ _ _
   | exact ih1 _ _ _ _ _ _ _
   | exact ih2 _ _ _ _ _ _ _ _
   | exact dancestudioref10_exchange.mono _ _ _ _
   | exact dancestudioref10_has.mono _ _ _
   | exact dancestudioref10_none.mono _ _
   | exact LeO.none _
   | refine LeO.ite ?_ ?_
   | refine LeO.bind ?_ (fun _ => ?_)
theorem dancestudioref10_enlarge.mono : ∀ a0 a1 a2 a3 k, LeO (dancestudioref10_enlarge.f k a0 a1 a2 a3) (dancestudioref10_enlarge.f (k + 1) a0 a1 a2 a3) := by
 intro a0 a1 a2 a3 k
 obtain ⟨ih0, ih1, ih2⟩ := dancestudioref10_enlarge.mono_l k
 unfold dancestudioref10_enlarge.f
 repeat' first
   | (with_reducible exact ih0 _ _ _ _ _ _)
   | (with_reducible exact ih1 _ _ _ _ _ _ _)
   | (with_reducible exact ih2 _ _ _ _ _ _ _ _)
   | (with_reducible exact dancestudioref10_exchange.mono _ _ _ _)
   | (with_reducible exact dancestudioref10_has.mono _ _ _)
   | (with_reducible exact dancestudioref10_none.mono _ _)
   | (with_reducible exact LeO.refl _)
   | (with_reducible exact LeO.none _)
   | (with_reducible refine LeO.ite ?_ ?_)
   | (with_reducible refine LeO.bind ?_ (fun _ => ?_))
   | exact ih0 _ _ _ _ _ _
   | exact ih1 _ _ _ _ _ _ _
   | exact ih2 _ _ _ _ _ _ _ _
   | exact dancestudioref10_exchange.mono _ _ _ _
   | exact dancestudioref10_has.mono _ _ _
   | exact dancestudioref10_none.mono _ _
   | exact LeO.none _
   | refine LeO.ite ?_ ?_
   | refine LeO.bind ?_ (fun _ => ?_)
set_option maxHeartbeats 8000000 in
set_option maxRecDepth 100000 in
theorem dancestudioref10_enlarge.calls (k : Nat) (A0 : Option Addr) (c0 : Nat) (l0 : List (List Bool)) (P1_ : Nat → Prop) (u9000_ : Value) (l1 : List Int) (A2 : Option Addr) (c2 : Nat) (l2 : List Int) (a3 : Int) (r1 : List Int) (r2 : Bool) (w0 w : World) (hB : Below w0.heap.size w0 w) (hr0 : ∀ W_, Kept w W_ (fun k_ => P1_ k_) → Kd.C (Kd.slice 4 Kd.bool) W_ A0 l0.length l0) (hc0 : l0.length ≤ c0) (ho1 : Kd.R (Kd.int .i64) 3 w w0.heap.size P1_ u9000_ l1) (hr2 : ∀ W_, Kept w W_ (fun k_ => P1_ k_) → Kd.C (Kd.int .i64) W_ A2 l2.length l2) (hc2 : l2.length ≤ c2) (h : dancestudioref10_enlarge.f k l0 l1 l2 a3 = some (r1, r2)) :
  Calls Try.prog 33 #[.slice A0 l0.length c0, u9000_, .slice A2 l2.length c2, .int .i64 a3] w fun e w' => ∃ v0_ : Value, e = .returned (.tuple #[v0_, .bool r2]) ∧ Kd.R (Kd.int .i64) 3 w' w0.heap.size (fun k_ => (P1_ k_ ∨ w.heap.size ≤ k_)) v0_ r1 ∧ Below w0.heap.size w0 w' ∧ Kept w w' (fun k_ => P1_ k_) := by
 have HR0 := Aside0.mk hr0
 have HC0 := Aside0.mk hc0
 clear hr0 hc0
 have HO1 := Aside0.mk (show Kd.R (Kd.int .i64) 3 w w0.heap.size (fun k_ => (P1_ k_ ∨ w.heap.size ≤ k_)) u9000_ l1 from Kd.R_mono ho1 (fun k_ hk => (.inl hk)))
 have HR2 := Aside0.mk hr2
 have HC2 := Aside0.mk hc2
 clear hr2 hc2
 have HK := Aside0.mk (Kept.refl w (fun k_ => P1_ k_))
 have HW0 := Aside0.mk hB.size
 have HB := Aside0.mk hB
 clear hB
 have H : ((dancestudioref10_none.f k (l1.length : Int)).bind fun t163 => (dancestudioref10_enlarge.l0 k l0 l1 l2 t163 (([a3] : List Int)) 0)) = some (r1, r2) := h
 clear h
 replace H := Option.bind_eq_some_iff.mp H
 obtain ⟨t163, A50, H⟩ := H
 replace H : (dancestudioref10_enlarge.l0 k l0 l1 l2 t163 (([a3] : List Int)) 0) = some (r1, r2) := H
 have A5 := Aside0.mk A50
 clear A50
 obtain ⟨y166, hy166⟩ : ∃ y_ : List Int, y_ = (([a3] : List Int)) := ⟨_, rfl⟩
 replace H : (dancestudioref10_enlarge.l0 k l0 l1 l2 t163 y166 0) = some (r1, r2) := by first | (rw [hy166]; with_reducible exact H) | (have H2_ := (Option.bind_some _ _).symm.trans H; rw [hy166]; with_reducible exact H2_) | (have H2_ := (Option.bind_some _ _).symm.trans H; with_reducible exact H2_) | with_reducible exact H | (rw [hy166]; exact H) | exact H
 have Ny166 := Aside0.mk hy166
 clear hy166
 have H' := Aside0.mk H
 clear H
 obtain ⟨Ao6, co6, eo6⟩ := Kd.R_slice HO1.out
 subst eo6
 go_enter Try.func33, Try.ntmps33
 go_wp2_with (first | ((with_reducible refine gate_callee (f := 32) rfl ?_); refine goesL_ (some 16) rfl rfl Try.func32 (by kernel_rfl) rfl #[.int .i64 (l1.length : Int)] rfl (by (try simp only [List.map_toArray, List.map_cons, List.map_nil]); first | done | rfl | (simp only [List.length_drop, List.length_take]; rfl)) ?_; (with_reducible refine (dancestudioref10_none.calls k (l1.length : Int) t163 _ A5.out).mono ?_); rintro e w7 ⟨v164, rfl, ho0, hb⟩; refine ⟨_, rfl, ?_⟩; have n0_ := Aside0.mk (Kd.R_elder' (by (with_reducible repeat (first | apply Kd.R_alloc | apply Kd.R_drewN | apply Kd.R_drew)); exact HO1.out) (Kd.R_base ho0) hb); have n1_ := Aside0.mk (Kd.R_lower (Kd.R_new' (Kd.R_newM (M := fun k_ => (P1_ k_ ∨ w.heap.size ≤ k_)) ho0 (by first | exact HK.out.1 | exact (show Kept w _ (fun k_ => P1_ k_) from by repeat (first | (with_reducible first | exact HK.out | apply Kept.alloc | apply Kept.drewN | apply Kept.drew) | exact HK.out)).1) (fun k_ h_ => .inr h_)) (Kd.R_lt (by (with_reducible repeat (first | apply Kd.R_alloc | apply Kd.R_drewN | apply Kd.R_drew)); exact HO1.out))) (below_size (by repeat (first | (with_reducible first | exact HB.out | apply below_alloc | apply pw_below_drewN | apply below_drew1) | exact HB.out)))); have n2_ := Aside0.mk (Kept.below (S := (fun k_ => P1_ k_)) (by repeat (first | (with_reducible first | exact HK.out | apply Kept.alloc | apply Kept.drewN | apply Kept.drew) | exact HK.out)) hb); have n3_ := Aside0.mk (below_step (by repeat (first | (with_reducible first | exact HB.out | apply below_alloc | apply pw_below_drewN | apply below_drew1) | exact HB.out)) hb); clear HO1; clear HK; clear HB; have HO1 := n0_; have HO165 := n1_; have HK := n2_; have HB := n3_; clear n0_ n1_ n2_ n3_; (try clear hb); (try clear hb2); (try clear hk); (try clear hi); (try clear ho0)) | ((with_reducible refine gate_dst (N := 18) rfl ?_); refine Kd.R_lit (Kd.int .i64) _ 3 ?hg (N := 18) ?hd (xs := ([a3] : List Int)) (inner := [.int .i64 a3]) (ok := fun _ => True) (okp := fun _ => True) ?hr ?hp (fun _ hk => hk) trivial (Below.refl _ _) (Nat.le_refl _) (by simp) ?_; (case hd => rfl); (case hg => rfl); (case hr => first | (go_simp; done) | (go_simp; rfl)); (case hp => exact (Reps.one (show Kd.M (Kd.int .i64) _ _ _ a3 [.int .i64 a3] from rfl) (Reps.none _ _))); intro v167 w8 ho9 hb hg_ hnew_; clear hg_ hnew_; (first | rw [← Ny166.out] at ho9 | (simp only [Int.reduceToNat] at ho9; rw [← Ny166.out] at ho9)); have n0_ := Aside0.mk (Kd.R_elder' (by (with_reducible repeat (first | apply Kd.R_alloc | apply Kd.R_drewN | apply Kd.R_drew)); exact HO1.out) (Kd.R_base ho9) hb); have n1_ := Aside0.mk (Kd.R_elder' (by (with_reducible repeat (first | apply Kd.R_alloc | apply Kd.R_drewN | apply Kd.R_drew)); exact HO165.out) (Kd.R_base ho9) hb); have n2_ := Aside0.mk (Kd.R_lower (Kd.R_new' (Kd.R_new' (Kd.R_newM (M := fun k_ => (P1_ k_ ∨ w.heap.size ≤ k_)) ho9 (by first | exact HK.out.1 | exact (show Kept w _ (fun k_ => P1_ k_) from by repeat (first | (with_reducible first | exact HK.out | apply Kept.alloc | apply Kept.drewN | apply Kept.drew) | exact HK.out)).1) (fun k_ h_ => .inr h_)) (Kd.R_lt (by (with_reducible repeat (first | apply Kd.R_alloc | apply Kd.R_drewN | apply Kd.R_drew)); exact HO1.out))) (Kd.R_lt (by (with_reducible repeat (first | apply Kd.R_alloc | apply Kd.R_drewN | apply Kd.R_drew)); exact HO165.out))) (below_size (by repeat (first | (with_reducible first | exact HB.out | apply below_alloc | apply pw_below_drewN | apply below_drew1) | exact HB.out)))); have n3_ := Aside0.mk (Kept.below (S := (fun k_ => P1_ k_)) (by repeat (first | (with_reducible first | exact HK.out | apply Kept.alloc | apply Kept.drewN | apply Kept.drew) | exact HK.out)) hb); have n4_ := Aside0.mk (below_step (by repeat (first | (with_reducible first | exact HB.out | apply below_alloc | apply pw_below_drewN | apply below_drew1) | exact HB.out)) hb); clear HO1; clear HO165; clear HK; clear HB; have HO1 := n0_; have HO165 := n1_; have HO168 := n2_; have HK := n3_; have HB := n4_; clear n0_ n1_ n2_ n3_ n4_; clear hb ho9))
 go_loopg [11, 12] k (fun kq v11 v12 w' => ∃ (x10_1 : List Int) (x11_1 : List Int) (x12_1 : Int), v12 = .int .i64 x12_1 ∧ Aside0 (dancestudioref10_enlarge.l0 kq l0 l1 l2 x10_1 x11_1 x12_1 = some (r1, r2)) ∧ Aside0 (kq ≤ k) ∧ Aside0 (Kd.R (Kd.int .i64) 3 w' w0.heap.size (fun k_ => (P1_ k_ ∨ w.heap.size ≤ k_) ∧ some k_ ≠ (v164 : Value).ownBlock ∧ some k_ ≠ (v11 : Value).ownBlock) (.slice Ao6 l1.length co6) l1) ∧ Aside0 (Kd.R (Kd.int .i64) 3 w' w0.heap.size (fun k_ => (P1_ k_ ∨ w.heap.size ≤ k_) ∧ some k_ ≠ ((.slice Ao6 l1.length co6) : Value).ownBlock ∧ some k_ ≠ (v11 : Value).ownBlock) v164 x10_1) ∧ Aside0 (Kd.R (Kd.int .i64) 3 w' w0.heap.size (fun k_ => (P1_ k_ ∨ w.heap.size ≤ k_) ∧ some k_ ≠ ((.slice Ao6 l1.length co6) : Value).ownBlock ∧ some k_ ≠ (v164 : Value).ownBlock) v11 x11_1) ∧ Aside0 (Kept w w' (fun k_ => P1_ k_)) ∧ Aside0 (Below w0.heap.size w0 w'))
 case atStart => exact ⟨(t163), (y166), (0), (by first | rfl | (simp; done) | (simp [*]; done)), H', ⟨Nat.le_refl _⟩, ⟨by (with_reducible repeat (first | apply Kd.R_alloc | apply Kd.R_drewN | apply Kd.R_drew)); exact Kd.R_mono HO1.out (fun _ hk => ⟨hk.1.1, ⟨hk.1.2, hk.2⟩⟩)⟩, ⟨by (with_reducible repeat (first | apply Kd.R_alloc | apply Kd.R_drewN | apply Kd.R_drew)); exact Kd.R_mono HO165.out (fun _ hk => ⟨hk.1.1.1, ⟨hk.1.2, hk.2⟩⟩)⟩, ⟨by (with_reducible repeat (first | apply Kd.R_alloc | apply Kd.R_drewN | apply Kd.R_drew)); exact Kd.R_mono HO168.out (fun _ hk => ⟨hk.1.1.1, ⟨hk.1.2, hk.2⟩⟩)⟩, ⟨by repeat (first | (with_reducible first | exact HK.out | apply Kept.alloc | apply Kept.drewN | apply Kept.drew) | exact HK.out)⟩, ⟨by repeat (first | (with_reducible first | exact HB.out | apply below_alloc | apply pw_below_drewN | apply below_drew1) | exact HB.out)⟩⟩
 case round =>
  clear H'
  try clear c2
  try clear p2
  try clear c3
  obtain ⟨x10_1, x11_1, x12_1, rfl, HA, HK1, HO_1, HO_10, HO_11, HK, HB⟩ := hrel
  cases gk with
  | zero => exact absurd HA.out (by simp [dancestudioref10_enlarge.l0])
  | succ k1 =>
   have H := HA.out
   clear HA
   simp only [dancestudioref10_enlarge.l0] at H
   by_cases c10 : x12_1 < (x11_1.length : Int)
   ·
    rw [if_pos c10] at H
    have c10b0 : decide (x12_1 < (x11_1.length : Int)) = true := decide_eq_true c10
    clear c10
    have H' := Aside0.mk H
    clear H
    obtain ⟨Ao11, co11, eo11⟩ := Kd.R_slice HO_11.out
    subst eo11
    go_wp2
    go_loopg [11, 13] k1 (fun kq v11 v13 w' => ∃ (x10_2 : List Int) (x11_2 : List Int) (x13_2 : Int), v13 = .int .i64 x13_2 ∧ Aside0 (dancestudioref10_enlarge.l1 kq l0 l1 l2 x10_2 x11_2 x12_1 x13_2 = some (r1, r2)) ∧ Aside0 (kq ≤ k1) ∧ Aside0 (Kd.R (Kd.int .i64) 3 w' w0.heap.size (fun k_ => (P1_ k_ ∨ w.heap.size ≤ k_) ∧ some k_ ≠ (v164 : Value).ownBlock ∧ some k_ ≠ (v11 : Value).ownBlock) (.slice Ao6 l1.length co6) l1) ∧ Aside0 (Kd.R (Kd.int .i64) 3 w' w0.heap.size (fun k_ => (P1_ k_ ∨ w.heap.size ≤ k_) ∧ some k_ ≠ ((.slice Ao6 l1.length co6) : Value).ownBlock ∧ some k_ ≠ (v11 : Value).ownBlock) v164 x10_2) ∧ Aside0 (Kd.R (Kd.int .i64) 3 w' w0.heap.size (fun k_ => (P1_ k_ ∨ w.heap.size ≤ k_) ∧ some k_ ≠ ((.slice Ao6 l1.length co6) : Value).ownBlock ∧ some k_ ≠ (v164 : Value).ownBlock) v11 x11_2) ∧ Aside0 (Kept w w' (fun k_ => P1_ k_)) ∧ Aside0 (Below w0.heap.size w0 w'))
    case atStart => exact ⟨(x10_1), (x11_1), (0), (by first | rfl | (simp; done) | (simp [*]; done)), H', ⟨Nat.le_refl _⟩, ⟨by (with_reducible repeat (first | apply Kd.R_alloc | apply Kd.R_drewN | apply Kd.R_drew)); exact HO_1.out⟩, ⟨by (with_reducible repeat (first | apply Kd.R_alloc | apply Kd.R_drewN | apply Kd.R_drew)); exact HO_10.out⟩, ⟨by (with_reducible repeat (first | apply Kd.R_alloc | apply Kd.R_drewN | apply Kd.R_drew)); exact HO_11.out⟩, ⟨by repeat (first | (with_reducible first | exact HK.out | apply Kept.alloc | apply Kept.drewN | apply Kept.drew) | exact HK.out)⟩, ⟨by repeat (first | (with_reducible first | exact HB.out | apply below_alloc | apply pw_below_drewN | apply below_drew1) | exact HB.out)⟩⟩
    case round =>
     clear H'
     try clear c1
     try clear c2
     try clear p2
     try clear c3
     try clear c10
     try clear c10b0
     try clear p2
     obtain ⟨x10_2, x11_2, x13_2, rfl, HA, HK2, HO_1, HO_10, HO_11, HK, HB⟩ := hrel
     cases gk with
     | zero => exact absurd HA.out (by simp [dancestudioref10_enlarge.l1])
     | succ k2 =>
      have H := HA.out
      clear HA
      simp only [dancestudioref10_enlarge.l1] at H
      by_cases c12 : x13_2 < (l1.length : Int)
      ·
       rw [if_pos c12] at H
       have c12b0 : decide (x13_2 < (l1.length : Int)) = true := decide_eq_true c12
       clear c12
       have HC13 := Aside0.mk H
       clear H
       go_upto_region 8 with (fail)
       go_cut [53] (fun v53 wc => ∃ (kq : Nat) (x53_12 : Bool), v53 = .bool x53_12 ∧ Aside0 (dancestudioref10_enlarge.j2 kq l0 l1 l2 x10_2 x11_2 x12_1 x13_2 x53_12 = some (r1, r2)) ∧ Aside0 (kq ≤ k2) ∧ Aside0 (Kd.R (Kd.int .i64) 3 wc w0.heap.size (fun k_ => (P1_ k_ ∨ w.heap.size ≤ k_) ∧ some k_ ≠ (v164 : Value).ownBlock ∧ some k_ ≠ (u11 : Value).ownBlock) (.slice Ao6 l1.length co6) l1) ∧ Aside0 (Kd.R (Kd.int .i64) 3 wc w0.heap.size (fun k_ => (P1_ k_ ∨ w.heap.size ≤ k_) ∧ some k_ ≠ ((.slice Ao6 l1.length co6) : Value).ownBlock ∧ some k_ ≠ (u11 : Value).ownBlock) v164 x10_2) ∧ Aside0 (Kd.R (Kd.int .i64) 3 wc w0.heap.size (fun k_ => (P1_ k_ ∨ w.heap.size ≤ k_) ∧ some k_ ≠ ((.slice Ao6 l1.length co6) : Value).ownBlock ∧ some k_ ≠ (v164 : Value).ownBlock) u11 x11_2) ∧ Aside0 (Kept w wc (fun k_ => P1_ k_)) ∧ Aside0 (Below w0.heap.size w0 wc))
       case first =>
        have H := HC13.out
        clear HC13
        by_cases c14 : 0 ≤ x12_1
        ·
         rw [if_pos c14] at H
         have c14b0 : decide (0 ≤ x12_1) = true := decide_eq_true c14
         clear c14
         (first | rw [c14b0] | (simp only [i64_w, i32_w]; rw [c14b0]) | skip)
         by_cases c15 : x12_1 < (x11_2.length : Int)
         ·
          rw [if_pos c15] at H
          have c15b0 : decide (x12_1 < (x11_2.length : Int)) = true := decide_eq_true c15
          clear c15
          by_cases c16 : 0 ≤ (rd x11_2 x12_1)
          ·
           rw [if_pos c16] at H
           have c16b0 : decide (0 ≤ (rd x11_2 x12_1)) = true := decide_eq_true c16
           clear c16
           by_cases c17 : (rd x11_2 x12_1) < (l0.length : Int)
           ·
            rw [if_pos c17] at H
            have c17b0 : decide ((rd x11_2 x12_1) < (l0.length : Int)) = true := decide_eq_true c17
            clear c17
            by_cases c18 : 0 ≤ x13_2
            ·
             rw [if_pos c18] at H
             have c18b0 : decide (0 ≤ x13_2) = true := decide_eq_true c18
             clear c18
             by_cases c19 : x13_2 < ((rd_L1 l0 (rd x11_2 x12_1)).length : Int)
             ·
              rw [if_pos c19] at H
              have c19b0 : decide (x13_2 < ((rd_L1 l0 (rd x11_2 x12_1)).length : Int)) = true := decide_eq_true c19
              clear c19
              obtain ⟨bq20, hbq20⟩ : ∃ b_ : Bool, b_ = (rdOf false (rd_L1 l0 (rd x11_2 x12_1)) x13_2) := ⟨_, rfl⟩
              replace H : (if (bq20 = true) then (if x13_2 < (x10_2.length : Int) then (if (rd x10_2 x13_2) ≥ 0 then (dancestudioref10_enlarge.j2 k2 l0 l1 l2 x10_2 x11_2 x12_1 x13_2 true) else ((dancestudioref10_has.f k2 l2 x13_2).bind fun t173 => (dancestudioref10_enlarge.j2 k2 l0 l1 l2 x10_2 x11_2 x12_1 x13_2 t173))) else (none)) else (dancestudioref10_enlarge.j2 k2 l0 l1 l2 x10_2 x11_2 x12_1 x13_2 true)) = some (r1, r2) := by rw [← hbq20] at H; exact H
              have Nbq20 := Aside0.mk hbq20
              clear hbq20
              by_cases c21 : (bq20 = true)
              ·
               subst c21
               have H1 : (if x13_2 < (x10_2.length : Int) then (if (rd x10_2 x13_2) ≥ 0 then (dancestudioref10_enlarge.j2 k2 l0 l1 l2 x10_2 x11_2 x12_1 x13_2 true) else ((dancestudioref10_has.f k2 l2 x13_2).bind fun t173 => (dancestudioref10_enlarge.j2 k2 l0 l1 l2 x10_2 x11_2 x12_1 x13_2 t173))) else (none)) = some (r1, r2) := by rw [if_pos rfl] at H; exact H
               clear H
               have H := H1
               clear H1
               by_cases c22 : x13_2 < (x10_2.length : Int)
               ·
                rw [if_pos c22] at H
                have c22b0 : decide (x13_2 < (x10_2.length : Int)) = true := decide_eq_true c22
                clear c22
                by_cases c23 : (rd x10_2 x13_2) ≥ 0
                ·
                 rw [if_pos c23] at H
                 have c23b0 : decide (0 ≤ (rd x10_2 x13_2)) = true := decide_eq_true c23
                 clear c23
                 have H' := Aside0.mk H
                 clear H
                 obtain ⟨Ao24, co24, eo24⟩ := Kd.R_slice HO_11.out
                 subst eo24
                 have p169 : 0 ≤ (x12_1 : Int) := of_decide_eq_true (by first | (with_reducible assumption) | assumption)
                 have q169 : x12_1 < (x11_2.length : Int) := of_decide_eq_true (by first | (with_reducible assumption) | assumption)
                 obtain ⟨ad169, e169, hx169_0⟩ := Kd.at_int (Kd.R_reads' HO_11.out).2.2 x12_1 p169 q169
                 cases e169
                 replace p169 := eq_true p169
                 replace q169 := eq_true q169
                 have p170 : 0 ≤ ((rd x11_2 x12_1) : Int) := of_decide_eq_true (by first | (with_reducible assumption) | assumption)
                 have q170 : (rd x11_2 x12_1) < (l0.length : Int) := of_decide_eq_true (by first | (with_reducible assumption) | assumption)
                 obtain ⟨ad170, A170_0, c170_0, e170, hx170_0, hl170_0, hi170_0⟩ := at_L1 (Kd.C_kept_now HR0.out HK.out) (rd x11_2 x12_1) p170 q170
                 cases e170
                 have HR170_0 := Aside0.mk hi170_0
                 have HC170_0 := Aside0.mk hl170_0
                 clear hi170_0 hl170_0
                 replace p170 := eq_true p170
                 replace q170 := eq_true q170
                 have p171 : 0 ≤ (x13_2 : Int) := of_decide_eq_true (by first | (with_reducible assumption) | assumption)
                 have q171 : x13_2 < ((rd_L1 l0 (rd x11_2 x12_1)).length : Int) := of_decide_eq_true (by first | (with_reducible assumption) | assumption)
                 obtain ⟨ad171, e171, hx171_0⟩ := Kd.at_bool (by repeat (first | (with_reducible exact HR170_0.out) | (with_reducible refine Kd.C_alloc ?_ _) | (with_reducible refine Kd.C_drewN ?_ _) | (with_reducible refine Kd.C_drew ?_) | exact HR170_0.out)) x13_2 p171 q171
                 (try rw [← Nbq20.out] at hx171_0)
                 cases e171
                 replace p171 := eq_true p171
                 replace q171 := eq_true q171
                 obtain ⟨Ao25, co25, eo25⟩ := Kd.R_slice HO_10.out
                 subst eo25
                 have p172 : 0 ≤ (x13_2 : Int) := of_decide_eq_true (by first | (with_reducible assumption) | assumption)
                 have q172 : x13_2 < (x10_2.length : Int) := of_decide_eq_true (by first | (with_reducible assumption) | assumption)
                 obtain ⟨ad172, e172, hx172_0⟩ := Kd.at_int (Kd.R_reads' HO_10.out).2.2 x13_2 p172 q172
                 cases e172
                 replace p172 := eq_true p172
                 replace q172 := eq_true q172
                 go_wp2
                 go_meet
                 case rel => exact ⟨_, (true), (by first | rfl | (simp; done) | (simp [*]; done)), H', ⟨by have := HK1.out; have := HK2.out; first | omega | exact Nat.le_refl _⟩, ⟨by (with_reducible repeat (first | apply Kd.R_alloc | apply Kd.R_drewN | apply Kd.R_drew)); exact HO_1.out⟩, ⟨by (with_reducible repeat (first | apply Kd.R_alloc | apply Kd.R_drewN | apply Kd.R_drew)); exact HO_10.out⟩, ⟨by (with_reducible repeat (first | apply Kd.R_alloc | apply Kd.R_drewN | apply Kd.R_drew)); exact HO_11.out⟩, ⟨by repeat (first | (with_reducible first | exact HK.out | apply Kept.alloc | apply Kept.drewN | apply Kept.drew) | exact HK.out)⟩, ⟨by repeat (first | (with_reducible first | exact HB.out | apply below_alloc | apply pw_below_drewN | apply below_drew1) | exact HB.out)⟩⟩
                ·
                 rw [if_neg c23] at H
                 have c23b0 : decide (0 ≤ (rd x10_2 x13_2)) = false := decide_eq_false c23
                 clear c23
                 replace H := Option.bind_eq_some_iff.mp H
                 obtain ⟨t173, A260, H⟩ := H
                 replace H : (dancestudioref10_enlarge.j2 k2 l0 l1 l2 x10_2 x11_2 x12_1 x13_2 t173) = some (r1, r2) := H
                 have A26 := Aside0.mk A260
                 clear A260
                 have H' := Aside0.mk H
                 clear H
                 obtain ⟨Ao27, co27, eo27⟩ := Kd.R_slice HO_11.out
                 subst eo27
                 have p169 : 0 ≤ (x12_1 : Int) := of_decide_eq_true (by first | (with_reducible assumption) | assumption)
                 have q169 : x12_1 < (x11_2.length : Int) := of_decide_eq_true (by first | (with_reducible assumption) | assumption)
                 obtain ⟨ad169, e169, hx169_0⟩ := Kd.at_int (Kd.R_reads' HO_11.out).2.2 x12_1 p169 q169
                 cases e169
                 replace p169 := eq_true p169
                 replace q169 := eq_true q169
                 have p170 : 0 ≤ ((rd x11_2 x12_1) : Int) := of_decide_eq_true (by first | (with_reducible assumption) | assumption)
                 have q170 : (rd x11_2 x12_1) < (l0.length : Int) := of_decide_eq_true (by first | (with_reducible assumption) | assumption)
                 obtain ⟨ad170, A170_0, c170_0, e170, hx170_0, hl170_0, hi170_0⟩ := at_L1 (Kd.C_kept_now HR0.out HK.out) (rd x11_2 x12_1) p170 q170
                 cases e170
                 have HR170_0 := Aside0.mk hi170_0
                 have HC170_0 := Aside0.mk hl170_0
                 clear hi170_0 hl170_0
                 replace p170 := eq_true p170
                 replace q170 := eq_true q170
                 have p171 : 0 ≤ (x13_2 : Int) := of_decide_eq_true (by first | (with_reducible assumption) | assumption)
                 have q171 : x13_2 < ((rd_L1 l0 (rd x11_2 x12_1)).length : Int) := of_decide_eq_true (by first | (with_reducible assumption) | assumption)
                 obtain ⟨ad171, e171, hx171_0⟩ := Kd.at_bool (by repeat (first | (with_reducible exact HR170_0.out) | (with_reducible refine Kd.C_alloc ?_ _) | (with_reducible refine Kd.C_drewN ?_ _) | (with_reducible refine Kd.C_drew ?_) | exact HR170_0.out)) x13_2 p171 q171
                 (try rw [← Nbq20.out] at hx171_0)
                 cases e171
                 replace p171 := eq_true p171
                 replace q171 := eq_true q171
                 obtain ⟨Ao28, co28, eo28⟩ := Kd.R_slice HO_10.out
                 subst eo28
                 have p172 : 0 ≤ (x13_2 : Int) := of_decide_eq_true (by first | (with_reducible assumption) | assumption)
                 have q172 : x13_2 < (x10_2.length : Int) := of_decide_eq_true (by first | (with_reducible assumption) | assumption)
                 obtain ⟨ad172, e172, hx172_0⟩ := Kd.at_int (Kd.R_reads' HO_10.out).2.2 x13_2 p172 q172
                 cases e172
                 replace p172 := eq_true p172
                 replace q172 := eq_true q172
                 go_wp2_with (first | (go_at_call 29; (with_reducible refine (dancestudioref10_has.calls k2 _ _ l2 x13_2 t173 _ ?side1 ?side2 A26.out).mono ?_); (case side1 => exact Kd.C_kept_now HR2.out (by repeat (first | (with_reducible first | exact HK.out | apply Kept.alloc | apply Kept.drewN | apply Kept.drew) | exact HK.out))); (case side2 => exact HC2.out); rintro e w' ⟨rfl, ⟨nd, rfl⟩⟩))
                 go_meet
                 case rel => exact ⟨_, (t173), (by first | rfl | (simp; done) | (simp [*]; done)), H', ⟨by have := HK1.out; have := HK2.out; first | omega | exact Nat.le_refl _⟩, ⟨by (with_reducible repeat (first | apply Kd.R_alloc | apply Kd.R_drewN | apply Kd.R_drew)); exact HO_1.out⟩, ⟨by (with_reducible repeat (first | apply Kd.R_alloc | apply Kd.R_drewN | apply Kd.R_drew)); exact HO_10.out⟩, ⟨by (with_reducible repeat (first | apply Kd.R_alloc | apply Kd.R_drewN | apply Kd.R_drew)); exact HO_11.out⟩, ⟨by repeat (first | (with_reducible first | exact HK.out | apply Kept.alloc | apply Kept.drewN | apply Kept.drew) | exact HK.out)⟩, ⟨by repeat (first | (with_reducible first | exact HB.out | apply below_alloc | apply pw_below_drewN | apply below_drew1) | exact HB.out)⟩⟩
               ·
                rw [if_neg c22] at H
                exact absurd H (by simp)
              ·
               replace c21 := Bool.eq_false_iff.mpr c21
               subst c21
               have H1 : (dancestudioref10_enlarge.j2 k2 l0 l1 l2 x10_2 x11_2 x12_1 x13_2 true) = some (r1, r2) := by rw [if_neg (show ¬ (false = true) by decide)] at H; exact H
               clear H
               have H := H1
               clear H1
               have H' := Aside0.mk H
               clear H
               obtain ⟨Ao29, co29, eo29⟩ := Kd.R_slice HO_11.out
               subst eo29
               have p169 : 0 ≤ (x12_1 : Int) := of_decide_eq_true (by first | (with_reducible assumption) | assumption)
               have q169 : x12_1 < (x11_2.length : Int) := of_decide_eq_true (by first | (with_reducible assumption) | assumption)
               obtain ⟨ad169, e169, hx169_0⟩ := Kd.at_int (Kd.R_reads' HO_11.out).2.2 x12_1 p169 q169
               cases e169
               replace p169 := eq_true p169
               replace q169 := eq_true q169
               have p170 : 0 ≤ ((rd x11_2 x12_1) : Int) := of_decide_eq_true (by first | (with_reducible assumption) | assumption)
               have q170 : (rd x11_2 x12_1) < (l0.length : Int) := of_decide_eq_true (by first | (with_reducible assumption) | assumption)
               obtain ⟨ad170, A170_0, c170_0, e170, hx170_0, hl170_0, hi170_0⟩ := at_L1 (Kd.C_kept_now HR0.out HK.out) (rd x11_2 x12_1) p170 q170
               cases e170
               have HR170_0 := Aside0.mk hi170_0
               have HC170_0 := Aside0.mk hl170_0
               clear hi170_0 hl170_0
               replace p170 := eq_true p170
               replace q170 := eq_true q170
               have p171 : 0 ≤ (x13_2 : Int) := of_decide_eq_true (by first | (with_reducible assumption) | assumption)
               have q171 : x13_2 < ((rd_L1 l0 (rd x11_2 x12_1)).length : Int) := of_decide_eq_true (by first | (with_reducible assumption) | assumption)
               obtain ⟨ad171, e171, hx171_0⟩ := Kd.at_bool (by repeat (first | (with_reducible exact HR170_0.out) | (with_reducible refine Kd.C_alloc ?_ _) | (with_reducible refine Kd.C_drewN ?_ _) | (with_reducible refine Kd.C_drew ?_) | exact HR170_0.out)) x13_2 p171 q171
               (try rw [← Nbq20.out] at hx171_0)
               cases e171
               replace p171 := eq_true p171
               replace q171 := eq_true q171
               go_wp2
               go_meet
               case rel => exact ⟨_, (true), (by first | rfl | (simp; done) | (simp [*]; done)), H', ⟨by have := HK1.out; have := HK2.out; first | omega | exact Nat.le_refl _⟩, ⟨by (with_reducible repeat (first | apply Kd.R_alloc | apply Kd.R_drewN | apply Kd.R_drew)); exact HO_1.out⟩, ⟨by (with_reducible repeat (first | apply Kd.R_alloc | apply Kd.R_drewN | apply Kd.R_drew)); exact HO_10.out⟩, ⟨by (with_reducible repeat (first | apply Kd.R_alloc | apply Kd.R_drewN | apply Kd.R_drew)); exact HO_11.out⟩, ⟨by repeat (first | (with_reducible first | exact HK.out | apply Kept.alloc | apply Kept.drewN | apply Kept.drew) | exact HK.out)⟩, ⟨by repeat (first | (with_reducible first | exact HB.out | apply below_alloc | apply pw_below_drewN | apply below_drew1) | exact HB.out)⟩⟩
             ·
              rw [if_neg c19] at H
              exact absurd H (by simp)
            ·
             rw [if_neg c18] at H
             exact absurd H (by simp)
           ·
            rw [if_neg c17] at H
            exact absurd H (by simp)
          ·
           rw [if_neg c16] at H
           exact absurd H (by simp)
         ·
          rw [if_neg c15] at H
          exact absurd H (by simp)
        ·
         rw [if_neg c14] at H
         exact absurd H (by simp)
       case rest =>
        clear HC13
        try clear c1
        try clear p1
        try clear q1
        try clear hx1
        try clear c2
        try clear p2
        try clear q2
        try clear c3
        try clear c10
        try clear c10b0
        try clear c12
        try clear c12b0
        try clear c14
        try clear c14b0
        try clear c15
        try clear c15b0
        try clear c16
        try clear c16b0
        try clear p16
        try clear q16
        try clear hx16
        try clear c17
        try clear c17b0
        try clear p17
        try clear q17
        try clear hx17
        try clear c18
        try clear c18b0
        try clear c19
        try clear c19b0
        try clear q20
        try clear c21
        try clear c22
        try clear c22b0
        try clear c23
        try clear c23b0
        try clear hx169_0
        try clear hx170_0
        try clear hx171_0
        try clear hx172_0
        try clear p169
        try clear p170
        try clear p171
        try clear p172
        try clear p2
        try clear q169
        try clear q170
        try clear q171
        try clear q172
        obtain ⟨kq, x53_12, rfl, HA, HJ12, HO_1, HO_10, HO_11, HK, HB⟩ := hcut
        cases kq with
        | zero => exact absurd HA.out (by simp [dancestudioref10_enlarge.j2])
        | succ kj12 =>
         have H := HA.out
         clear HA
         simp only [dancestudioref10_enlarge.j2] at H
         by_cases c30 : x53_12 = true
         ·
          subst c30
          have H1 : (dancestudioref10_enlarge.l1 kj12 l0 l1 l2 x10_2 x11_2 x12_1 (wrap64 (x13_2 + 1))) = some (r1, r2) := by rw [if_pos rfl] at H; exact H
          clear H
          have H := H1
          clear H1
          have H' := Aside0.mk H
          clear H
          go_wp2
          go_roundg kj12
          case measure => have := HK1.out; have := HK2.out; have := HJ12.out; omega
          case rel => exact ⟨(x10_2), (x11_2), (wrap64 (x13_2 + 1)), (by first | rfl | (simp; done) | (simp [*]; done)), H', ⟨by have := HK1.out; have := HK2.out; have := HJ12.out; omega⟩, ⟨by (with_reducible repeat (first | apply Kd.R_alloc | apply Kd.R_drewN | apply Kd.R_drew)); exact HO_1.out⟩, ⟨by (with_reducible repeat (first | apply Kd.R_alloc | apply Kd.R_drewN | apply Kd.R_drew)); exact HO_10.out⟩, ⟨by (with_reducible repeat (first | apply Kd.R_alloc | apply Kd.R_drewN | apply Kd.R_drew)); exact HO_11.out⟩, ⟨by repeat (first | (with_reducible first | exact HK.out | apply Kept.alloc | apply Kept.drewN | apply Kept.drew) | exact HK.out)⟩, ⟨by repeat (first | (with_reducible first | exact HB.out | apply below_alloc | apply pw_below_drewN | apply below_drew1) | exact HB.out)⟩⟩
         ·
          replace c30 := Bool.eq_false_iff.mpr c30
          subst c30
          have H1 : (if 0 ≤ x12_1 then (if x12_1 < (x11_2.length : Int) then (if 0 ≤ x13_2 then (if x13_2 < (x10_2.length : Int) then ((some (x10_2.set (x13_2 : Int).toNat (rd x11_2 x12_1) : List Int)).bind fun y175 => (if x13_2 < (l1.length : Int) then (if (rd l1 x13_2) < 0 then ((dancestudioref10_exchange.f kj12 l1 y175 x13_2).bind fun t177 => (some (t177, true))) else (if x11_2.length < 17592186044416 then (dancestudioref10_enlarge.l1 kj12 l0 l1 l2 y175 (x11_2 ++ [rd l1 x13_2]) x12_1 (wrap64 (x13_2 + 1))) else (none))) else (none))) else (none)) else (none)) else (none)) else (none)) = some (r1, r2) := by rw [if_neg (show ¬ (false = true) by decide)] at H; exact H
          clear H
          have H := H1
          clear H1
          by_cases c31 : 0 ≤ x12_1
          ·
           rw [if_pos c31] at H
           have c31b0 : decide (0 ≤ x12_1) = true := decide_eq_true c31
           clear c31
           by_cases c32 : x12_1 < (x11_2.length : Int)
           ·
            rw [if_pos c32] at H
            have c32b0 : decide (x12_1 < (x11_2.length : Int)) = true := decide_eq_true c32
            clear c32
            by_cases c33 : 0 ≤ x13_2
            ·
             rw [if_pos c33] at H
             have c33b0 : decide (0 ≤ x13_2) = true := decide_eq_true c33
             clear c33
             by_cases c34 : x13_2 < (x10_2.length : Int)
             ·
              rw [if_pos c34] at H
              have c34b0 : decide (x13_2 < (x10_2.length : Int)) = true := decide_eq_true c34
              clear c34
              obtain ⟨y175, hy175⟩ : ∃ y_ : List Int, y_ = (x10_2.set (x13_2 : Int).toNat (rd x11_2 x12_1)) := ⟨_, rfl⟩
              replace H : (if x13_2 < (l1.length : Int) then (if (rd l1 x13_2) < 0 then ((dancestudioref10_exchange.f kj12 l1 y175 x13_2).bind fun t177 => (some (t177, true))) else (if x11_2.length < 17592186044416 then (dancestudioref10_enlarge.l1 kj12 l0 l1 l2 y175 (x11_2 ++ [rd l1 x13_2]) x12_1 (wrap64 (x13_2 + 1))) else (none))) else (none)) = some (r1, r2) := by first | (rw [hy175]; with_reducible exact H) | (have H2_ := (Option.bind_some _ _).symm.trans H; rw [hy175]; with_reducible exact H2_) | (have H2_ := (Option.bind_some _ _).symm.trans H; with_reducible exact H2_) | with_reducible exact H | (rw [hy175]; exact H) | exact H
              have Ny175 := Aside0.mk hy175
              clear hy175
              by_cases c36 : x13_2 < (l1.length : Int)
              ·
               rw [if_pos c36] at H
               have c36b0 : decide (x13_2 < (l1.length : Int)) = true := decide_eq_true c36
               clear c36
               by_cases c37 : (rd l1 x13_2) < 0
               ·
                rw [if_pos c37] at H
                have c37b0 : decide ((rd l1 x13_2) < 0) = true := decide_eq_true c37
                clear c37
                replace H := Option.bind_eq_some_iff.mp H
                obtain ⟨t177, A380, H⟩ := H
                replace H : (some (t177, true)) = some (r1, r2) := H
                have A38 := Aside0.mk A380
                clear A380
                simp only [Option.some.injEq, Prod.mk.injEq] at H
                obtain ⟨rfl, rfl⟩ := H
                obtain ⟨Ao39, co39, eo39⟩ := Kd.R_slice HO_11.out
                subst eo39
                have p174 : 0 ≤ (x12_1 : Int) := of_decide_eq_true (by first | (with_reducible assumption) | assumption)
                have q174 : x12_1 < (x11_2.length : Int) := of_decide_eq_true (by first | (with_reducible assumption) | assumption)
                obtain ⟨ad174, e174, hx174_0⟩ := Kd.at_int (Kd.R_reads' HO_11.out).2.2 x12_1 p174 q174
                cases e174
                replace p174 := eq_true p174
                replace q174 := eq_true q174
                have p35 : 0 ≤ (x13_2 : Int) := of_decide_eq_true (by first | (with_reducible assumption) | assumption)
                have q35 : (x13_2 : Int) < ((x10_2.length : Int) : Int) := of_decide_eq_true (by first | (with_reducible assumption) | assumption)
                obtain ⟨go35, co35, eo35, gb35, gl35, cl35, HG35⟩ := Kd.R_form HO_10.out (by omega)
                (first | cases eo35 | (injection eo35 with ea_ en_ ec_; (first | subst ea_ | (injection ea_ with ea_; subst ea_)); subst ec_; clear en_))
                have GB35 := Aside0.mk gb35
                have GG35 := Aside0.mk HG35
                clear gb35 gl35 HG35
                have HMgo35 := Aside0.mk (show (P1_ go35 ∨ w.heap.size ≤ go35) from (HO_10.out.1 _ rfl).1)
                obtain ⟨hx35_0, hf35_0⟩ := Kd.R_celln 0 HO_10.out (x13_2 : Int) p35 q35
                replace p35 := eq_true p35
                replace q35 := eq_true q35
                have HP40 := Kd.R_putg HO_10.out (x13_2 : Int) (rd x11_2 x12_1)
                go_wp2_with (first | ((with_reducible refine gate_store (t := 3) (p := 60) rfl ?_); refine store_event (t := 3) (p := 60) (v := ?vo_w41) (w1 := (wc.setCell ⟨go35, (x13_2 : Int).toNat, none⟩ (.int .i64 (rd x11_2 x12_1)))) ?hg ?ho ?hn ?hr ?_; (case ho => rfl); (case hg => rfl); (case hn => rfl); (case hr => first | (go_simp; done) | (go_simp; rfl)); intro w41 hw; have hg : wc.grownBy w41 (some go35) := (by rw [hw]; exact HP40.2); have hp_ : Kd.R (Kd.int .i64) 3 w41 w0.heap.size (fun k_ => (P1_ k_ ∨ w.heap.size ≤ k_) ∧ some k_ ≠ (.slice Ao6 l1.length co6 : Value).ownBlock ∧ some k_ ≠ (.slice (some ad174) x11_2.length co39 : Value).ownBlock) (.slice (some ⟨go35, 0, none⟩) x10_2.length co35) y175 := (by rw [hw, Ny175.out]; exact HP40.1); clear HP40; have n0_ := Aside0.mk (Kd.R_after (v := (.slice (some ⟨go35, 0, none⟩) x10_2.length co35)) (v1 := (.slice (some ⟨go35, 0, none⟩) x10_2.length co35)) (ok := (fun k_ => (P1_ k_ ∨ w.heap.size ≤ k_) ∧ some k_ ≠ (.slice (some ad174) x11_2.length co39 : Value).ownBlock)) (by (with_reducible repeat (first | apply Kd.R_alloc | apply Kd.R_drewN | apply Kd.R_drew)); exact Kd.R_mono HO_1.out (fun _ hk => ⟨⟨hk.1, hk.2.2⟩, hk.2.1⟩)) hg (.inl rfl)); have n1_ := Aside0.mk (hp_); have n2_ := Aside0.mk (Kd.R_after (v := (.slice (some ⟨go35, 0, none⟩) x10_2.length co35)) (v1 := (.slice (some ⟨go35, 0, none⟩) x10_2.length co35)) (ok := (fun k_ => (P1_ k_ ∨ w.heap.size ≤ k_) ∧ some k_ ≠ (.slice Ao6 l1.length co6 : Value).ownBlock)) (by (with_reducible repeat (first | apply Kd.R_alloc | apply Kd.R_drewN | apply Kd.R_drew)); exact Kd.R_mono HO_11.out (fun _ hk => ⟨⟨hk.1, hk.2.1⟩, hk.2.2⟩)) hg (.inl rfl)); have n3_ := Aside0.mk ((by rw [hw]; exact below_set (HB.out) GB35.out : Below w0.heap.size w0 w41)); have n4_ := Aside0.mk (Kept.of_grown (S := (fun k_ => P1_ k_)) hg (by repeat (first | (with_reducible first | exact HK.out | apply Kept.alloc | apply Kept.drewN | apply Kept.drew) | exact HK.out)) (fun k_ e_ => (HO_10.out.1 k_ e_).1)); clear HO_1; clear HO_10; clear HO_11; clear HB; clear HK; have HO_1 := n0_; have HO_10 := n1_; have HO_11 := n2_; have HB := n3_; have HK := n4_; clear n0_ n1_ n2_ n3_ n4_; clear hg hw hp_; have p176 : 0 ≤ (x13_2 : Int) := of_decide_eq_true (by first | (with_reducible assumption) | assumption); have q176 : x13_2 < (l1.length : Int) := of_decide_eq_true (by first | (with_reducible assumption) | assumption); obtain ⟨ad176, e176, hx176_0⟩ := Kd.at_int (Kd.R_reads' HO_1.out).2.2 x13_2 p176 q176; cases e176; replace p176 := eq_true p176; replace q176 := eq_true q176) | ((with_reducible refine gate_callee (f := 34) rfl ?_); refine goesL_ (some 69) rfl rfl Try.func34 (by kernel_rfl) rfl #[.slice (some ad176) l1.length co6, .slice (some ⟨go35, 0, none⟩) y175.length co35, .int .i64 x13_2] rfl (by (try simp only [List.map_toArray, List.map_cons, List.map_nil]); first | done | (rw [show y175.length = x10_2.length from (Kd.R_reads' HO_10.out).1.symm] <;> rfl) | rfl | (simp only [List.length_drop, List.length_take]; rfl)) ?_; (with_reducible refine (dancestudioref10_exchange.calls kj12 _ _ l1 _ _ y175 x13_2 t177 _ ?side1 ?side2 ?side3 ?side4 A38.out).mono ?_); (case side1 => repeat (first | exact (Kd.R_reads' HO_1.out).2.2 | (with_reducible refine Kd.C_alloc ?_ _) | (with_reducible refine Kd.C_drewN ?_ _) | (with_reducible refine Kd.C_drew ?_))); (case side2 => exact (Kd.R_reads' HO_1.out).2.1); (case side3 => repeat (first | exact (Kd.R_reads' HO_10.out).2.2 | (with_reducible refine Kd.C_alloc ?_ _) | (with_reducible refine Kd.C_drewN ?_ _) | (with_reducible refine Kd.C_drew ?_))); (case side4 => rw [show y175.length = x10_2.length from (Kd.R_reads' HO_10.out).1.symm]; exact (Kd.R_reads' HO_10.out).2.1); rintro e w42 ⟨v178, rfl, ho0, hb⟩; refine ⟨_, rfl, ?_⟩; have n0_ := Aside0.mk (Kd.R_elder' (by (with_reducible repeat (first | apply Kd.R_alloc | apply Kd.R_drewN | apply Kd.R_drew)); exact HO_1.out) (Kd.R_base ho0) hb); have n1_ := Aside0.mk (Kd.R_elder' (by (with_reducible repeat (first | apply Kd.R_alloc | apply Kd.R_drewN | apply Kd.R_drew)); exact HO_10.out) (Kd.R_base ho0) hb); have n2_ := Aside0.mk (Kd.R_elder' (by (with_reducible repeat (first | apply Kd.R_alloc | apply Kd.R_drewN | apply Kd.R_drew)); exact HO_11.out) (Kd.R_base ho0) hb); have n3_ := Aside0.mk (Kd.R_lower (Kd.R_new' (Kd.R_new' (Kd.R_new' (Kd.R_newM (M := fun k_ => (P1_ k_ ∨ w.heap.size ≤ k_)) ho0 (by first | exact HK.out.1 | exact (show Kept w _ (fun k_ => P1_ k_) from by repeat (first | (with_reducible first | exact HK.out | apply Kept.alloc | apply Kept.drewN | apply Kept.drew) | exact HK.out)).1) (fun k_ h_ => .inr h_)) (Kd.R_lt (by (with_reducible repeat (first | apply Kd.R_alloc | apply Kd.R_drewN | apply Kd.R_drew)); exact HO_1.out))) (Kd.R_lt (by (with_reducible repeat (first | apply Kd.R_alloc | apply Kd.R_drewN | apply Kd.R_drew)); exact HO_10.out))) (Kd.R_lt (by (with_reducible repeat (first | apply Kd.R_alloc | apply Kd.R_drewN | apply Kd.R_drew)); exact HO_11.out))) (below_size (by repeat (first | (with_reducible first | exact HB.out | apply below_alloc | apply pw_below_drewN | apply below_drew1) | exact HB.out)))); have n4_ := Aside0.mk (Kept.below (S := (fun k_ => P1_ k_)) (by repeat (first | (with_reducible first | exact HK.out | apply Kept.alloc | apply Kept.drewN | apply Kept.drew) | exact HK.out)) hb); have n5_ := Aside0.mk (below_step (by repeat (first | (with_reducible first | exact HB.out | apply below_alloc | apply pw_below_drewN | apply below_drew1) | exact HB.out)) hb); clear HO_1; clear HO_10; clear HO_11; clear HK; clear HB; have HO_1 := n0_; have HO_10 := n1_; have HO_11 := n2_; have HO179 := n3_; have HK := n4_; have HB := n5_; clear n0_ n1_ n2_ n3_ n4_ n5_; (try clear hb); (try clear hb2); (try clear hk); (try clear hi); (try clear ho0)))
                go_ret2
                exact ⟨_, by first | rfl | (simp [errW_none, errW_some] <;> rfl) | (simp [*, errW_none, errW_some] <;> rfl), by (with_reducible repeat (first | apply Kd.R_alloc | apply Kd.R_drewN | apply Kd.R_drew)); exact Kd.R_mono HO179.out (fun _ hk => hk.1.1.1.1), by repeat (first | (with_reducible first | exact HB.out | apply below_alloc | apply pw_below_drewN | apply below_drew1) | exact HB.out), by repeat (first | (with_reducible first | exact HK.out | apply Kept.alloc | apply Kept.drewN | apply Kept.drew) | exact HK.out)⟩
               ·
                rw [if_neg c37] at H
                have c37b0 : decide ((rd l1 x13_2) < 0) = false := decide_eq_false c37
                clear c37
                by_cases c43 : x11_2.length < 17592186044416
                ·
                 rw [if_pos c43] at H
                 have LMc43 := Aside0.mk c43
                 clear c43
                 obtain ⟨y181, hy181⟩ : ∃ y_ : List Int, y_ = (x11_2 ++ [rd l1 x13_2]) := ⟨_, rfl⟩
                 replace H : (dancestudioref10_enlarge.l1 kj12 l0 l1 l2 y175 y181 x12_1 (wrap64 (x13_2 + 1))) = some (r1, r2) := by first | (rw [hy181]; with_reducible exact H) | (have H2_ := (Option.bind_some _ _).symm.trans H; rw [hy181]; with_reducible exact H2_) | (have H2_ := (Option.bind_some _ _).symm.trans H; with_reducible exact H2_) | with_reducible exact H | (rw [hy181]; exact H) | exact H
                 have Ny181 := Aside0.mk hy181
                 clear hy181
                 have H' := Aside0.mk H
                 clear H
                 obtain ⟨Ao44, co44, eo44⟩ := Kd.R_slice HO_11.out
                 subst eo44
                 have p174 : 0 ≤ (x12_1 : Int) := of_decide_eq_true (by first | (with_reducible assumption) | assumption)
                 have q174 : x12_1 < (x11_2.length : Int) := of_decide_eq_true (by first | (with_reducible assumption) | assumption)
                 obtain ⟨ad174, e174, hx174_0⟩ := Kd.at_int (Kd.R_reads' HO_11.out).2.2 x12_1 p174 q174
                 cases e174
                 replace p174 := eq_true p174
                 replace q174 := eq_true q174
                 have p35 : 0 ≤ (x13_2 : Int) := of_decide_eq_true (by first | (with_reducible assumption) | assumption)
                 have q35 : (x13_2 : Int) < ((x10_2.length : Int) : Int) := of_decide_eq_true (by first | (with_reducible assumption) | assumption)
                 obtain ⟨go35, co35, eo35, gb35, gl35, cl35, HG35⟩ := Kd.R_form HO_10.out (by omega)
                 (first | cases eo35 | (injection eo35 with ea_ en_ ec_; (first | subst ea_ | (injection ea_ with ea_; subst ea_)); subst ec_; clear en_))
                 have GB35 := Aside0.mk gb35
                 have GG35 := Aside0.mk HG35
                 clear gb35 gl35 HG35
                 have HMgo35 := Aside0.mk (show (P1_ go35 ∨ w.heap.size ≤ go35) from (HO_10.out.1 _ rfl).1)
                 obtain ⟨hx35_0, hf35_0⟩ := Kd.R_celln 0 HO_10.out (x13_2 : Int) p35 q35
                 replace p35 := eq_true p35
                 replace q35 := eq_true q35
                 have HP45 := Kd.R_putg HO_10.out (x13_2 : Int) (rd x11_2 x12_1)
                 go_wp2_with (first | ((with_reducible refine gate_store (t := 3) (p := 60) rfl ?_); refine store_event (t := 3) (p := 60) (v := ?vo_w46) (w1 := (wc.setCell ⟨go35, (x13_2 : Int).toNat, none⟩ (.int .i64 (rd x11_2 x12_1)))) ?hg ?ho ?hn ?hr ?_; (case ho => rfl); (case hg => rfl); (case hn => rfl); (case hr => first | (go_simp; done) | (go_simp; rfl)); intro w46 hw; have hg : wc.grownBy w46 (some go35) := (by rw [hw]; exact HP45.2); have hp_ : Kd.R (Kd.int .i64) 3 w46 w0.heap.size (fun k_ => (P1_ k_ ∨ w.heap.size ≤ k_) ∧ some k_ ≠ (.slice Ao6 l1.length co6 : Value).ownBlock ∧ some k_ ≠ (.slice (some ad174) x11_2.length co44 : Value).ownBlock) (.slice (some ⟨go35, 0, none⟩) x10_2.length co35) y175 := (by rw [hw, Ny175.out]; exact HP45.1); clear HP45; have n0_ := Aside0.mk (Kd.R_after (v := (.slice (some ⟨go35, 0, none⟩) x10_2.length co35)) (v1 := (.slice (some ⟨go35, 0, none⟩) x10_2.length co35)) (ok := (fun k_ => (P1_ k_ ∨ w.heap.size ≤ k_) ∧ some k_ ≠ (.slice (some ad174) x11_2.length co44 : Value).ownBlock)) (by (with_reducible repeat (first | apply Kd.R_alloc | apply Kd.R_drewN | apply Kd.R_drew)); exact Kd.R_mono HO_1.out (fun _ hk => ⟨⟨hk.1, hk.2.2⟩, hk.2.1⟩)) hg (.inl rfl)); have n1_ := Aside0.mk (hp_); have n2_ := Aside0.mk (Kd.R_after (v := (.slice (some ⟨go35, 0, none⟩) x10_2.length co35)) (v1 := (.slice (some ⟨go35, 0, none⟩) x10_2.length co35)) (ok := (fun k_ => (P1_ k_ ∨ w.heap.size ≤ k_) ∧ some k_ ≠ (.slice Ao6 l1.length co6 : Value).ownBlock)) (by (with_reducible repeat (first | apply Kd.R_alloc | apply Kd.R_drewN | apply Kd.R_drew)); exact Kd.R_mono HO_11.out (fun _ hk => ⟨⟨hk.1, hk.2.1⟩, hk.2.2⟩)) hg (.inl rfl)); have n3_ := Aside0.mk ((by rw [hw]; exact below_set (HB.out) GB35.out : Below w0.heap.size w0 w46)); have n4_ := Aside0.mk (Kept.of_grown (S := (fun k_ => P1_ k_)) hg (by repeat (first | (with_reducible first | exact HK.out | apply Kept.alloc | apply Kept.drewN | apply Kept.drew) | exact HK.out)) (fun k_ e_ => (HO_10.out.1 k_ e_).1)); clear HO_1; clear HO_10; clear HO_11; clear HB; clear HK; have HO_1 := n0_; have HO_10 := n1_; have HO_11 := n2_; have HB := n3_; have HK := n4_; clear n0_ n1_ n2_ n3_ n4_; clear hg hw hp_; have p176 : 0 ≤ (x13_2 : Int) := of_decide_eq_true (by first | (with_reducible assumption) | assumption); have q176 : x13_2 < (l1.length : Int) := of_decide_eq_true (by first | (with_reducible assumption) | assumption); obtain ⟨ad176, e176, hx176_0⟩ := Kd.at_int (Kd.R_reads' HO_1.out).2.2 x13_2 p176 q176; cases e176; replace p176 := eq_true p176; replace q176 := eq_true q176; have p180 : 0 ≤ (x13_2 : Int) := of_decide_eq_true (by first | (with_reducible assumption) | assumption); have q180 : x13_2 < (l1.length : Int) := of_decide_eq_true (by first | (with_reducible assumption) | assumption); obtain ⟨ad180, e180, hx180_0⟩ := Kd.at_int (Kd.R_reads' HO_1.out).2.2 x13_2 p180 q180; obtain rfl : ad176 = ad180 := (by injection e180); replace p180 := eq_true p180; replace q180 := eq_true q180) | ((with_reducible refine gate_builtin (b := .append) (xs := #[.tmp 70, .tmp 75]) rfl ?_); at_builtin; refine Kd.R_append (Kd.int .i64) (w0 := w0) w0.heap.size rfl (.tmp 70) (.tmp 75) 29 3 (.int .i64 0) 8 rfl Try.underlying29 info3 rfl (by decide) (by omega) (.slice (some ad174) x11_2.length co44) x11_2 (rd l1 x13_2) [.int .i64 (rd l1 x13_2)] (fun k_ => (P1_ k_ ∨ w.heap.size ≤ k_) ∧ some k_ ≠ (.slice (some ad176) l1.length co6 : Value).ownBlock ∧ some k_ ≠ (.slice (some ⟨go35, 0, none⟩) x10_2.length co35 : Value).ownBlock) (fun _ => False) rfl rfl ?aP (fun _ hk => hk.elim) ?aF ?aO ?aB ?aS ?aL ?_; (case aP => exact rfl); (case aB => exact (by repeat (first | (with_reducible first | exact HB.out | apply below_alloc | apply pw_below_drewN | apply below_drew1) | exact HB.out))); (case aF => exact (fun k_ hk => ⟨(.inr (Nat.le_trans (by first | exact HK.out.1 | exact (show Kept w _ (fun k_ => P1_ k_) from by repeat (first | (with_reducible first | exact HK.out | apply Kept.alloc | apply Kept.drewN | apply Kept.drew) | exact HK.out)).1) hk)), Kd.fresh' (Kd.R_lt (by (with_reducible repeat (first | apply Kd.R_alloc | apply Kd.R_drewN | apply Kd.R_drew)); exact HO_1.out)) k_ hk, Kd.fresh' (Kd.R_lt (by (with_reducible repeat (first | apply Kd.R_alloc | apply Kd.R_drewN | apply Kd.R_drew)); exact HO_10.out)) k_ hk⟩)); (case aO => exact (by (with_reducible repeat (first | apply Kd.R_alloc | apply Kd.R_drewN | apply Kd.R_drew)); exact Kd.R_mono HO_11.out (fun _ hk => ⟨hk.1.1, ⟨hk.1.2, hk.2⟩⟩))); (case aS => exact (below_size (by repeat (first | (with_reducible first | exact HB.out | apply below_alloc | apply pw_below_drewN | apply below_drew1) | exact HB.out)))); (case aL => have := LMc43.out; omega); intro v182 w47 ho hb hg hat; rw [← Ny181.out] at ho; have n0_ := Aside0.mk (Kd.R_after (ok := (fun k_ => (P1_ k_ ∨ w.heap.size ≤ k_) ∧ some k_ ≠ (.slice (some ⟨go35, 0, none⟩) x10_2.length co35 : Value).ownBlock)) (by (with_reducible repeat (first | apply Kd.R_alloc | apply Kd.R_drewN | apply Kd.R_drew)); exact Kd.R_mono HO_1.out (fun _ hk => ⟨⟨hk.1.1, hk.2⟩, hk.1.2⟩)) hg hat); have n1_ := Aside0.mk (Kd.R_after (ok := (fun k_ => (P1_ k_ ∨ w.heap.size ≤ k_) ∧ some k_ ≠ (.slice (some ad176) l1.length co6 : Value).ownBlock)) (by (with_reducible repeat (first | apply Kd.R_alloc | apply Kd.R_drewN | apply Kd.R_drew)); exact Kd.R_mono HO_10.out (fun _ hk => ⟨⟨hk.1, hk.2.1⟩, hk.2.2⟩)) hg hat); have n2_ := Aside0.mk (hb); have n3_ := Aside0.mk (Kept.of_grown (S := (fun k_ => P1_ k_)) hg (by repeat (first | (with_reducible first | exact HK.out | apply Kept.alloc | apply Kept.drewN | apply Kept.drew) | exact HK.out)) (fun k_ e_ => (HO_11.out.1 k_ e_).1.1)); have n4_ := Aside0.mk (ho); clear HO_1; clear HO_10; clear HB; clear HK; clear HO_11; have HO_1 := n0_; have HO_10 := n1_; have HB := n2_; have HK := n3_; have HO183 := n4_; clear n0_ n1_ n2_ n3_ n4_; clear ho hb hg hat))
                 go_roundg kj12
                 case measure => have := HK1.out; have := HK2.out; have := HJ12.out; omega
                 case rel => exact ⟨(y175), (y181), (wrap64 (x13_2 + 1)), (by first | rfl | (simp; done) | (simp [*]; done)), H', ⟨by have := HK1.out; have := HK2.out; have := HJ12.out; omega⟩, ⟨by (with_reducible repeat (first | apply Kd.R_alloc | apply Kd.R_drewN | apply Kd.R_drew)); exact Kd.R_mono HO_1.out (fun _ hk => ⟨hk.1.1, ⟨hk.1.2, hk.2⟩⟩)⟩, ⟨by (with_reducible repeat (first | apply Kd.R_alloc | apply Kd.R_drewN | apply Kd.R_drew)); exact Kd.R_mono HO_10.out (fun _ hk => ⟨hk.1.1, ⟨hk.1.2, hk.2⟩⟩)⟩, ⟨by (with_reducible repeat (first | apply Kd.R_alloc | apply Kd.R_drewN | apply Kd.R_drew)); exact HO183.out⟩, ⟨by repeat (first | (with_reducible first | exact HK.out | apply Kept.alloc | apply Kept.drewN | apply Kept.drew) | exact HK.out)⟩, ⟨by repeat (first | (with_reducible first | exact HB.out | apply below_alloc | apply pw_below_drewN | apply below_drew1) | exact HB.out)⟩⟩
                ·
                 rw [if_neg c43] at H
                 exact absurd H (by simp)
              ·
               rw [if_neg c36] at H
               exact absurd H (by simp)
             ·
              rw [if_neg c34] at H
              exact absurd H (by simp)
            ·
             rw [if_neg c33] at H
             exact absurd H (by simp)
           ·
            rw [if_neg c32] at H
            exact absurd H (by simp)
          ·
           rw [if_neg c31] at H
           exact absurd H (by simp)
      ·
       rw [if_neg c12] at H
       have c12b0 : decide (x13_2 < (l1.length : Int)) = false := decide_eq_false c12
       clear c12
       have H' := Aside0.mk H
       clear H
       go_wp2
       go_roundg k2
       case measure => have := HK1.out; have := HK2.out; omega
       case rel => exact ⟨(x10_2), (x11_2), (wrap64 (x12_1 + 1)), (by first | rfl | (simp; done) | (simp [*]; done)), H', ⟨by have := HK1.out; have := HK2.out; omega⟩, ⟨by (with_reducible repeat (first | apply Kd.R_alloc | apply Kd.R_drewN | apply Kd.R_drew)); exact HO_1.out⟩, ⟨by (with_reducible repeat (first | apply Kd.R_alloc | apply Kd.R_drewN | apply Kd.R_drew)); exact HO_10.out⟩, ⟨by (with_reducible repeat (first | apply Kd.R_alloc | apply Kd.R_drewN | apply Kd.R_drew)); exact HO_11.out⟩, ⟨by repeat (first | (with_reducible first | exact HK.out | apply Kept.alloc | apply Kept.drewN | apply Kept.drew) | exact HK.out)⟩, ⟨by repeat (first | (with_reducible first | exact HB.out | apply below_alloc | apply pw_below_drewN | apply below_drew1) | exact HB.out)⟩⟩
   ·
    rw [if_neg c10] at H
    have c10b0 : decide (x12_1 < (x11_1.length : Int)) = false := decide_eq_false c10
    clear c10
    simp only [Option.some.injEq, Prod.mk.injEq] at H
    obtain ⟨rfl, rfl⟩ := H
    obtain ⟨Ao48, co48, eo48⟩ := Kd.R_slice HO_11.out
    subst eo48
    go_wp2
    go_ret2
    exact ⟨_, by first | rfl | (simp [errW_none, errW_some] <;> rfl) | (simp [*, errW_none, errW_some] <;> rfl), by (with_reducible repeat (first | apply Kd.R_alloc | apply Kd.R_drewN | apply Kd.R_drew)); exact Kd.R_mono HO_1.out (fun _ hk => hk.1), by repeat (first | (with_reducible first | exact HB.out | apply below_alloc | apply pw_below_drewN | apply below_drew1) | exact HB.out), by repeat (first | (with_reducible first | exact HK.out | apply Kept.alloc | apply Kept.drewN | apply Kept.drew) | exact HK.out)⟩
end Go.Proofs.Ytaacihkhckpecaa.PAll
