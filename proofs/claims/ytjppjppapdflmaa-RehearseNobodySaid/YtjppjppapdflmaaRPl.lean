/- Texts of the proof, laid end to end. -/
import Derived.Test.YtjppjppapdflmaaRMi
import Derived.Test.YtjppjppapdflmaaPAllx0
import Derived.Test.YtjppjppapdflmaaRPg
namespace Go.Proofs.Ytjppjppapdflmaa.PAll
open Go.RowKit Go.Proofs.YtjppjppapdflmaaW.PrintWords Go.Proofs.YtjppjppapdflmaaW.PrintLast Go.Proofs.YtjppjppapdflmaaW.PrintMore
attribute [local go_sem] max2_int min2_int max_two min_two max_three min_three max_four min_four   -- for this text's walks alone
set_option linter.unusedVariables false
set_option linter.unusedSimpArgs false
mutual
def rehearse_Task_rooms_fn1.l0 : Nat → Int → Int → Int → List Int → List (S53) → List (S55) → List (S59) → Int → List Int → Option (List Int × Bool)
 | 0, _, _, _, _, _, _, _, _, _ => none
 | k + 1, x0, x17, x18, x217000, x218000, x218001, x218002, x218003, x219000 => if x18 < x17 then ((rehearse_Task_fits.f x218000 x218001 x218002 x218003 x0 x18).bind fun t219 => (rehearse_Task_rooms_fn1.l1 k x0 x18 t219 x17 x18 (x219000.length : Int) 0 x217000 x218000 x218001 x218002 x218003 x219000)) else (some (x219000, false))
def rehearse_Task_rooms_fn1.l1 : Nat → Int → Int → Bool → Int → Int → Int → Int → List Int → List (S53) → List (S55) → List (S59) → Int → List Int → Option (List Int × Bool)
 | 0, _, _, _, _, _, _, _, _, _, _, _, _, _ => none
 | k + 1, x0, x7, x8, x17, x18, x26, x27, x217000, x218000, x218001, x218002, x218003, x219000 => if x27 < x26 then (if 0 ≤ x27 then (if x27 < (x219000.length : Int) then (if x8 = true then (if (rd x219000 x27) = x7 then (if 0 ≤ x0 then (if x0 < (x217000.length : Int) then (if x27 < (x217000.length : Int) then ((rehearse_Task_meet.f x218000 x218001 x218002 x218003 x0 (rd x217000 x0) x27 (rd x217000 x27)).bind fun t223 => (rehearse_Task_rooms_fn1.l1 k x0 x7 (!t223) x17 x18 x26 (wrap64 (x27 + 1)) x217000 x218000 x218001 x218002 x218003 x219000)) else (none)) else (none)) else (none)) else (rehearse_Task_rooms_fn1.l1 k x0 x7 true x17 x18 x26 (wrap64 (x27 + 1)) x217000 x218000 x218001 x218002 x218003 x219000)) else (rehearse_Task_rooms_fn1.l1 k x0 x7 false x17 x18 x26 (wrap64 (x27 + 1)) x217000 x218000 x218001 x218002 x218003 x219000)) else (none)) else (none)) else (if x8 = true then (if x219000.length < 17592186044416 then ((rehearse_Task_rooms_fn1.f k (wrap64 (x0 + 1)) x217000 x218000 x218001 x218002 x218003 (x219000 ++ [x7])).bind fun bt227 => (if bt227.2 = true then (some (bt227.1, true)) else (if 0 ≤ x0 then (if x0 ≤ (bt227.1.length : Int) then (rehearse_Task_rooms_fn1.l0 k x0 x17 (wrap64 (x18 + 1)) x217000 x218000 x218001 x218002 x218003 (bt227.1.take (x0 : Int).toNat)) else (none)) else (none)))) else (none)) else (rehearse_Task_rooms_fn1.l0 k x0 x17 (wrap64 (x18 + 1)) x217000 x218000 x218001 x218002 x218003 x219000))
def rehearse_Task_rooms_fn1.f : Nat → Int → List Int → List (S53) → List (S55) → List (S59) → Int → List Int → Option (List Int × Bool)
 | 0, _, _, _, _, _, _, _ => none
 | k + 1, a0, l1, l2_0, l2_1, l2_2, a2_3, l3 => if a0 = (l1.length : Int) then (some (l3, true)) else (rehearse_Task_rooms_fn1.l0 k a0 (l2_1.length : Int) 0 l1 l2_0 l2_1 l2_2 a2_3 l3)
end
def rehearse_Task_rooms_fn1.T10 : Bool × List (List Nat × List Nat) := (true, [([], []), ([0], [0]), ([1], [1]), ([1], [1]), ([2, 3, 1], [1, 2, 3]), ([4, 1, 1], [1, 4]), ([5], [5]), ([5], [5]), ([5], [5]), ([5], [5]), ([8, 9, 5], [5, 8, 9]), ([10, 5], [5, 10]), ([5], [5]), ([5], [5]), ([5], [5]), ([13, 14, 5], [5, 13, 14]), ([15, 5], [5, 15]), ([6, 7, 11, 12, 16, 5, 5], [5, 6, 7, 11, 12, 16]), ([17, 5], [5, 17]), ([5, 18, 1], [1, 5, 18]), ([1, 19], [1, 19]), ([20, 17, 0, 1, 2, 3, 4, 5, 6, 7, 8, 9, 10, 11, 12, 13, 14, 15, 16, 17, 18, 19, 20], [0, 20])])
def rehearse_Task_rooms_fn1.B10 : List Nat := [0, 1, 3, 3, 15, 31, 63, 63, 63, 63, 831, 1855, 63, 63, 63, 24639, 57407, 131071, 262143, 524287, 1048575, 2097151]
theorem rehearse_Task_rooms_fn1.tab10 : rtab .any (opsOf Try.f56 10) = rehearse_Task_rooms_fn1.T10 := by kernel_rfl
theorem rehearse_Task_rooms_fn1.bits10 : waitsOk rehearse_Task_rooms_fn1.T10.2 rehearse_Task_rooms_fn1.B10 = true := by kernel_rfl
set_option maxHeartbeats 8000000 in
set_option maxRecDepth 100000 in
theorem rehearse_Task_rooms_fn1.calls (k : Nat) : ∀ (a0 : Int) (A1 : Option Addr) (c1 : Nat) (l1 : List Int) (A2_0 : Option Addr) (c2_0 : Nat) (l2_0 : List (S53)) (A2_1 : Option Addr) (c2_1 : Nat) (l2_1 : List (S55)) (A2_2 : Option Addr) (c2_2 : Nat) (l2_2 : List (S59)) (a2_3 : Int) (P3_ : Nat → Prop) (u9000_ : Value) (l3 : List Int) (r1 : List Int) (r2 : Bool) (w0 w : World) (hB : Below w0.heap.size w0 w) (hr1 : ∀ W_, Kept w W_ (fun k_ => P3_ k_) → Kd.C (Kd.int .i64) W_ A1 l1.length l1) (hc1 : l1.length ≤ c1) (hr2_0 : ∀ W_, Kept w W_ (fun k_ => P3_ k_) → Kd.C k53 W_ A2_0 l2_0.length l2_0) (hc2_0 : l2_0.length ≤ c2_0) (hr2_1 : ∀ W_, Kept w W_ (fun k_ => P3_ k_) → Kd.C k55 W_ A2_1 l2_1.length l2_1) (hc2_1 : l2_1.length ≤ c2_1) (hr2_2 : ∀ W_, Kept w W_ (fun k_ => P3_ k_) → Kd.C k59 W_ A2_2 l2_2.length l2_2) (hc2_2 : l2_2.length ≤ c2_2) (ho3 : Kd.R (Kd.int .i64) 3 w w0.heap.size P3_ u9000_ l3) (gs_ : Nat) (hbs : w.heap[gs_]? = some (.cells #[.slice A1 l1.length c1] 51 (0, 0))) (gq_ : Nat) (hbk : w.heap[gq_]? = some (.cells #[.slice A2_0 l2_0.length c2_0, .slice A2_1 l2_1.length c2_1, .slice A2_2 l2_2.length c2_2, .int .i64 a2_3] 30 (0, 0))) (go_ : Nat) (hbo : w.heap[go_]? = some (.cells #[u9000_] 51 (0, 0))) (gf_ : Nat) (hbf : w.heap[gf_]? = some (.cells #[.func (.func 56) #[] #[.pointer (some ⟨gs_, 0, none⟩), .pointer (some ⟨gq_, 0, none⟩), .pointer (some ⟨go_, 0, none⟩), .pointer (some ⟨gf_, 0, none⟩)]] 76 (0, 0))) (hso : gs_ ≠ go_) (hgo : w0.heap.size ≤ go_) (hgp : P3_ go_) (hgf : ¬ P3_ gf_) (h : rehearse_Task_rooms_fn1.f k a0 l1 l2_0 l2_1 l2_2 a2_3 l3 = some (r1, r2)),
  Calls Try.prog 56 #[.int .i64 a0, .pointer (some ⟨gs_, 0, none⟩), .pointer (some ⟨gq_, 0, none⟩), .pointer (some ⟨go_, 0, none⟩), .pointer (some ⟨gf_, 0, none⟩)] w fun e w' => ∃ v0_ : Value, (e = .returned (.bool r2) ∧ w'.heap[go_]? = some (.cells #[v0_] 51 (0, 0))) ∧ Kd.R (Kd.int .i64) 3 w' w0.heap.size (fun k_ => (P3_ k_ ∨ w.heap.size ≤ k_)) v0_ r1 ∧ Below w0.heap.size w0 w' ∧ Kept w w' (fun k_ => P3_ k_) := by
 induction k using Nat.strongRecOn with
 | _ k ih =>
 intro a0 A1 c1 l1 A2_0 c2_0 l2_0 A2_1 c2_1 l2_1 A2_2 c2_2 l2_2 a2_3 P3_ u9000_ l3 r1 r2 w0 w hB hr1 hc1 hr2_0 hc2_0 hr2_1 hc2_1 hr2_2 hc2_2 ho3 gs_ hbs gq_ hbk go_ hbo gf_ hbf hso hgo hgp hgf h
 cases k with
 | zero => exact absurd h (by simp [rehearse_Task_rooms_fn1.f])
 | succ k =>
 simp only [rehearse_Task_rooms_fn1.f] at h
 have hu30 := Try.underlying30
 have HR1 := Aside0.mk hr1
 have HC1 := Aside0.mk hc1
 clear hr1 hc1
 have HR2_0 := Aside0.mk hr2_0
 have HC2_0 := Aside0.mk hc2_0
 clear hr2_0 hc2_0
 have HR2_1 := Aside0.mk hr2_1
 have HC2_1 := Aside0.mk hc2_1
 clear hr2_1 hc2_1
 have HR2_2 := Aside0.mk hr2_2
 have HC2_2 := Aside0.mk hc2_2
 clear hr2_2 hc2_2
 have BK216 := Aside0.mk hbs
 have BK217 := Aside0.mk hbk
 have BK218 := Aside0.mk hbo
 have NB216_217 : Aside0 (gs_ ≠ gq_) := ⟨fun e_ => by rw [e_] at hbs; rw [hbs] at hbk; simp at hbk⟩
 have NB217_216 : Aside0 (gq_ ≠ gs_) := ⟨fun e_ => by rw [e_] at hbk; rw [hbk] at hbs; simp at hbs⟩
 have NB216_218 := Aside0.mk hso
 have NB218_216 := Aside0.mk hso.symm
 have NB218_217 : Aside0 (go_ ≠ gq_) := ⟨fun e_ => by rw [e_] at hbo; rw [hbo] at hbk; simp at hbk⟩
 have NB217_218 : Aside0 (gq_ ≠ go_) := ⟨fun e_ => by rw [e_] at hbk; rw [hbk] at hbo; simp at hbo⟩
 have HSO_ := Aside0.mk hso
 have GE218 := Aside0.mk hgo
 have HGP_ := Aside0.mk hgp
 have HGNF_ := Aside0.mk hgf
 have HBF_ := Aside0.mk hbf
 have HFO_ := Aside0.mk (blk_one hbf hbo (by decide))
 clear hbs hbk hbo hbf hso hgo hgp hgf
 have HO3 := Aside0.mk (show Kd.R (Kd.int .i64) 3 w w0.heap.size (fun k_ => (P3_ k_ ∨ w.heap.size ≤ k_)) u9000_ l3 from Kd.R_mono ho3 (fun k_ hk => (.inl hk)))
 have HK := Aside0.mk (Kept.refl w (fun k_ => P3_ k_))
 have HW0 := Aside0.mk hB.size
 have HB := Aside0.mk hB
 clear hB
 have H := h
 unfold rehearse_Task_rooms_fn1.f at H
 clear h
 by_cases c5 : a0 = (l1.length : Int)
 ·
  rw [if_pos c5] at H
  have c5b0 := beq_iff_eq.mpr c5
  have c5b1 := bne_eq_false_iff_eq.mpr c5
  clear c5
  simp only [Option.some.injEq, Prod.mk.injEq] at H
  obtain ⟨rfl, rfl⟩ := H
  go_enter Try.func56, Try.ntmps56
  obtain ⟨Ao8, co8, eo8⟩ := Kd.R_slice HO3.out; subst eo8; have hnb10 := NB216_217.out; have hnc10 := NB217_216.out; have hnb11 := NB216_218.out; have hnc11 := NB218_216.out; have hcz12 := blk_cell BK216.out; have hfz12 := blk_frozen BK216.out; have hnb13 := NB218_217.out; have hnc13 := NB217_218.out; have hcz14 := blk_cell BK218.out; have hfz14 := blk_frozen BK218.out
  go_wp2
  go_ret
  exact ⟨_, ⟨rfl, by repeat (first | exact BK218.out | (with_reducible first | refine blk_drewN ?_ _ | refine blk_drew ?_ | refine blk_alloc ?_ _) | apply blk_put1)⟩, by exact HO3.out, by repeat (first | (with_reducible first | exact HB.out | apply below_alloc | apply pw_below_drewN | apply below_drew1 | refine below_set ?_ GE218.out) | exact HB.out), by repeat (first | (with_reducible first | exact HK.out | apply Kept.alloc | apply Kept.drewN | apply Kept.drew | refine Kept.setCell ?_ (.inl HGP_.out) _) | exact HK.out)⟩
 rw [if_neg c5] at H
 have c5b0 := beq_eq_false_iff_ne.mpr c5
 have c5b1 := bne_iff_ne.mpr c5
 have H' := Aside0.mk H
 clear H
 go_enter Try.func56, Try.ntmps56
 obtain ⟨Ao17, co17, eo17⟩ := Kd.R_slice HO3.out; subst eo17; have hnb19 := NB216_217.out; have hnc19 := NB217_216.out; have hnb20 := NB216_218.out; have hnc20 := NB218_216.out; have hcz21 := blk_cell BK216.out; have hfz21 := blk_frozen BK216.out; have hnb22 := NB217_218.out; have hnc22 := NB218_217.out; have hcz23 := blk_cell BK217.out; have hfz23 := blk_frozen BK217.out
 go_wp2
 go_loopg [18] k (fun kq v18 w' => ∃ (x18_1 : Int) (x219000_1 : List Int) (u219000 : Value), v18 = .int .i64 x18_1 ∧ Aside0 (rehearse_Task_rooms_fn1.l0 kq a0 (l2_1.length : Int) x18_1 l1 l2_0 l2_1 l2_2 a2_3 x219000_1 = some (r1, r2)) ∧ Aside0 (kq ≤ k) ∧ Aside0 (Kd.R (Kd.int .i64) 3 w' w0.heap.size (fun k_ => (P3_ k_ ∨ w.heap.size ≤ k_)) u219000 x219000_1) ∧ Aside0 (w'.heap[gs_]? = some (.cells #[(.slice A1 l1.length c1)] 51 (0, 0))) ∧ Aside0 (w'.heap[gq_]? = some (.cells #[(.slice A2_0 l2_0.length c2_0), (.slice A2_1 l2_1.length c2_1), (.slice A2_2 l2_2.length c2_2), .int .i64 a2_3] 30 (0, 0))) ∧ Aside0 (w'.heap[go_]? = some (.cells #[u219000] 51 (0, 0))) ∧ Aside0 (Kept w w' (fun k_ => P3_ k_)) ∧ Aside0 (Below w0.heap.size w0 w'))
 case atStart => exact ⟨(0), (l3), (.slice Ao17 l3.length co17), rfl, H', ⟨Nat.le_refl _⟩, HO3, ⟨BK216.out⟩, ⟨BK217.out⟩, ⟨BK218.out⟩, HK, ⟨HB.out⟩⟩
 case round =>
  clear H'
  try clear c1; try clear c2; try clear p2; try clear c5; try clear c5b0; try clear c5b1; try clear c10; try clear c11; try clear c13; try clear c19; try clear c20; try clear c22; try clear hcz12_0; try clear hcz14_0; try clear hcz21_0; try clear hcz23_0; try clear hcz23_1; try clear hcz23_2; try clear hcz23_3; try clear hfz12_0; try clear hfz14_0; try clear hfz21_0; try clear hfz23_0; try clear hfz23_1; try clear hfz23_2; try clear hfz23_3
  obtain ⟨x18_1, x219000_1, u219000, rfl, HA, HK1, HO_219000, BK216, BK217, BK218, HK, HB⟩ := hrel
  cases gk with
  | zero => exact absurd HA.out (by simp [rehearse_Task_rooms_fn1.l0])
  | succ k1 =>
   have H := HA.out
   clear HA
   simp only [rehearse_Task_rooms_fn1.l0] at H
   by_cases c24 : x18_1 < (l2_1.length : Int)
   rotate_left
   ·
    rw [if_neg c24] at H
    have c24b0 := decide_eq_false c24
    clear c24
    simp only [Option.some.injEq, Prod.mk.injEq] at H
    obtain ⟨rfl, rfl⟩ := H
    have hnb92 := NB218_216.out
    have hnc92 := NB216_218.out
    have hnb93 := NB218_217.out
    have hnc93 := NB217_218.out
    have hcz94 := blk_cell BK218.out; have hfz94 := blk_frozen BK218.out
    go_wp2
    go_ret
    exact ⟨_, ⟨rfl, by repeat (first | exact BK218.out | (with_reducible first | refine blk_drewN ?_ _ | refine blk_drew ?_ | refine blk_alloc ?_ _) | apply blk_put1)⟩, by exact HO_219000.out, by repeat (first | (with_reducible first | exact HB.out | apply below_alloc | apply pw_below_drewN | apply below_drew1 | refine below_set ?_ GE218.out) | exact HB.out), by repeat (first | (with_reducible first | exact HK.out | apply Kept.alloc | apply Kept.drewN | apply Kept.drew | refine Kept.setCell ?_ (.inl HGP_.out) _) | exact HK.out)⟩
   rw [if_pos c24] at H
   have c24b0 := decide_eq_true c24
   clear c24
   replace H := Option.bind_eq_some_iff.mp H
   obtain ⟨t219, A250, H⟩ := H
   try dsimp only at H
   have A25 := Aside0.mk A250
   clear A250
   have H' := Aside0.mk H
   clear H
   have hnb26 := NB217_216.out
   have hnc26 := NB216_217.out
   have hnb27 := NB217_218.out
   have hnc27 := NB218_217.out
   have hcz28 := blk_cell BK217.out; have hfz28 := blk_frozen BK217.out
   go_wp2_with (first | ((with_reducible refine gate_callee (f := 48) rfl ?_); refine goesL_ (some 24) rfl rfl Try.func48 (by kernel_rfl) rfl #[.agg #[.slice A2_0 l2_0.length c2_0, .slice A2_1 l2_1.length c2_1, .slice A2_2 l2_2.length c2_2, .int .i64 a2_3], .int .i64 a0, .int .i64 x18_1] rfl (mA3 rfl rfl rfl) ?_; (with_reducible refine (rehearse_Task_fits.calls _ _ l2_0 _ _ l2_1 _ _ l2_2 a2_3 a0 x18_1 t219 _ ?side1 ?side2 ?side3 ?side4 ?side5 ?side6 A25.out).mono ?_); (case side1 => exact Kd.C_kept_now HR2_0.out (by repeat (first | (with_reducible first | exact HK.out | apply Kept.alloc | apply Kept.drewN | apply Kept.drew | refine Kept.setCell ?_ (.inl HGP_.out) _) | exact HK.out))); (case side2 => exact HC2_0.out); (case side3 => exact Kd.C_kept_now HR2_1.out (by repeat (first | (with_reducible first | exact HK.out | apply Kept.alloc | apply Kept.drewN | apply Kept.drew | refine Kept.setCell ?_ (.inl HGP_.out) _) | exact HK.out))); (case side4 => exact HC2_1.out); (case side5 => exact Kd.C_kept_now HR2_2.out (by repeat (first | (with_reducible first | exact HK.out | apply Kept.alloc | apply Kept.drewN | apply Kept.drew | refine Kept.setCell ?_ (.inl HGP_.out) _) | exact HK.out))); (case side6 => exact HC2_2.out); rintro e w29 ⟨rfl, hb⟩; refine ⟨_, rfl, ?_⟩; replace HO_219000 := Aside0.mk (Kd.R_below HO_219000.out hb); replace BK216 := mBb BK216 hb; replace BK217 := mBb BK217 hb; replace BK218 := mBb BK218 hb; replace HK := Aside0.mk (Kept.below (S := (fun k_ => P3_ k_)) (by repeat (first | (with_reducible first | exact HK.out | apply Kept.alloc | apply Kept.drewN | apply Kept.drew | refine Kept.setCell ?_ (.inl HGP_.out) _) | exact HK.out)) hb); replace HB := mSt HB hb; (try clear hb); have hnb30 := NB218_216.out; have hnc30 := NB216_218.out; have hcz31 := blk_cell BK218.out; have hfz31 := blk_frozen BK218.out; obtain ⟨Ao32, co32, eo32⟩ := Kd.R_slice HO_219000.out; subst eo32))
   go_loopg [8, 27] k1 (fun kq v8 v27 w' => ∃ (x8_2 : Bool) (x27_2 : Int), v8 = .bool x8_2 ∧ v27 = .int .i64 x27_2 ∧ Aside0 (rehearse_Task_rooms_fn1.l1 kq a0 x18_1 x8_2 (l2_1.length : Int) x18_1 (x219000_1.length : Int) x27_2 l1 l2_0 l2_1 l2_2 a2_3 x219000_1 = some (r1, r2)) ∧ Aside0 (kq ≤ k1) ∧ Aside0 (Kd.R (Kd.int .i64) 3 w' w0.heap.size (fun k_ => (P3_ k_ ∨ w.heap.size ≤ k_)) (.slice Ao32 x219000_1.length co32) x219000_1) ∧ Aside0 (w'.heap[gs_]? = some (.cells #[(.slice A1 l1.length c1)] 51 (0, 0))) ∧ Aside0 (w'.heap[gq_]? = some (.cells #[(.slice A2_0 l2_0.length c2_0), (.slice A2_1 l2_1.length c2_1), (.slice A2_2 l2_2.length c2_2), .int .i64 a2_3] 30 (0, 0))) ∧ Aside0 (w'.heap[go_]? = some (.cells #[(.slice Ao32 x219000_1.length co32)] 51 (0, 0))) ∧ Aside0 (Kept w w' (fun k_ => P3_ k_)) ∧ Aside0 (Below w0.heap.size w0 w'))
   case atStart => exact ⟨(t219), (0), rfl, rfl, H', ⟨Nat.le_refl _⟩, HO_219000, ⟨BK216.out⟩, ⟨BK217.out⟩, ⟨BK218.out⟩, HK, ⟨HB.out⟩⟩
   case round =>
    clear H'
    clear c24b0
    obtain ⟨x8_2, x27_2, rfl, rfl, HA, HK2, HO_219000, BK216, BK217, BK218, HK, HB⟩ := hrel
    cases gk with
    | zero => exact absurd HA.out (by simp [rehearse_Task_rooms_fn1.l1])
    | succ k2 =>
     have H := HA.out
     clear HA
     simp only [rehearse_Task_rooms_fn1.l1] at H
     by_cases c33 : x27_2 < (x219000_1.length : Int)
     rotate_left
     ·
      rw [if_neg c33] at H
      have c33b0 := decide_eq_false c33
      clear c33
      by_cases c55 : x8_2 = true
      rotate_left
      ·
       replace c55 := Bool.eq_false_iff.mpr c55
       subst c55
       rw [if_neg (show ¬ (false = true) by decide)] at H
       have H' := Aside0.mk H
       clear H
       go_wp2
       go_roundg k2
       case measure => have := HK1.out; have := HK2.out; omega
       case rel => exact ⟨(wrap64 (x18_1 + 1)), (x219000_1), (.slice Ao32 x219000_1.length co32), rfl, H', ⟨by have := HK1.out; have := HK2.out; omega⟩, HO_219000, ⟨BK216.out⟩, ⟨BK217.out⟩, ⟨BK218.out⟩, HK, ⟨HB.out⟩⟩
      subst c55
      rw [if_pos rfl] at H
      obtain ⟨c56, H⟩ : (x219000_1.length < 17592186044416) ∧ _ := mIf H
      have LMc56 := Aside0.mk c56
      clear c56
      obtain ⟨y224, hy224⟩ : ∃ y_ : List Int, y_ = (x219000_1 ++ [x18_1]) := ⟨_, rfl⟩
      rw [← hy224] at H
      have Ny224 := Aside0.mk hy224
      clear hy224
      replace H := Option.bind_eq_some_iff.mp H
      obtain ⟨⟨t227, t230⟩, A570, H⟩ := H
      try dsimp only at H
      have A57 := Aside0.mk A570
      clear A570
      by_cases c58 : t230 = true
      ·
       subst c58
       rw [if_pos rfl] at H
       simp only [Option.some.injEq, Prod.mk.injEq] at H
       obtain ⟨rfl, rfl⟩ := H
       have hnb59 := NB218_216.out
       have hnc59 := NB216_218.out
       have hnb60 := NB218_217.out
       have hnc60 := NB217_218.out
       have hcz61 := blk_cell BK218.out; have hfz61 := blk_frozen BK218.out
       go_wp2_with (first | ((with_reducible refine gate_builtin (b := .append) (xs := #[.tmp 56, .tmp 58]) rfl ?_); at_builtin; refine Kd.R_append (Kd.int .i64) (w0 := w0) w0.heap.size rfl (.tmp 56) (.tmp 58) 51 3 (.int .i64 0) 8 rfl Try.underlying51 info3 rfl (by decide) (by omega) (.slice Ao32 x219000_1.length co32) x219000_1 x18_1 [.int .i64 x18_1] (fun k_ => (P3_ k_ ∨ w.heap.size ≤ k_)) (fun _ => False) rfl rfl ?aP (fun _ hk => hk.elim) ?aF ?aO ?aB ?aS ?aL ?_; (case aP => exact rfl); (case aB => exact (hO HB)); (case aF => exact (fun k_ hk => (.inr (Nat.le_trans (by first | exact HK.out.1 | exact (show Kept w _ (fun k_ => P3_ k_) from by repeat (first | (with_reducible first | exact HK.out | apply Kept.alloc | apply Kept.drewN | apply Kept.drew | refine Kept.setCell ?_ (.inl HGP_.out) _) | exact HK.out)).1) hk)))); (case aO => exact (rO HO_219000)); (case aS => exact (below_size (hO HB))); (case aL => have := LMc56.out; omega); intro v225 w62 ho hb hg hat; rw [← Ny224.out] at ho; replace BK216 := Aside0.mk (blk_grown (g := gs_) (o := .cells #[.slice A1 l1.length c1] 51 (0, 0)) BK216.out hg (Kd.R_ne HO_219000.out BK216.out (by decide))); replace BK217 := Aside0.mk (blk_grown (g := gq_) (o := .cells #[.slice A2_0 l2_0.length c2_0, .slice A2_1 l2_1.length c2_1, .slice A2_2 l2_2.length c2_2, .int .i64 a2_3] 30 (0, 0)) BK217.out hg (Kd.R_ne HO_219000.out BK217.out (by decide))); replace BK218 := Aside0.mk (blk_grown (g := go_) (o := .cells #[.slice Ao32 x219000_1.length co32] 51 (0, 0)) BK218.out hg (Kd.R_ne HO_219000.out BK218.out (by decide))); replace HB := Aside0.mk hb; replace HK := Aside0.mk (Kept.of_grown (S := (fun k_ => P3_ k_)) hg (by repeat (first | (with_reducible first | exact HK.out | apply Kept.alloc | apply Kept.drewN | apply Kept.drew | refine Kept.setCell ?_ (.inl HGP_.out) _) | exact HK.out)) (fun k_ e_ => (HO_219000.out.1 k_ e_))); have HO226 := Aside0.mk ho; clear HO_219000; clear ho hb hg hat; obtain ⟨Ao63, co63, eo63⟩ := Kd.R_slice HO226.out; subst eo63; have hcz64 := blk_cell BK218.out; have hfz64 := blk_frozen BK218.out) | ((with_reducible refine gate_store (t := 51) (p := 3) rfl ?_); refine store_event (t := 51) (p := 3) (v := ?vo_w65) (w1 := (w62.setCell ⟨go_, 0, none⟩ (.slice Ao63 y224.length co63))) ?hg ?ho ?hn ?hr ?_; (case ho => rfl); (case hg => rfl); (case hn => rfl); (case hr => first | (go_simp; done) | (go_simp; rfl)); intro w65 hw; have n0_ : Aside0 (Kd.R (Kd.int .i64) 3 w65 w0.heap.size (fun k_ => (P3_ k_ ∨ w.heap.size ≤ k_)) (.slice Ao63 y224.length co63) y224) := ⟨(by rw [hw]; exact (by exact Kd.R_mono (Kd.R_far (p := ⟨go_, 0, none⟩) (Kd.R_types HO226.out BK218.out (by decide)) (fun _ hk => hk.2) (.slice Ao63 y224.length co63)) (fun _ hk => hk.1)))⟩; have n1_ : Aside0 (w65.heap[gs_]? = some (.cells #[.slice A1 l1.length c1] 51 (0, 0))) := ⟨(by rw [hw]; exact (by refine blk_far ?_ NB216_218.out _; exact BK216.out))⟩; have n2_ : Aside0 (w65.heap[gq_]? = some (.cells #[.slice A2_0 l2_0.length c2_0, .slice A2_1 l2_1.length c2_1, .slice A2_2 l2_2.length c2_2, .int .i64 a2_3] 30 (0, 0))) := ⟨(by rw [hw]; exact (by refine blk_far ?_ NB217_218.out _; exact BK217.out))⟩; have n3_ : Aside0 (w65.heap[go_]? = some (.cells #[.slice Ao63 y224.length co63] 51 (0, 0))) := ⟨(by rw [hw]; exact (by refine blk_put (cs := #[.slice Ao32 x219000_1.length co32]) ?_ 0 _ rfl; exact BK218.out))⟩; have n4_ : Aside0 (Kept w w65 (fun k_ => P3_ k_)) := ⟨(by rw [hw]; exact (by repeat (first | (with_reducible first | exact HK.out | apply Kept.alloc | apply Kept.drewN | apply Kept.drew | refine Kept.setCell ?_ (.inl HGP_.out) _) | exact HK.out)))⟩; have n5_ : Aside0 (Below w0.heap.size w0 w65) := ⟨(by rw [hw]; exact (hO HB))⟩; clear hw; clear HO226; clear BK216; clear BK217; clear BK218; clear HK; clear HB; have HO226 := n0_; have BK216 := n1_; have BK217 := n2_; have BK218 := n3_; have HK := n4_; have HB := n5_; clear n0_ n1_ n2_ n3_ n4_ n5_; have hnb66 := NB217_216.out; have hnc66 := NB216_217.out; have hcz67 := blk_cell BK217.out; have hfz67 := blk_frozen BK217.out; have hcz68 := blk_cell BK216.out; have hfz68 := blk_frozen BK216.out; have hcz69 := blk_cell BK218.out; have hfz69 := blk_frozen BK218.out; have hqF_ : World.cell? _ ⟨gf_, 0, none⟩ = some (.func (.func 56) #[] #[.pointer (some ⟨gs_, 0, none⟩), .pointer (some ⟨gq_, 0, none⟩), .pointer (some ⟨go_, 0, none⟩), .pointer (some ⟨gf_, 0, none⟩)]) := (blk_cell (blk_kept HBF_.out HK.out HGNF_.out) 0).trans rfl) | (go_at_call 56; (refine (ih k2 (by have := HK1.out; have := HK2.out; omega) (wrap64 (a0 + 1)) A1 c1 l1 A2_0 c2_0 l2_0 A2_1 c2_1 l2_1 A2_2 c2_2 l2_2 a2_3 (fun k_ => some k_ = (.slice Ao63 y224.length co63 : Value).ownBlock ∨ k_ = go_) (.slice Ao63 y224.length co63) y224 t227 true w0 _ ?side1 ?side2 ?side3 ?side4 ?side5 ?side6 ?side7 ?side8 ?side9 ?side10 gs_ ?sbs gq_ ?sbk go_ ?sbo gf_ ?sbf HSO_.out GE218.out (.inr rfl) ?sgf A57.out).mono ?_); (case sbs => exact BK216.out); (case sbk => exact BK217.out); (case sbo => exact BK218.out); (case sbf => exact blk_kept HBF_.out HK.out HGNF_.out); (case sgf => exact fun h_ => h_.elim (Kd.R_ne HO226.out (blk_kept HBF_.out HK.out HGNF_.out) (by decide)) HFO_.out); (case side1 => repeat (first | (with_reducible first | exact HB.out | apply below_alloc | apply pw_below_drewN | apply below_drew1 | refine below_set ?_ GE218.out) | exact HB.out)); (case side2 => exact Kd.C_kept_call HR1.out (by repeat (first | (with_reducible first | exact HK.out | apply Kept.alloc | apply Kept.drewN | apply Kept.drew | refine Kept.setCell ?_ (.inl HGP_.out) _) | exact HK.out)) (fun k_ hs_ => hs_.elim (fun e_ => (HO226.out.1 k_ e_.symm)) (fun e_ => .inl (by rw [e_]; exact HGP_.out)))); (case side3 => exact HC1.out); (case side4 => exact Kd.C_kept_call HR2_0.out (by repeat (first | (with_reducible first | exact HK.out | apply Kept.alloc | apply Kept.drewN | apply Kept.drew | refine Kept.setCell ?_ (.inl HGP_.out) _) | exact HK.out)) (fun k_ hs_ => hs_.elim (fun e_ => (HO226.out.1 k_ e_.symm)) (fun e_ => .inl (by rw [e_]; exact HGP_.out)))); (case side5 => exact HC2_0.out); (case side6 => exact Kd.C_kept_call HR2_1.out (by repeat (first | (with_reducible first | exact HK.out | apply Kept.alloc | apply Kept.drewN | apply Kept.drew | refine Kept.setCell ?_ (.inl HGP_.out) _) | exact HK.out)) (fun k_ hs_ => hs_.elim (fun e_ => (HO226.out.1 k_ e_.symm)) (fun e_ => .inl (by rw [e_]; exact HGP_.out)))); (case side7 => exact HC2_1.out); (case side8 => exact Kd.C_kept_call HR2_2.out (by repeat (first | (with_reducible first | exact HK.out | apply Kept.alloc | apply Kept.drewN | apply Kept.drew | refine Kept.setCell ?_ (.inl HGP_.out) _) | exact HK.out)) (fun k_ hs_ => hs_.elim (fun e_ => (HO226.out.1 k_ e_.symm)) (fun e_ => .inl (by rw [e_]; exact HGP_.out)))); (case side9 => exact HC2_2.out); (case side10 => exact Kd.R_mono (Kd.R_tight rfl HO226.out) (fun _ h_ => .inl h_)); rintro e wq_ hx_; obtain ⟨v228, w70, ⟨rfl, rfl⟩, ho0, hb, hkp⟩ := out_view hx_ BK218.out GE218.out (by decide); replace BK216 := Aside0.mk (blk_kept BK216.out hkp (fun hs_ => (fun e_ => (Kd.R_ne HO226.out BK216.out (by decide)) e_) hs_)); replace BK217 := Aside0.mk (blk_kept BK217.out hkp (fun hs_ => (fun e_ => (Kd.R_ne HO226.out BK217.out (by decide)) e_) hs_)); replace BK218 := Aside0.mk (blk_kept BK218.out hkp (fun hs_ => (fun e_ => (Kd.R_ne HO226.out BK218.out (by decide)) e_) hs_)); have HO229 := Aside0.mk (Kd.R_mono (ok' := fun k_ => (P3_ k_ ∨ w.heap.size ≤ k_)) ho0 (fun k_ hk_ => Or.elim hk_ (fun hs_ => (HO226.out.1 k_ (hs_).symm)) (fun hn_ => (.inr (Nat.le_trans (by first | exact HK.out.1 | exact (show Kept w _ (fun k_ => P3_ k_) from by repeat (first | (with_reducible first | exact HK.out | apply Kept.alloc | apply Kept.drewN | apply Kept.drew | refine Kept.setCell ?_ (.inl HGP_.out) _) | exact HK.out)).1) hn_))))); replace HK := Aside0.mk (Kept.then_ (S := (fun k_ => P3_ k_)) (by repeat (first | (with_reducible first | exact HK.out | apply Kept.alloc | apply Kept.drewN | apply Kept.drew | refine Kept.setCell ?_ (.inl HGP_.out) _) | exact HK.out)) hkp (fun k_ hs_ => (fun e_ => (HO226.out.1 k_ e_.symm)) hs_)); replace HB := Aside0.mk hb; clear HO226; (try clear hb); (try clear hkp); (try clear ho0); obtain ⟨Ao71, co71, eo71⟩ := Kd.R_slice HO229.out; subst eo71; have hcz72 := blk_cell BK218.out; have hfz72 := blk_frozen BK218.out))
       go_ret
       exact ⟨_, ⟨rfl, by repeat (first | exact BK218.out | (with_reducible first | refine blk_drewN ?_ _ | refine blk_drew ?_ | refine blk_alloc ?_ _) | apply blk_put1)⟩, by exact Kd.R_mono (Kd.R_far (p := ⟨go_, 0, none⟩) (Kd.R_types HO229.out BK218.out (by decide)) (fun _ hk => hk.2) (.slice Ao71 t227.length co71)) (fun _ hk => hk.1), by repeat (first | (with_reducible first | exact HB.out | apply below_alloc | apply pw_below_drewN | apply below_drew1 | refine below_set ?_ GE218.out) | exact HB.out), by repeat (first | (with_reducible first | exact HK.out | apply Kept.alloc | apply Kept.drewN | apply Kept.drew | refine Kept.setCell ?_ (.inl HGP_.out) _) | exact HK.out)⟩
      replace c58 := Bool.eq_false_iff.mpr c58
      subst c58
      rw [if_neg (show ¬ (false = true) by decide)] at H
      obtain ⟨c73, H⟩ : (0 ≤ a0) ∧ _ := mIf H
      have c73b0 := eq_true c73
      have c73b1 := decide_eq_true c73
      clear c73
      obtain ⟨c74, H⟩ : (a0 ≤ (t227.length : Int)) ∧ _ := mIf H
      have c74b0 := eq_true c74
      have c74b1 := decide_eq_true c74
      clear c74
      obtain ⟨y231, hy231⟩ : ∃ y_ : List Int, y_ = (t227.take (a0 : Int).toNat) := ⟨_, rfl⟩
      rw [← hy231] at H
      have Ny231 := Aside0.mk hy231
      clear hy231
      have H' := Aside0.mk H
      clear H
      have hnb75 := NB218_216.out
      have hnc75 := NB216_218.out
      have hnb76 := NB218_217.out
      have hnc76 := NB217_218.out
      have hcz77 := blk_cell BK218.out; have hfz77 := blk_frozen BK218.out
      go_wp2_with (first | ((with_reducible refine gate_builtin (b := .append) (xs := #[.tmp 56, .tmp 58]) rfl ?_); at_builtin; refine Kd.R_append (Kd.int .i64) (w0 := w0) w0.heap.size rfl (.tmp 56) (.tmp 58) 51 3 (.int .i64 0) 8 rfl Try.underlying51 info3 rfl (by decide) (by omega) (.slice Ao32 x219000_1.length co32) x219000_1 x18_1 [.int .i64 x18_1] (fun k_ => (P3_ k_ ∨ w.heap.size ≤ k_)) (fun _ => False) rfl rfl ?aP (fun _ hk => hk.elim) ?aF ?aO ?aB ?aS ?aL ?_; (case aP => exact rfl); (case aB => exact (hO HB)); (case aF => exact (fun k_ hk => (.inr (Nat.le_trans (by first | exact HK.out.1 | exact (show Kept w _ (fun k_ => P3_ k_) from by repeat (first | (with_reducible first | exact HK.out | apply Kept.alloc | apply Kept.drewN | apply Kept.drew | refine Kept.setCell ?_ (.inl HGP_.out) _) | exact HK.out)).1) hk)))); (case aO => exact (rO HO_219000)); (case aS => exact (below_size (hO HB))); (case aL => have := LMc56.out; omega); intro v225 w78 ho hb hg hat; rw [← Ny224.out] at ho; replace BK216 := Aside0.mk (blk_grown (g := gs_) (o := .cells #[.slice A1 l1.length c1] 51 (0, 0)) BK216.out hg (Kd.R_ne HO_219000.out BK216.out (by decide))); replace BK217 := Aside0.mk (blk_grown (g := gq_) (o := .cells #[.slice A2_0 l2_0.length c2_0, .slice A2_1 l2_1.length c2_1, .slice A2_2 l2_2.length c2_2, .int .i64 a2_3] 30 (0, 0)) BK217.out hg (Kd.R_ne HO_219000.out BK217.out (by decide))); replace BK218 := Aside0.mk (blk_grown (g := go_) (o := .cells #[.slice Ao32 x219000_1.length co32] 51 (0, 0)) BK218.out hg (Kd.R_ne HO_219000.out BK218.out (by decide))); replace HB := Aside0.mk hb; replace HK := Aside0.mk (Kept.of_grown (S := (fun k_ => P3_ k_)) hg (by repeat (first | (with_reducible first | exact HK.out | apply Kept.alloc | apply Kept.drewN | apply Kept.drew | refine Kept.setCell ?_ (.inl HGP_.out) _) | exact HK.out)) (fun k_ e_ => (HO_219000.out.1 k_ e_))); have HO226 := Aside0.mk ho; clear HO_219000; clear ho hb hg hat; obtain ⟨Ao79, co79, eo79⟩ := Kd.R_slice HO226.out; subst eo79; have hcz80 := blk_cell BK218.out; have hfz80 := blk_frozen BK218.out) | ((with_reducible refine gate_store (t := 51) (p := 3) rfl ?_); refine store_event (t := 51) (p := 3) (v := ?vo_w81) (w1 := (w78.setCell ⟨go_, 0, none⟩ (.slice Ao79 y224.length co79))) ?hg ?ho ?hn ?hr ?_; (case ho => rfl); (case hg => rfl); (case hn => rfl); (case hr => first | (go_simp; done) | (go_simp; rfl)); intro w81 hw; have n0_ : Aside0 (Kd.R (Kd.int .i64) 3 w81 w0.heap.size (fun k_ => (P3_ k_ ∨ w.heap.size ≤ k_)) (.slice Ao79 y224.length co79) y224) := ⟨(by rw [hw]; exact (by exact Kd.R_mono (Kd.R_far (p := ⟨go_, 0, none⟩) (Kd.R_types HO226.out BK218.out (by decide)) (fun _ hk => hk.2) (.slice Ao79 y224.length co79)) (fun _ hk => hk.1)))⟩; have n1_ : Aside0 (w81.heap[gs_]? = some (.cells #[.slice A1 l1.length c1] 51 (0, 0))) := ⟨(by rw [hw]; exact (by refine blk_far ?_ NB216_218.out _; exact BK216.out))⟩; have n2_ : Aside0 (w81.heap[gq_]? = some (.cells #[.slice A2_0 l2_0.length c2_0, .slice A2_1 l2_1.length c2_1, .slice A2_2 l2_2.length c2_2, .int .i64 a2_3] 30 (0, 0))) := ⟨(by rw [hw]; exact (by refine blk_far ?_ NB217_218.out _; exact BK217.out))⟩; have n3_ : Aside0 (w81.heap[go_]? = some (.cells #[.slice Ao79 y224.length co79] 51 (0, 0))) := ⟨(by rw [hw]; exact (by refine blk_put (cs := #[.slice Ao32 x219000_1.length co32]) ?_ 0 _ rfl; exact BK218.out))⟩; have n4_ : Aside0 (Kept w w81 (fun k_ => P3_ k_)) := ⟨(by rw [hw]; exact (by repeat (first | (with_reducible first | exact HK.out | apply Kept.alloc | apply Kept.drewN | apply Kept.drew | refine Kept.setCell ?_ (.inl HGP_.out) _) | exact HK.out)))⟩; have n5_ : Aside0 (Below w0.heap.size w0 w81) := ⟨(by rw [hw]; exact (hO HB))⟩; clear hw; clear HO226; clear BK216; clear BK217; clear BK218; clear HK; clear HB; have HO226 := n0_; have BK216 := n1_; have BK217 := n2_; have BK218 := n3_; have HK := n4_; have HB := n5_; clear n0_ n1_ n2_ n3_ n4_ n5_; have hnb82 := NB217_216.out; have hnc82 := NB216_217.out; have hcz83 := blk_cell BK217.out; have hfz83 := blk_frozen BK217.out; have hcz84 := blk_cell BK216.out; have hfz84 := blk_frozen BK216.out; have hcz85 := blk_cell BK218.out; have hfz85 := blk_frozen BK218.out; have hqF_ : World.cell? _ ⟨gf_, 0, none⟩ = some (.func (.func 56) #[] #[.pointer (some ⟨gs_, 0, none⟩), .pointer (some ⟨gq_, 0, none⟩), .pointer (some ⟨go_, 0, none⟩), .pointer (some ⟨gf_, 0, none⟩)]) := (blk_cell (blk_kept HBF_.out HK.out HGNF_.out) 0).trans rfl) | (go_at_call 56; (refine (ih k2 (by have := HK1.out; have := HK2.out; omega) (wrap64 (a0 + 1)) A1 c1 l1 A2_0 c2_0 l2_0 A2_1 c2_1 l2_1 A2_2 c2_2 l2_2 a2_3 (fun k_ => some k_ = (.slice Ao79 y224.length co79 : Value).ownBlock ∨ k_ = go_) (.slice Ao79 y224.length co79) y224 t227 false w0 _ ?side1 ?side2 ?side3 ?side4 ?side5 ?side6 ?side7 ?side8 ?side9 ?side10 gs_ ?sbs gq_ ?sbk go_ ?sbo gf_ ?sbf HSO_.out GE218.out (.inr rfl) ?sgf A57.out).mono ?_); (case sbs => exact BK216.out); (case sbk => exact BK217.out); (case sbo => exact BK218.out); (case sbf => exact blk_kept HBF_.out HK.out HGNF_.out); (case sgf => exact fun h_ => h_.elim (Kd.R_ne HO226.out (blk_kept HBF_.out HK.out HGNF_.out) (by decide)) HFO_.out); (case side1 => repeat (first | (with_reducible first | exact HB.out | apply below_alloc | apply pw_below_drewN | apply below_drew1 | refine below_set ?_ GE218.out) | exact HB.out)); (case side2 => exact Kd.C_kept_call HR1.out (by repeat (first | (with_reducible first | exact HK.out | apply Kept.alloc | apply Kept.drewN | apply Kept.drew | refine Kept.setCell ?_ (.inl HGP_.out) _) | exact HK.out)) (fun k_ hs_ => hs_.elim (fun e_ => (HO226.out.1 k_ e_.symm)) (fun e_ => .inl (by rw [e_]; exact HGP_.out)))); (case side3 => exact HC1.out); (case side4 => exact Kd.C_kept_call HR2_0.out (by repeat (first | (with_reducible first | exact HK.out | apply Kept.alloc | apply Kept.drewN | apply Kept.drew | refine Kept.setCell ?_ (.inl HGP_.out) _) | exact HK.out)) (fun k_ hs_ => hs_.elim (fun e_ => (HO226.out.1 k_ e_.symm)) (fun e_ => .inl (by rw [e_]; exact HGP_.out)))); (case side5 => exact HC2_0.out); (case side6 => exact Kd.C_kept_call HR2_1.out (by repeat (first | (with_reducible first | exact HK.out | apply Kept.alloc | apply Kept.drewN | apply Kept.drew | refine Kept.setCell ?_ (.inl HGP_.out) _) | exact HK.out)) (fun k_ hs_ => hs_.elim (fun e_ => (HO226.out.1 k_ e_.symm)) (fun e_ => .inl (by rw [e_]; exact HGP_.out)))); (case side7 => exact HC2_1.out); (case side8 => exact Kd.C_kept_call HR2_2.out (by repeat (first | (with_reducible first | exact HK.out | apply Kept.alloc | apply Kept.drewN | apply Kept.drew | refine Kept.setCell ?_ (.inl HGP_.out) _) | exact HK.out)) (fun k_ hs_ => hs_.elim (fun e_ => (HO226.out.1 k_ e_.symm)) (fun e_ => .inl (by rw [e_]; exact HGP_.out)))); (case side9 => exact HC2_2.out); (case side10 => exact Kd.R_mono (Kd.R_tight rfl HO226.out) (fun _ h_ => .inl h_)); rintro e wq_ hx_; obtain ⟨v228, w86, ⟨rfl, rfl⟩, ho0, hb, hkp⟩ := out_view hx_ BK218.out GE218.out (by decide); replace BK216 := Aside0.mk (blk_kept BK216.out hkp (fun hs_ => (fun e_ => (Kd.R_ne HO226.out BK216.out (by decide)) e_) hs_)); replace BK217 := Aside0.mk (blk_kept BK217.out hkp (fun hs_ => (fun e_ => (Kd.R_ne HO226.out BK217.out (by decide)) e_) hs_)); replace BK218 := Aside0.mk (blk_kept BK218.out hkp (fun hs_ => (fun e_ => (Kd.R_ne HO226.out BK218.out (by decide)) e_) hs_)); have HO229 := Aside0.mk (Kd.R_mono (ok' := fun k_ => (P3_ k_ ∨ w.heap.size ≤ k_)) ho0 (fun k_ hk_ => Or.elim hk_ (fun hs_ => (HO226.out.1 k_ (hs_).symm)) (fun hn_ => (.inr (Nat.le_trans (by first | exact HK.out.1 | exact (show Kept w _ (fun k_ => P3_ k_) from by repeat (first | (with_reducible first | exact HK.out | apply Kept.alloc | apply Kept.drewN | apply Kept.drew | refine Kept.setCell ?_ (.inl HGP_.out) _) | exact HK.out)).1) hn_))))); replace HK := Aside0.mk (Kept.then_ (S := (fun k_ => P3_ k_)) (by repeat (first | (with_reducible first | exact HK.out | apply Kept.alloc | apply Kept.drewN | apply Kept.drew | refine Kept.setCell ?_ (.inl HGP_.out) _) | exact HK.out)) hkp (fun k_ hs_ => (fun e_ => (HO226.out.1 k_ e_.symm)) hs_)); replace HB := Aside0.mk hb; clear HO226; (try clear hb); (try clear hkp); (try clear ho0); obtain ⟨Ao87, co87, eo87⟩ := Kd.R_slice HO229.out; subst eo87; have hcz88 := blk_cell BK218.out; have hfz88 := blk_frozen BK218.out; obtain ⟨w89, hw⟩ : ∃ W_, W_ = (w86.setCell ⟨go_, 0, none⟩ (.slice Ao87 t227.length co87)) := ⟨_, rfl⟩; rw [← hw]; have n0_ : Aside0 (Kd.R (Kd.int .i64) 3 w89 w0.heap.size (fun k_ => (P3_ k_ ∨ w.heap.size ≤ k_)) (.slice Ao87 t227.length co87) t227) := ⟨(by rw [hw]; exact (by exact Kd.R_mono (Kd.R_far (p := ⟨go_, 0, none⟩) (Kd.R_types HO229.out BK218.out (by decide)) (fun _ hk => hk.2) (.slice Ao87 t227.length co87)) (fun _ hk => hk.1)))⟩; have n1_ : Aside0 (w89.heap[gs_]? = some (.cells #[.slice A1 l1.length c1] 51 (0, 0))) := ⟨(by rw [hw]; exact (by refine blk_far ?_ NB216_218.out _; exact BK216.out))⟩; have n2_ : Aside0 (w89.heap[gq_]? = some (.cells #[.slice A2_0 l2_0.length c2_0, .slice A2_1 l2_1.length c2_1, .slice A2_2 l2_2.length c2_2, .int .i64 a2_3] 30 (0, 0))) := ⟨(by rw [hw]; exact (by refine blk_far ?_ NB217_218.out _; exact BK217.out))⟩; have n3_ : Aside0 (w89.heap[go_]? = some (.cells #[.slice Ao87 t227.length co87] 51 (0, 0))) := ⟨(by rw [hw]; exact (by refine blk_put (cs := #[.slice Ao79 y224.length co79]) ?_ 0 _ rfl; exact BK218.out))⟩; have n4_ : Aside0 (Kept w w89 (fun k_ => P3_ k_)) := ⟨(by rw [hw]; exact (by repeat (first | (with_reducible first | exact HK.out | apply Kept.alloc | apply Kept.drewN | apply Kept.drew | refine Kept.setCell ?_ (.inl HGP_.out) _) | exact HK.out)))⟩; have n5_ : Aside0 (Below w0.heap.size w0 w89) := ⟨(by rw [hw]; exact (hO HB))⟩; clear hw; clear HO229; clear BK216; clear BK217; clear BK218; clear HK; clear HB; have HO229 := n0_; have BK216 := n1_; have BK217 := n2_; have BK218 := n3_; have HK := n4_; have HB := n5_; clear n0_ n1_ n2_ n3_ n4_ n5_; have hcz90 := blk_cell BK218.out; have hfz90 := blk_frozen BK218.out; have q91 : (a0 : Int) ≤ ((t227.length : Int) : Int) := of_decide_eq_true (by assumption); obtain ⟨i091, hi091, _, hsz91, _⟩ := info_parts info3; have hcut91 := cut_to (P := Try.prog) 51 3 .i64 Try.underlying51 hi091 Ao87 t227.length co87 a0 (of_decide_eq_true (by assumption)) q91 (Kd.R_reads' HO229.out).2.1; have hr91 := Kd.R_take (m := (a0 : Int).toNat) HO229.out (by omega); have hy91 : y231.length = (a0 : Int).toNat := (by rw [Ny231.out, List.length_take]; omega); rw [← Ny231.out] at hr91; rw [← hy91] at hr91 hcut91; clear hy91 hi091 hsz91 HO229; have HO233 := Aside0.mk hr91; clear hr91; replace q91 := eq_true q91))
      go_roundg k2
      case measure => have := HK1.out; have := HK2.out; omega
      case rel => exact ⟨(wrap64 (x18_1 + 1)), (y231), (.slice Ao87 y231.length co87), rfl, H', ⟨by have := HK1.out; have := HK2.out; omega⟩, ⟨Kd.R_mono (Kd.R_far (p := ⟨go_, 0, none⟩) (Kd.R_types HO233.out BK218.out (by decide)) (fun _ hk => hk.2) (.slice Ao87 y231.length co87)) (fun _ hk => hk.1)⟩, ⟨by refine blk_far ?_ NB216_218.out _; exact BK216.out⟩, ⟨by refine blk_far ?_ NB217_218.out _; exact BK217.out⟩, ⟨by refine blk_put (cs := #[.slice Ao87 t227.length co87]) ?_ 0 _ rfl; exact BK218.out⟩, ⟨by repeat (first | (with_reducible first | exact HK.out | apply Kept.alloc | apply Kept.drewN | apply Kept.drew | refine Kept.setCell ?_ (.inl HGP_.out) _) | exact HK.out)⟩, ⟨hO HB⟩⟩
     rw [if_pos c33] at H
     have c33b0 := decide_eq_true c33
     clear c33
     obtain ⟨c34, H⟩ : (0 ≤ x27_2) ∧ _ := mIf H
     have c34b0 := decide_eq_true c34
     clear c34
     obtain ⟨c35, H⟩ : (x27_2 < (x219000_1.length : Int)) ∧ _ := mIf H
     have c35b0 := decide_eq_true c35
     clear c35
     by_cases c36 : x8_2 = true
     rotate_left
     ·
      replace c36 := Bool.eq_false_iff.mpr c36
      subst c36
      rw [if_neg (show ¬ (false = true) by decide)] at H
      have H' := Aside0.mk H
      clear H
      have hnb51 := NB218_216.out
      have hnc51 := NB216_218.out
      have hnb52 := NB218_217.out
      have hnc52 := NB217_218.out
      have hcz53 := blk_cell BK218.out; have hfz53 := blk_frozen BK218.out
      have p220 : 0 ≤ (x27_2 : Int) := of_decide_eq_true (by assumption)
      have q220 : x27_2 < (x219000_1.length : Int) := of_decide_eq_true (by assumption)
      obtain ⟨ad220, e220, hx220_0⟩ := Kd.at_int (Kd.R_reads' HO_219000.out).2.2 x27_2 p220 q220
      cases e220
      replace p220 := eq_true p220
      replace q220 := eq_true q220
      try go_wp2
      replace HO_219000 := Aside0.mk (Kd.R_drew HO_219000.out); replace BK216 := Aside0.mk (blk_drew BK216.out); replace BK217 := Aside0.mk (blk_drew BK217.out); replace BK218 := Aside0.mk (blk_drew BK218.out); replace HK := Aside0.mk (Kept.drew HK.out); replace HB := Aside0.mk (below_drew1 HB.out)
      refine start_ (n := 22) (S := fun w' => True) (ds := []) #[false, false, false, false, false, false, false, false, false, false, false, false, false, false, false, false, false, false, false, false, false, false] (by kernel_rfl) rfl rfl trivial (fun hHeld => ?_); refine with_tabW rehearse_Task_rooms_fn1.tab10 rehearse_Task_rooms_fn1.bits10 (fun HT_ HW_ => ?_)
      generalize wr.drew = w54 at HO_219000 BK216 BK217 BK218 HK HB hHeld ⊢
      refine pM 0 32 HT_ ?_
      refine pM 1 33 HT_ ?_
      refine pure_ (i := 2) (N := some 34) (v := undef) (a' := ?_) #[true, true, true, false, false, false, false, false, false, false, false, false, false, false, false, false, false, false, false, false, false, false] rfl rfl (any_of HT_.out (by kernel_rfl)) (fun _ _ _ h => h) (Or.inr ⟨by rfl, rfl⟩) ?_ ?_
      rotate_left
      ·
       simp only [mP]
       rfl
      refine pure_ (i := 3) (N := some 35) (v := undef) (a' := ?_) #[true, true, true, true, false, false, false, false, false, false, false, false, false, false, false, false, false, false, false, false, false, false] rfl rfl (any_of HT_.out (by kernel_rfl)) (fun _ _ _ h => h) (Or.inr ⟨by rfl, rfl⟩) ?_ ?_
      rotate_left
      ·
       simp only [mP]
       rfl
      refine pure_ (i := 4) (N := some 36) (v := undef) (a' := ?_) #[true, true, true, true, true, false, false, false, false, false, false, false, false, false, false, false, false, false, false, false, false, false] rfl rfl (any_of HT_.out (by kernel_rfl)) (fun _ _ _ h => h) (Or.inr ⟨by rfl, rfl⟩) ?_ ?_
      rotate_left
      ·
       simp only [mP]
       rfl
      refine pure_ (i := 5) (N := some 37) (v := undef) (a' := ?_) #[true, true, true, true, true, true, false, false, false, false, false, false, false, false, false, false, false, false, false, false, false, false] rfl rfl (any_of HT_.out (by kernel_rfl)) (fun _ _ _ h => h) (Or.inr ⟨by rfl, rfl⟩) ?_ ?_
      rotate_left
      ·
       simp only [mP]
       rfl
      refine pure_ (i := 6) (N := some 38) (v := undef) (a' := ?_) #[true, true, true, true, true, true, true, false, false, false, false, false, false, false, false, false, false, false, false, false, false, false] rfl rfl (any_of HT_.out (by kernel_rfl)) (fun _ _ _ h => h) (Or.inr ⟨by rfl, rfl⟩) ?_ ?_
      rotate_left
      ·
       simp only [mP]
       rfl
      refine pure_ (i := 7) (N := some 39) (v := undef) (a' := ?_) #[true, true, true, true, true, true, true, true, false, false, false, false, false, false, false, false, false, false, false, false, false, false] rfl rfl (any_of HT_.out (by kernel_rfl)) (fun _ _ _ h => h) (Or.inr ⟨by rfl, rfl⟩) ?_ ?_
      rotate_left
      ·
       simp only [mP]
       rfl
      refine pure_ (i := 8) (N := some 40) (v := undef) (a' := ?_) #[true, true, true, true, true, true, true, true, true, false, false, false, false, false, false, false, false, false, false, false, false, false] rfl rfl (any_of HT_.out (by kernel_rfl)) (fun _ _ _ h => h) (Or.inr ⟨by rfl, rfl⟩) ?_ ?_
      rotate_left
      ·
       simp only [mP]
       rfl
      refine pure_ (i := 9) (N := some 41) (v := undef) (a' := ?_) #[true, true, true, true, true, true, true, true, true, true, false, false, false, false, false, false, false, false, false, false, false, false] rfl rfl (any_of HT_.out (by kernel_rfl)) (fun _ _ _ h => h) (Or.inr ⟨by rfl, rfl⟩) ?_ ?_
      rotate_left
      ·
       simp only [mP]
       rfl
      refine pure_ (i := 10) (N := some 42) (v := undef) (a' := ?_) #[true, true, true, true, true, true, true, true, true, true, true, false, false, false, false, false, false, false, false, false, false, false] rfl rfl (any_of HT_.out (by kernel_rfl)) (fun _ _ _ h => h) (Or.inr ⟨by rfl, rfl⟩) ?_ ?_
      rotate_left
      ·
       simp only [mP]
       rfl
      refine pure_ (i := 11) (N := some 43) (v := undef) (a' := ?_) #[true, true, true, true, true, true, true, true, true, true, true, true, false, false, false, false, false, false, false, false, false, false] rfl rfl (any_of HT_.out (by kernel_rfl)) (fun _ _ _ h => h) (Or.inr ⟨by rfl, rfl⟩) ?_ ?_
      rotate_left
      ·
       simp only [mP]
       rfl
      refine pure_ (i := 12) (N := some 44) (v := undef) (a' := ?_) #[true, true, true, true, true, true, true, true, true, true, true, true, true, false, false, false, false, false, false, false, false, false] rfl rfl (any_of HT_.out (by kernel_rfl)) (fun _ _ _ h => h) (Or.inr ⟨by rfl, rfl⟩) ?_ ?_
      rotate_left
      ·
       simp only [mP]
       rfl
      refine pure_ (i := 13) (N := some 45) (v := undef) (a' := ?_) #[true, true, true, true, true, true, true, true, true, true, true, true, true, true, false, false, false, false, false, false, false, false] rfl rfl (any_of HT_.out (by kernel_rfl)) (fun _ _ _ h => h) (Or.inr ⟨by rfl, rfl⟩) ?_ ?_
      rotate_left
      ·
       simp only [mP]
       rfl
      refine pure_ (i := 14) (N := some 46) (v := undef) (a' := ?_) #[true, true, true, true, true, true, true, true, true, true, true, true, true, true, true, false, false, false, false, false, false, false] rfl rfl (any_of HT_.out (by kernel_rfl)) (fun _ _ _ h => h) (Or.inr ⟨by rfl, rfl⟩) ?_ ?_
      rotate_left
      ·
       simp only [mP]
       rfl
      refine pure_ (i := 15) (N := some 47) (v := undef) (a' := ?_) #[true, true, true, true, true, true, true, true, true, true, true, true, true, true, true, true, false, false, false, false, false, false] rfl rfl (any_of HT_.out (by kernel_rfl)) (fun _ _ _ h => h) (Or.inr ⟨by rfl, rfl⟩) ?_ ?_
      rotate_left
      ·
       simp only [mP]
       rfl
      refine pure_ (i := 16) (N := some 48) (v := undef) (a' := ?_) #[true, true, true, true, true, true, true, true, true, true, true, true, true, true, true, true, true, false, false, false, false, false] rfl rfl (any_of HT_.out (by kernel_rfl)) (fun _ _ _ h => h) (Or.inr ⟨by rfl, rfl⟩) ?_ ?_
      rotate_left
      ·
       simp only [mP]
       rfl
      refine pure_ (i := 17) (N := some 49) (v := undef) (a' := ?_) #[true, true, true, true, true, true, true, true, true, true, true, true, true, true, true, true, true, true, false, false, false, false] rfl rfl (any_of HT_.out (by kernel_rfl)) (fun _ _ _ h => h) (Or.inr ⟨by rfl, rfl⟩) ?_ ?_
      rotate_left
      ·
       simp only [mP]
       rfl
      refine pure_ (i := 18) (N := some 50) (v := undef) (a' := ?_) #[true, true, true, true, true, true, true, true, true, true, true, true, true, true, true, true, true, true, true, false, false, false] rfl rfl (any_of HT_.out (by kernel_rfl)) (fun _ _ _ h => h) (Or.inr ⟨by rfl, rfl⟩) ?_ ?_
      rotate_left
      ·
       simp only [mP]
       rfl
      refine pure_ (i := 19) (N := some 51) (v := undef) (a' := ?_) #[true, true, true, true, true, true, true, true, true, true, true, true, true, true, true, true, true, true, true, true, false, false] rfl rfl (any_of HT_.out (by kernel_rfl)) (fun _ _ _ h => h) (Or.inr ⟨by rfl, rfl⟩) ?_ ?_
      rotate_left
      ·
       simp only [mP]
       rfl
      refine pM 20 52 HT_ ?_
      refine pM 21 8 HT_ ?_
      refine done_ (done_of HT_.out (by kernel_rfl)) ?_
      try go_wp2
      go_roundg k2
      case measure => have := HK1.out; have := HK2.out; omega
      case rel => exact ⟨(false), (wrap64 (x27_2 + 1)), rfl, rfl, H', ⟨by have := HK1.out; have := HK2.out; omega⟩, HO_219000, ⟨BK216.out⟩, ⟨BK217.out⟩, ⟨BK218.out⟩, HK, ⟨HB.out⟩⟩
     subst c36
     rw [if_pos rfl] at H
     by_cases c37 : (rd x219000_1 x27_2) = x18_1
     rotate_left
     ·
      rw [if_neg c37] at H
      have c37b0 := beq_eq_false_iff_ne.mpr c37
      have c37b1 := bne_iff_ne.mpr c37
      have H' := Aside0.mk H
      clear H
      have hnb47 := NB218_216.out
      have hnc47 := NB216_218.out
      have hnb48 := NB218_217.out
      have hnc48 := NB217_218.out
      have hcz49 := blk_cell BK218.out; have hfz49 := blk_frozen BK218.out
      have p220 : 0 ≤ (x27_2 : Int) := of_decide_eq_true (by assumption)
      have q220 : x27_2 < (x219000_1.length : Int) := of_decide_eq_true (by assumption)
      obtain ⟨ad220, e220, hx220_0⟩ := Kd.at_int (Kd.R_reads' HO_219000.out).2.2 x27_2 p220 q220
      cases e220
      replace p220 := eq_true p220
      replace q220 := eq_true q220
      try go_wp2
      replace HO_219000 := Aside0.mk (Kd.R_drew HO_219000.out); replace BK216 := Aside0.mk (blk_drew BK216.out); replace BK217 := Aside0.mk (blk_drew BK217.out); replace BK218 := Aside0.mk (blk_drew BK218.out); replace HK := Aside0.mk (Kept.drew HK.out); replace HB := Aside0.mk (below_drew1 HB.out)
      refine start_ (n := 22) (S := fun w' => True) (ds := []) #[false, false, false, false, false, false, false, false, false, false, false, false, false, false, false, false, false, false, false, false, false, false] (by kernel_rfl) rfl rfl trivial (fun hHeld => ?_); refine with_tabW rehearse_Task_rooms_fn1.tab10 rehearse_Task_rooms_fn1.bits10 (fun HT_ HW_ => ?_)
      generalize wr.drew = w50 at HO_219000 BK216 BK217 BK218 HK HB hHeld ⊢
      refine pM 0 32 HT_ ?_
      refine pM 1 33 HT_ ?_
      refine pM 2 34 HT_ ?_
      refine pM 3 35 HT_ ?_
      refine pM 4 36 HT_ ?_
      refine pM 5 37 HT_ ?_
      refine pure_ (i := 6) (N := some 38) (v := undef) (a' := ?_) #[true, true, true, true, true, true, true, false, false, false, false, false, false, false, false, false, false, false, false, false, false, false] rfl rfl (any_of HT_.out (by kernel_rfl)) (fun _ _ _ h => h) (Or.inr ⟨by rfl, rfl⟩) ?_ ?_
      rotate_left
      ·
       simp only [mP]
       rfl
      refine pure_ (i := 7) (N := some 39) (v := undef) (a' := ?_) #[true, true, true, true, true, true, true, true, false, false, false, false, false, false, false, false, false, false, false, false, false, false] rfl rfl (any_of HT_.out (by kernel_rfl)) (fun _ _ _ h => h) (Or.inr ⟨by rfl, rfl⟩) ?_ ?_
      rotate_left
      ·
       simp only [mP]
       rfl
      refine pure_ (i := 8) (N := some 40) (v := undef) (a' := ?_) #[true, true, true, true, true, true, true, true, true, false, false, false, false, false, false, false, false, false, false, false, false, false] rfl rfl (any_of HT_.out (by kernel_rfl)) (fun _ _ _ h => h) (Or.inr ⟨by rfl, rfl⟩) ?_ ?_
      rotate_left
      ·
       simp only [mP]
       rfl
      refine pure_ (i := 9) (N := some 41) (v := undef) (a' := ?_) #[true, true, true, true, true, true, true, true, true, true, false, false, false, false, false, false, false, false, false, false, false, false] rfl rfl (any_of HT_.out (by kernel_rfl)) (fun _ _ _ h => h) (Or.inr ⟨by rfl, rfl⟩) ?_ ?_
      rotate_left
      ·
       simp only [mP]
       rfl
      refine pure_ (i := 10) (N := some 42) (v := undef) (a' := ?_) #[true, true, true, true, true, true, true, true, true, true, true, false, false, false, false, false, false, false, false, false, false, false] rfl rfl (any_of HT_.out (by kernel_rfl)) (fun _ _ _ h => h) (Or.inr ⟨by rfl, rfl⟩) ?_ ?_
      rotate_left
      ·
       simp only [mP]
       rfl
      refine pure_ (i := 11) (N := some 43) (v := undef) (a' := ?_) #[true, true, true, true, true, true, true, true, true, true, true, true, false, false, false, false, false, false, false, false, false, false] rfl rfl (any_of HT_.out (by kernel_rfl)) (fun _ _ _ h => h) (Or.inr ⟨by rfl, rfl⟩) ?_ ?_
      rotate_left
      ·
       simp only [mP]
       rfl
      refine pure_ (i := 12) (N := some 44) (v := undef) (a' := ?_) #[true, true, true, true, true, true, true, true, true, true, true, true, true, false, false, false, false, false, false, false, false, false] rfl rfl (any_of HT_.out (by kernel_rfl)) (fun _ _ _ h => h) (Or.inr ⟨by rfl, rfl⟩) ?_ ?_
      rotate_left
      ·
       simp only [mP]
       rfl
      refine pure_ (i := 13) (N := some 45) (v := undef) (a' := ?_) #[true, true, true, true, true, true, true, true, true, true, true, true, true, true, false, false, false, false, false, false, false, false] rfl rfl (any_of HT_.out (by kernel_rfl)) (fun _ _ _ h => h) (Or.inr ⟨by rfl, rfl⟩) ?_ ?_
      rotate_left
      ·
       simp only [mP]
       rfl
      refine pure_ (i := 14) (N := some 46) (v := undef) (a' := ?_) #[true, true, true, true, true, true, true, true, true, true, true, true, true, true, true, false, false, false, false, false, false, false] rfl rfl (any_of HT_.out (by kernel_rfl)) (fun _ _ _ h => h) (Or.inr ⟨by rfl, rfl⟩) ?_ ?_
      rotate_left
      ·
       simp only [mP]
       rfl
      refine pure_ (i := 15) (N := some 47) (v := undef) (a' := ?_) #[true, true, true, true, true, true, true, true, true, true, true, true, true, true, true, true, false, false, false, false, false, false] rfl rfl (any_of HT_.out (by kernel_rfl)) (fun _ _ _ h => h) (Or.inr ⟨by rfl, rfl⟩) ?_ ?_
      rotate_left
      ·
       simp only [mP]
       rfl
      refine pure_ (i := 16) (N := some 48) (v := undef) (a' := ?_) #[true, true, true, true, true, true, true, true, true, true, true, true, true, true, true, true, true, false, false, false, false, false] rfl rfl (any_of HT_.out (by kernel_rfl)) (fun _ _ _ h => h) (Or.inr ⟨by rfl, rfl⟩) ?_ ?_
      rotate_left
      ·
       simp only [mP]
       rfl
      refine pure_ (i := 17) (N := some 49) (v := undef) (a' := ?_) #[true, true, true, true, true, true, true, true, true, true, true, true, true, true, true, true, true, true, false, false, false, false] rfl rfl (any_of HT_.out (by kernel_rfl)) (fun _ _ _ h => h) (Or.inr ⟨by rfl, rfl⟩) ?_ ?_
      rotate_left
      ·
       simp only [mP]
       rfl
      refine pure_ (i := 18) (N := some 50) (v := undef) (a' := ?_) #[true, true, true, true, true, true, true, true, true, true, true, true, true, true, true, true, true, true, true, false, false, false] rfl rfl (any_of HT_.out (by kernel_rfl)) (fun _ _ _ h => h) (Or.inr ⟨by rfl, rfl⟩) ?_ ?_
      rotate_left
      ·
       simp only [mP]
       rfl
      refine pM 19 51 HT_ ?_
      refine pM 20 52 HT_ ?_
      refine pM 21 8 HT_ ?_
      refine done_ (done_of HT_.out (by kernel_rfl)) ?_
      try go_wp2
      go_roundg k2
      case measure => have := HK1.out; have := HK2.out; omega
      case rel => exact ⟨(true), (wrap64 (x27_2 + 1)), rfl, rfl, H', ⟨by have := HK1.out; have := HK2.out; omega⟩, HO_219000, ⟨BK216.out⟩, ⟨BK217.out⟩, ⟨BK218.out⟩, HK, ⟨HB.out⟩⟩
     rw [if_pos c37] at H
     have c37b0 := beq_iff_eq.mpr c37
     have c37b1 := bne_eq_false_iff_eq.mpr c37
     clear c37
     obtain ⟨c38, H⟩ : (0 ≤ a0) ∧ _ := mIf H
     have c38b0 := decide_eq_true c38
     clear c38
     obtain ⟨c39, H⟩ : (a0 < (l1.length : Int)) ∧ _ := mIf H
     have c39b0 := decide_eq_true c39
     clear c39
     obtain ⟨c40, H⟩ : (x27_2 < (l1.length : Int)) ∧ _ := mIf H
     have c40b0 := decide_eq_true c40
     clear c40
     replace H := Option.bind_eq_some_iff.mp H
     obtain ⟨t223, A410, H⟩ := H
     try dsimp only at H
     have A41 := Aside0.mk A410
     clear A410
     have H' := Aside0.mk H
     clear H
     have hnb42 := NB218_216.out
     have hnc42 := NB216_218.out
     have hnb43 := NB218_217.out
     have hnc43 := NB217_218.out
     have hcz44 := blk_cell BK218.out; have hfz44 := blk_frozen BK218.out
     have p220 : 0 ≤ (x27_2 : Int) := of_decide_eq_true (by assumption)
     have q220 : x27_2 < (x219000_1.length : Int) := of_decide_eq_true (by assumption)
     obtain ⟨ad220, e220, hx220_0⟩ := Kd.at_int (Kd.R_reads' HO_219000.out).2.2 x27_2 p220 q220
     cases e220
     replace p220 := eq_true p220
     replace q220 := eq_true q220
     try go_wp2
     replace HO_219000 := Aside0.mk (Kd.R_drew HO_219000.out); replace BK216 := Aside0.mk (blk_drew BK216.out); replace BK217 := Aside0.mk (blk_drew BK217.out); replace BK218 := Aside0.mk (blk_drew BK218.out); replace HK := Aside0.mk (Kept.drew HK.out); replace HB := Aside0.mk (below_drew1 HB.out)
     have p221 : 0 ≤ (a0 : Int) := of_decide_eq_true (by assumption)
     have q221 : a0 < (l1.length : Int) := of_decide_eq_true (by assumption)
     obtain ⟨ad221, e221, hx221_0⟩ := Kd.at_int (Kd.C_kept_now HR1.out HK.out) a0 p221 q221
     have hw221_0 := hx221_0
     cases e221
     replace p221 := eq_true p221
     replace q221 := eq_true q221
     have p222 : 0 ≤ (x27_2 : Int) := of_decide_eq_true (by assumption)
     have q222 : x27_2 < (l1.length : Int) := of_decide_eq_true (by assumption)
     obtain ⟨ad222, e222, hx222_0⟩ := Kd.at_int (Kd.C_kept_now HR1.out HK.out) x27_2 p222 q222
     have hw222_0 := hx222_0
     obtain rfl : ad221 = ad222 := (by injection e222)
     replace p222 := eq_true p222
     replace q222 := eq_true q222
     refine start_ (n := 22) (S := fun w' => w'.cell? ⟨gq_, 0, none⟩ = some (.slice A2_0 l2_0.length c2_0) ∧ w'.cell? ⟨gq_, 1, none⟩ = some (.slice A2_1 l2_1.length c2_1) ∧ w'.cell? ⟨gq_, 2, none⟩ = some (.slice A2_2 l2_2.length c2_2) ∧ w'.cell? ⟨gq_, 3, none⟩ = some (.int .i64 a2_3) ∧ w'.cell? ⟨gs_, 0, none⟩ = some (.slice (some ad221) l1.length c1) ∧ w'.cell? (ad221.add (a0).toNat) = some (.int .i64 (rd l1 a0)) ∧ w'.cell? (ad221.add (x27_2).toNat) = some (.int .i64 (rd l1 x27_2))) (ds := []) #[false, false, false, false, false, false, false, false, false, false, false, false, false, false, false, false, false, false, false, false, false, false] (by kernel_rfl) rfl rfl ⟨(blk_cell BK217.out 0).trans rfl, (blk_cell BK217.out 1).trans rfl, (blk_cell BK217.out 2).trans rfl, (blk_cell BK217.out 3).trans rfl, (blk_cell BK216.out 0).trans rfl, (Kd.foot_int (HR1.out _ (by repeat (first | exact HK.out | apply Kept.alloc | apply Kept.drewN | apply Kept.drew))) a0 (of_eq_true p221) (of_eq_true q221)), (Kd.foot_int (HR1.out _ (by repeat (first | exact HK.out | apply Kept.alloc | apply Kept.drewN | apply Kept.drew))) x27_2 (of_eq_true p222) (of_eq_true q222))⟩ (fun hHeld => ?_); refine with_tabW rehearse_Task_rooms_fn1.tab10 rehearse_Task_rooms_fn1.bits10 (fun HT_ HW_ => ?_)
     generalize wr.drew = w45 at HO_219000 BK216 BK217 BK218 HK HB hx221_0 hx222_0 hHeld ⊢
     refine pM 0 32 HT_ ?_
     refine pM 1 33 HT_ ?_
     refine pM 2 34 HT_ ?_
     refine pM 3 35 HT_ ?_
     refine pM 4 36 HT_ ?_
     refine pM 5 37 HT_ ?_
     refine pM 7 39 HT_ ?_
     refine pM 9 41 HT_ ?_
     refine pM 12 44 HT_ ?_
     refine pM 14 46 HT_ ?_
     refine tM 6 38 rfl HT_ HW_ (by rintro w' ⟨s0, s1, s2, s3, s4, s5, s6⟩; go_simp; with_reducible rfl) hHeld ?_
     refine tM 8 40 rfl HT_ HW_ (by rintro w' ⟨s0, s1, s2, s3, s4, s5, s6⟩; go_simp; with_reducible rfl) hHeld ?_
     refine pM 10 42 HT_ ?_
     refine tM 11 43 rfl HT_ HW_ (by rintro w' ⟨s0, s1, s2, s3, s4, s5, s6⟩; go_simp; with_reducible rfl) hHeld ?_
     refine tM 13 45 rfl HT_ HW_ (by rintro w' ⟨s0, s1, s2, s3, s4, s5, s6⟩; go_simp; with_reducible rfl) hHeld ?_
     refine pM 15 47 HT_ ?_
     refine tM 16 48 rfl HT_ HW_ (by rintro w' ⟨s0, s1, s2, s3, s4, s5, s6⟩; go_simp; with_reducible rfl) hHeld ?_
     refine one_ (i := 17) (N := some 49) #[true, true, true, true, true, true, true, true, true, true, true, true, true, true, true, true, true, true, false, false, false, false] rfl rfl (one_of HT_.out (by kernel_rfl)) (by decide) (fun K hK => ?_)
     refine goes_ Try.func35 (by kernel_rfl) rfl #[.agg #[.slice A2_0 l2_0.length c2_0, .slice A2_1 l2_1.length c2_1, .slice A2_2 l2_2.length c2_2, .int .i64 a2_3], .int .i64 a0, .int .i64 (rd l1 a0), .int .i64 x27_2, .int .i64 (rd l1 x27_2)] (by rfl) rfl rfl (by (try simp only [List.map_toArray, List.map_cons, List.map_nil]); first | done | rfl | (simp only [List.length_drop, List.length_take]; rfl)) ?_
     with_reducible refine (rehearse_Task_meet.calls _ _ l2_0 _ _ l2_1 _ _ l2_2 a2_3 a0 (rd l1 a0) x27_2 (rd l1 x27_2) t223 _ ?side1 ?side2 ?side3 ?side4 ?side5 ?side6 A41.out).mono ?_
     (case side1 => exact Kd.C_kept_now HR2_0.out (by repeat (first | (with_reducible first | exact HK.out | apply Kept.alloc | apply Kept.drewN | apply Kept.drew | refine Kept.setCell ?_ (.inl HGP_.out) _) | exact HK.out)))
     (case side2 => exact HC2_0.out)
     (case side3 => exact Kd.C_kept_now HR2_1.out (by repeat (first | (with_reducible first | exact HK.out | apply Kept.alloc | apply Kept.drewN | apply Kept.drew | refine Kept.setCell ?_ (.inl HGP_.out) _) | exact HK.out)))
     (case side4 => exact HC2_1.out)
     (case side5 => exact Kd.C_kept_now HR2_2.out (by repeat (first | (with_reducible first | exact HK.out | apply Kept.alloc | apply Kept.drewN | apply Kept.drew | refine Kept.setCell ?_ (.inl HGP_.out) _) | exact HK.out)))
     (case side6 => exact HC2_2.out)
     rintro e w46 ⟨rfl, hb⟩
     refine ⟨_, rfl, ?_⟩
     replace HO_219000 := Aside0.mk (Kd.R_below HO_219000.out hb); replace BK216 := mBb BK216 hb; replace BK217 := mBb BK217 hb; replace BK218 := mBb BK218 hb; replace HK := Aside0.mk (Kept.below (S := (fun k_ => P3_ k_)) (by repeat (first | (with_reducible first | exact HK.out | apply Kept.alloc | apply Kept.drewN | apply Kept.drew | refine Kept.setCell ?_ (.inl HGP_.out) _) | exact HK.out)) hb); replace HB := mSt HB hb
     (try clear hb)
     (try clear hb2)
     (try clear hk)
     (try clear hi)
     refine hK.out _ _ ⟨blk_cell BK217.out 0, blk_cell BK217.out 1, blk_cell BK217.out 2, blk_cell BK217.out 3, blk_cell BK216.out 0, (Kd.foot_int (HR1.out _ (by repeat (first | exact HK.out | apply Kept.alloc | apply Kept.drewN | apply Kept.drew))) a0 (of_eq_true p221) (of_eq_true q221)), (Kd.foot_int (HR1.out _ (by repeat (first | exact HK.out | apply Kept.alloc | apply Kept.drewN | apply Kept.drew))) x27_2 (of_eq_true p222) (of_eq_true q222))⟩ (fun hHeld => ?_)
     clear hK K
     refine norm_ (by show Act.put _ (some 49) _ = _; simp only [mP]; rfl) ?_
     refine pM 18 50 HT_ ?_
     refine pM 19 51 HT_ ?_
     refine pM 20 52 HT_ ?_
     refine pM 21 8 HT_ ?_
     refine done_ (done_of HT_.out (by kernel_rfl)) ?_
     try go_wp2
     go_roundg k2
     case measure => have := HK1.out; have := HK2.out; omega
     case rel => exact ⟨(!t223), (wrap64 (x27_2 + 1)), rfl, rfl, H', ⟨by have := HK1.out; have := HK2.out; omega⟩, HO_219000, ⟨BK216.out⟩, ⟨BK217.out⟩, ⟨BK218.out⟩, HK, ⟨HB.out⟩⟩
def rehearse_Task_rooms.f (k : Nat) (l0_0 : List (S53)) (l0_1 : List (S55)) (l0_2 : List (S59)) (a0_3 : Int) (l1 : List Int) : Option (List Int × Bool) := (rehearse_Task_rooms_fn1.f k 0 l1 l0_0 l0_1 l0_2 a0_3 ([] : List Int)).bind fun bt238 => (some (bt238.1, bt238.2))
theorem rehearse_Task_rooms.run_store_func {P : Program} {w : World} {a : Addr} {m : Mode} (fn : Fn) (first cap : Array Value) : (store a (.func fn first cap) m).run P w = stored P w a (.func fn first cap) m := run_store P w a _ m rfl
attribute [local go_sem] rehearse_Task_rooms.run_store_func
set_option maxHeartbeats 8000000 in
set_option maxRecDepth 100000 in
theorem rehearse_Task_rooms.calls (k : Nat) (A0_0 : Option Addr) (c0_0 : Nat) (l0_0 : List (S53)) (A0_1 : Option Addr) (c0_1 : Nat) (l0_1 : List (S55)) (A0_2 : Option Addr) (c0_2 : Nat) (l0_2 : List (S59)) (a0_3 : Int) (A1 : Option Addr) (c1 : Nat) (l1 : List Int) (r1 : List Int) (r2 : Bool) (w : World) (hr0_0 : Kd.C k53 w A0_0 l0_0.length l0_0) (hc0_0 : l0_0.length ≤ c0_0) (hr0_1 : Kd.C k55 w A0_1 l0_1.length l0_1) (hc0_1 : l0_1.length ≤ c0_1) (hr0_2 : Kd.C k59 w A0_2 l0_2.length l0_2) (hc0_2 : l0_2.length ≤ c0_2) (hr1 : Kd.C (Kd.int .i64) w A1 l1.length l1) (hc1 : l1.length ≤ c1) (h : rehearse_Task_rooms.f k l0_0 l0_1 l0_2 a0_3 l1 = some (r1, r2)) :
  Calls Try.prog 42 #[.agg #[.slice A0_0 l0_0.length c0_0, .slice A0_1 l0_1.length c0_1, .slice A0_2 l0_2.length c0_2, .int .i64 a0_3], .slice A1 l1.length c1] w fun e w' => ∃ v0_ : Value, e = .returned (.tuple #[v0_, .bool r2]) ∧ Kd.R (Kd.int .i64) 3 w' w.heap.size (fun _ => True) v0_ r1 ∧ Below w.heap.size w w' := by
 have hu30 := Try.underlying30
 have HR0_0 := Aside0.mk hr0_0
 have HC0_0 := Aside0.mk hc0_0
 clear hr0_0 hc0_0
 have HR0_1 := Aside0.mk hr0_1
 have HC0_1 := Aside0.mk hc0_1
 clear hr0_1 hc0_1
 have HR0_2 := Aside0.mk hr0_2
 have HC0_2 := Aside0.mk hc0_2
 clear hr0_2 hc0_2
 have HR1 := Aside0.mk hr1
 have HC1 := Aside0.mk hc1
 clear hr1 hc1
 have HB := Aside0.mk (Below.refl w.heap.size w)
 have H := h
 unfold rehearse_Task_rooms.f at H
 clear h
 replace H := Option.bind_eq_some_iff.mp H
 obtain ⟨⟨t238, t241⟩, A30, H⟩ := H
 try dsimp only at H
 have A3 := Aside0.mk A30
 clear A30
 simp only [Option.some.injEq, Prod.mk.injEq] at H
 obtain ⟨rfl, rfl⟩ := H
 have hmf : ∀ (fn : Fn) (first cap : Array Value) (w : World), (Instr.makeFunc fn first cap).run Try.prog w = .ok (.func fn first cap) w := fun _ _ _ _ => rfl
 go_enter Try.func42, Try.ntmps42
 go_wp2_with (first | ((with_reducible refine gate_dst (N := 2) rfl ?_); refine box_event rfl (N := 2) rfl (cs := #[.slice A0_0 l0_0.length c0_0, .slice A0_1 l0_1.length c0_1, .slice A0_2 l0_2.length c0_2, .int .i64 a0_3]) (t := 30) (by first | (go_simp; done) | (go_simp; rfl)) ?_; intro gb1 hg w4 hbox hb; have BK1 := Aside0.mk hbox; have GW1 := Aside0.mk ((by rw [hg]; exact (below_size (hO HB)) : w.heap.size ≤ gb1)); have GE1 := GW1; replace HB := mSx HB hb; clear hb hbox hg) | ((with_reducible refine gate_dst (N := 3) rfl ?_); refine box_event rfl (N := 3) rfl (cs := #[.slice A1 l1.length c1]) (t := 51) (by first | (go_simp; done) | (go_simp; rfl)) ?_; intro gb2 hg w5 hbox hb; have BK2 := Aside0.mk hbox; have GW2 := Aside0.mk ((by rw [hg]; exact (below_size (hO HB)) : w.heap.size ≤ gb2)); have GE2 := GW2; replace HB := mSx HB hb; have NB1_2 := mNe BK1 hg; have NB2_1 := mSy NB1_2; replace BK1 := mBb BK1 hb; clear hb hbox hg) | ((with_reducible refine gate_dst (N := 6) rfl ?_); refine box_event rfl (N := 6) rfl (cs := #[.slice none 0 0]) (t := 51) (by first | (go_simp; done) | (go_simp; rfl)) ?_; intro gb3 hg w6 hbox hb; have BK3 := Aside0.mk hbox; have GW3 := Aside0.mk ((by rw [hg]; exact (below_size (hO HB)) : w.heap.size ≤ gb3)); have GE3 := GW3; replace HB := mSx HB hb; have NB1_3 := mNe BK1 hg; have NB3_1 := mSy NB1_3; replace BK1 := mBb BK1 hb; have NB2_3 := mNe BK2 hg; have NB3_2 := mSy NB2_3; replace BK2 := mBb BK2 hb; clear hb hbox hg) | ((with_reducible refine gate_dst (N := 7) rfl ?_); refine box_event rfl (N := 7) rfl (cs := #[.nilFunc]) (t := 76) (by first | (go_simp; done) | (go_simp; rfl)) ?_; intro gb4 hg w7 hbox hb; have BK4 := Aside0.mk hbox; have GW4 := Aside0.mk ((by rw [hg]; exact (below_size (hO HB)) : w.heap.size ≤ gb4)); have GE4 := GW4; replace HB := mSx HB hb; have NB1_4 := mNe BK1 hg; have NB4_1 := mSy NB1_4; replace BK1 := mBb BK1 hb; have NB2_4 := mNe BK2 hg; have NB4_2 := mSy NB2_4; replace BK2 := mBb BK2 hb; have NB3_4 := mNe BK3 hg; have NB4_3 := mSy NB3_4; replace BK3 := mBb BK3 hb; clear hb hbox hg; have hnb8 := NB4_1.out; have hnc8 := NB1_4.out; have hnb9 := NB4_2.out; have hnc9 := NB2_4.out; have hnb10 := NB4_3.out; have hnc10 := NB3_4.out; have hcz11 := blk_cell BK4.out; have hfz11 := blk_frozen BK4.out) | ((with_reducible refine gate_store (t := 76) (p := 7) rfl ?_); refine store_event (t := 76) (p := 7) (v := ?vo_w12) (w1 := (w7.setCell ⟨gb4, 0, none⟩ (.func (.func 56) #[] #[.pointer (some ⟨gb2, 0, none⟩), .pointer (some ⟨gb1, 0, none⟩), .pointer (some ⟨gb3, 0, none⟩), .pointer (some ⟨gb4, 0, none⟩)]))) ?hg ?ho ?hn ?hr ?_; (case ho => rfl); (case hg => rfl); (case hn => rfl); (case hr => first | (go_simp; done) | (go_simp; rfl)); intro w12 hw; have n0_ : Aside0 (w12.heap[gb1]? = some (.cells #[.slice A0_0 l0_0.length c0_0, .slice A0_1 l0_1.length c0_1, .slice A0_2 l0_2.length c0_2, .int .i64 a0_3] 30 (0, 0))) := ⟨(by rw [hw]; exact (by refine blk_far ?_ NB1_4.out _; exact BK1.out))⟩; have n1_ : Aside0 (w12.heap[gb2]? = some (.cells #[.slice A1 l1.length c1] 51 (0, 0))) := ⟨(by rw [hw]; exact (by refine blk_far ?_ NB2_4.out _; exact BK2.out))⟩; have n2_ : Aside0 (w12.heap[gb3]? = some (.cells #[.slice none 0 0] 51 (0, 0))) := ⟨(by rw [hw]; exact (by refine blk_far ?_ NB3_4.out _; exact BK3.out))⟩; have n3_ : Aside0 (w12.heap[gb4]? = some (.cells #[.func (.func 56) #[] #[.pointer (some ⟨gb2, 0, none⟩), .pointer (some ⟨gb1, 0, none⟩), .pointer (some ⟨gb3, 0, none⟩), .pointer (some ⟨gb4, 0, none⟩)]] 76 (0, 0))) := ⟨(by rw [hw]; exact (by refine blk_put (cs := #[.nilFunc]) ?_ 0 _ rfl; exact BK4.out))⟩; have n4_ : Aside0 (Below w.heap.size w w12) := ⟨(by rw [hw]; exact (hO HB))⟩; clear hw; clear BK1; clear BK2; clear BK3; clear BK4; clear HB; have BK1 := n0_; have BK2 := n1_; have BK3 := n2_; have BK4 := n3_; have HB := n4_; clear n0_ n1_ n2_ n3_ n4_; have hcz13 := blk_cell BK4.out; have hfz13 := blk_frozen BK4.out; have hnb14 := NB2_1.out; have hnc14 := NB1_2.out; have hnb15 := NB2_3.out; have hnc15 := NB3_2.out; have hcz16 := blk_cell BK2.out; have hfz16 := blk_frozen BK2.out; have hnb17 := NB1_3.out; have hnc17 := NB3_1.out; have hcz18 := blk_cell BK1.out; have hfz18 := blk_frozen BK1.out; have hcz19 := blk_cell BK3.out; have hfz19 := blk_frozen BK3.out) | (go_at_call 56; (refine (rehearse_Task_rooms_fn1.calls k 0 A1 c1 l1 A0_0 c0_0 l0_0 A0_1 c0_1 l0_1 A0_2 c0_2 l0_2 a0_3 (fun k_ => some k_ = (.slice none 0 0 : Value).ownBlock ∨ k_ = gb3) (.slice none 0 0) ([] : List Int) t238 t241 w _ ?side1 ?side2 ?side3 ?side4 ?side5 ?side6 ?side7 ?side8 ?side9 ?side10 gb2 ?sb0 gb1 ?sb1 gb3 ?sb2 gb4 ?sb3 NB2_3.out GW3.out (.inr rfl) ?sgf A3.out).mono ?_); (case sb0 => exact BK2.out); (case sb1 => exact BK1.out); (case sb2 => exact BK3.out); (case sb3 => exact BK4.out); (case sgf => exact fun h_ => h_.elim (fun e_ => by simp [Value.ownBlock] at e_) NB4_3.out); (case side1 => repeat (first | (with_reducible first | exact HB.out | apply below_alloc | apply pw_below_drewN | apply below_drew1 | refine below_set ?_ GE1.out | refine below_set ?_ GE2.out | refine below_set ?_ GE3.out | refine below_set ?_ GE4.out) | exact HB.out)); (case side2 => exact Kd.C_kept_came (Kd.heap_int .i64) HR1.out (hO HB) (fun k_ hs_ => hs_.elim (fun e_ => by simp [Value.ownBlock] at e_) (fun e_ => by rw [e_]; exact GW3.out))); (case side3 => exact HC1.out); (case side4 => exact Kd.C_kept_came k53_heap HR0_0.out (hO HB) (fun k_ hs_ => hs_.elim (fun e_ => by simp [Value.ownBlock] at e_) (fun e_ => by rw [e_]; exact GW3.out))); (case side5 => exact HC0_0.out); (case side6 => exact Kd.C_kept_came k55_heap HR0_1.out (hO HB) (fun k_ hs_ => hs_.elim (fun e_ => by simp [Value.ownBlock] at e_) (fun e_ => by rw [e_]; exact GW3.out))); (case side7 => exact HC0_1.out); (case side8 => exact Kd.C_kept_came k59_heap HR0_2.out (hO HB) (fun k_ hs_ => hs_.elim (fun e_ => by simp [Value.ownBlock] at e_) (fun e_ => by rw [e_]; exact GW3.out))); (case side9 => exact HC0_2.out); (case side10 => exact Kd.R_nil _ _ _ _ _); rintro e wq_ hx_; obtain ⟨v239, w20, ⟨rfl, rfl⟩, ho0, hb, hkp⟩ := out_view hx_ BK3.out GW3.out (by decide); replace BK1 := Aside0.mk (blk_kept BK1.out hkp (fun hs_ => (fun e_ => by simp [Value.ownBlock] at e_) hs_)); replace BK2 := Aside0.mk (blk_kept BK2.out hkp (fun hs_ => (fun e_ => by simp [Value.ownBlock] at e_) hs_)); replace BK3 := Aside0.mk (blk_kept BK3.out hkp (fun hs_ => (fun e_ => by simp [Value.ownBlock] at e_) hs_)); replace BK4 := Aside0.mk (blk_kept BK4.out hkp (fun hs_ => (fun e_ => by simp [Value.ownBlock] at e_) hs_)); have HO240 := Aside0.mk (Kd.R_mono (ok' := fun k_ => True) ho0 (fun k_ hk_ => trivial)); replace HB := Aside0.mk hb; (try clear hb); (try clear hkp); (try clear ho0); obtain ⟨Ao21, co21, eo21⟩ := Kd.R_slice HO240.out; subst eo21; have hcz22 := blk_cell BK3.out; have hfz22 := blk_frozen BK3.out))
 go_ret2
 exact ⟨_, rfl, by exact Kd.R_mono (Kd.R_far (p := ⟨gb3, 0, none⟩) (Kd.R_types HO240.out BK3.out (by decide)) (fun _ hk => hk.2) (.slice Ao21 t238.length co21)) (fun _ hk => trivial), hO HB⟩
mutual
def rehearse_Task_crowded.l0 : Nat → Int → List (S53) → Int → Int → List (S53) → List (S55) → List (S59) → Int → Option (Bool)
 | 0, _, _, _, _, _, _, _, _ => none
 | k + 1, x1, x13, x14, x15, x211000, x211001, x211002, x211003 => if x15 < x14 then (if 0 ≤ x15 then (if x15 < (x13.length : Int) then (rehearse_Task_crowded.l1 k x1 x15 0 0 x13 x14 x15 (x211001.length : Int) 0 x211000 x211001 x211002 x211003 ((rd_T53 x13 x15).f0) ((rd_T53 x13 x15).f1) ((rd_T53 x13 x15).f2)) else (none)) else (none)) else (some false)
def rehearse_Task_crowded.l1 : Nat → Int → Int → Int → Int → List (S53) → Int → Int → Int → Int → List (S53) → List (S55) → List (S59) → Int → ByteArray → Int → List Int → Option (Bool)
 | 0, _, _, _, _, _, _, _, _, _, _, _, _, _, _, _, _ => none
 | k + 1, x1, x5, x7, x8, x13, x14, x15, x22, x23, x211000, x211001, x211002, x211003, x213000, x213001, x213002 => if x23 < x22 then ((rehearse_Task_fits.f x211000 x211001 x211002 x211003 x5 x23).bind fun t213 => (if t213 = true then (rehearse_Task_crowded.l1 k x1 x5 (wrap64 (x7 + x1)) x8 x13 x14 x15 x22 (wrap64 (x23 + 1)) x211000 x211001 x211002 x211003 x213000 x213001 x213002) else (rehearse_Task_crowded.l1 k x1 x5 x7 x8 x13 x14 x15 x22 (wrap64 (x23 + 1)) x211000 x211001 x211002 x211003 x213000 x213001 x213002))) else (rehearse_Task_crowded.l2 k x1 x7 x8 x13 x14 x15 x211000 (x211000.length : Int) 0 x211000 x211001 x211002 x211003 x213000 x213001 x213002)
def rehearse_Task_crowded.l2 : Nat → Int → Int → Int → List (S53) → Int → Int → List (S53) → Int → Int → List (S53) → List (S55) → List (S59) → Int → ByteArray → Int → List Int → Option (Bool)
 | 0, _, _, _, _, _, _, _, _, _, _, _, _, _, _, _, _ => none
 | k + 1, x1, x7, x8, x13, x14, x15, x35, x36, x37, x211000, x211001, x211002, x211003, x213000, x213001, x213002 => if x37 < x36 then (if 0 ≤ x37 then (if x37 < (x35.length : Int) then (if (((rd_T53 x35 x37).f2).length : Int) ≥ (x213002.length : Int) then (rehearse_Task_crowded.l2 k x1 x7 (wrap64 (x8 + ((rd_T53 x35 x37).f1))) x13 x14 x15 x35 x36 (wrap64 (x37 + 1)) x211000 x211001 x211002 x211003 x213000 x213001 x213002) else (rehearse_Task_crowded.l2 k x1 x7 x8 x13 x14 x15 x35 x36 (wrap64 (x37 + 1)) x211000 x211001 x211002 x211003 x213000 x213001 x213002)) else (none)) else (none)) else (if x8 > x7 then (some true) else (rehearse_Task_crowded.l0 k x1 x13 x14 (wrap64 (x15 + 1)) x211000 x211001 x211002 x211003))
end
def rehearse_Task_crowded.f (k : Nat) (l0_0 : List (S53)) (l0_1 : List (S55)) (l0_2 : List (S59)) (a0_3 : Int) (a1 : Int) : Option (Bool) := rehearse_Task_crowded.l0 k a1 l0_0 (l0_0.length : Int) 0 l0_0 l0_1 l0_2 a0_3
set_option maxHeartbeats 8000000 in
set_option maxRecDepth 100000 in
theorem rehearse_Task_crowded.calls (k : Nat) (A0_0 : Option Addr) (c0_0 : Nat) (l0_0 : List (S53)) (A0_1 : Option Addr) (c0_1 : Nat) (l0_1 : List (S55)) (A0_2 : Option Addr) (c0_2 : Nat) (l0_2 : List (S59)) (a0_3 : Int) (a1 : Int) (r : Bool) (w : World) (hr0_0 : Kd.C k53 w A0_0 l0_0.length l0_0) (hc0_0 : l0_0.length ≤ c0_0) (hr0_1 : Kd.C k55 w A0_1 l0_1.length l0_1) (hc0_1 : l0_1.length ≤ c0_1) (hr0_2 : Kd.C k59 w A0_2 l0_2.length l0_2) (hc0_2 : l0_2.length ≤ c0_2) (h : rehearse_Task_crowded.f k l0_0 l0_1 l0_2 a0_3 a1 = some r) :
  Calls Try.prog 40 #[.agg #[.slice A0_0 l0_0.length c0_0, .slice A0_1 l0_1.length c0_1, .slice A0_2 l0_2.length c0_2, .int .i64 a0_3], .int .i64 a1] w fun e w' => e = .returned (.bool r) ∧ Below w.heap.size w w' := by
 have hu30 := Try.underlying30
 have hu53 := Try.underlying53
 have HR0_0 := Aside0.mk hr0_0
 have HC0_0 := Aside0.mk hc0_0
 clear hr0_0 hc0_0
 have HR0_1 := Aside0.mk hr0_1
 have HC0_1 := Aside0.mk hc0_1
 clear hr0_1 hc0_1
 have HR0_2 := Aside0.mk hr0_2
 have HC0_2 := Aside0.mk hc0_2
 clear hr0_2 hc0_2
 have HB := Aside0.mk (Below.refl w.heap.size w)
 have H := h
 unfold rehearse_Task_crowded.f at H
 clear h
 have H' := Aside0.mk H
 clear H
 go_enter Try.func40, Try.ntmps40
 go_wp2_with (first | ((with_reducible refine gate_dst (N := 2) rfl ?_); refine box_event rfl (N := 2) rfl (cs := #[.slice A0_0 l0_0.length c0_0, .slice A0_1 l0_1.length c0_1, .slice A0_2 l0_2.length c0_2, .int .i64 a0_3]) (t := 30) (by first | (go_simp; done) | (go_simp; rfl)) ?_; intro gb1 hg w3 hbox hb; have BK1 := Aside0.mk hbox; have GW1 := mGw HB hg; have GE1 := GW1; replace HB := mSt HB hb; clear hb hbox hg; have hcz4 := blk_cell BK1.out; have hfz4 := blk_frozen BK1.out))
 go_loopg [15] k (fun kq v15 w' => ∃ (x15_1 : Int), v15 = .int .i64 x15_1 ∧ Aside0 (rehearse_Task_crowded.l0 kq a1 l0_0 (l0_0.length : Int) x15_1 l0_0 l0_1 l0_2 a0_3 = some r) ∧ Aside0 (kq ≤ k) ∧ Aside0 (w'.heap[gb1]? = some (.cells #[(.slice A0_0 l0_0.length c0_0), (.slice A0_1 l0_1.length c0_1), (.slice A0_2 l0_2.length c0_2), .int .i64 a0_3] 30 (0, 0))) ∧ Aside0 (Below w.heap.size w w'))
 case atStart => exact ⟨(0), rfl, H', ⟨Nat.le_refl _⟩, ⟨BK1.out⟩, ⟨HB.out⟩⟩
 case round =>
  clear H'
  skip
  obtain ⟨x15_1, rfl, HA, HK1, BK1, HB⟩ := hrel
  cases gk with
  | zero => exact absurd HA.out (by simp [rehearse_Task_crowded.l0])
  | succ k1 =>
   have H := HA.out
   clear HA
   simp only [rehearse_Task_crowded.l0] at H
   by_cases c5 : x15_1 < (l0_0.length : Int)
   rotate_left
   ·
    rw [if_neg c5] at H
    have c5b0 := decide_eq_false c5
    clear c5
    obtain rfl := Option.some.inj H
    go_wp2
    go_ret
    exact ⟨rfl, HB.out⟩
   rw [if_pos c5] at H
   have c5b0 := decide_eq_true c5
   clear c5
   obtain ⟨c6, H⟩ : (0 ≤ x15_1) ∧ _ := mIf H
   have c6b0 := decide_eq_true c6
   clear c6
   obtain ⟨c7, H⟩ : (x15_1 < (l0_0.length : Int)) ∧ _ := mIf H
   have c7b0 := decide_eq_true c7
   clear c7
   have H' := Aside0.mk H
   clear H
   have p211 : 0 ≤ (x15_1 : Int) := of_decide_eq_true (by assumption)
   have q211 : x15_1 < (l0_0.length : Int) := of_decide_eq_true (by assumption)
   obtain ⟨ad211, A211_2, c211_2, e211, hx211_0, hx211_1, hx211_2, hl211_2, hi211_2⟩ := at_T53 HR0_0.out x15_1 p211 q211
   cases e211
   replace hx211_0 := mHx HB hx211_0
   replace hx211_1 := mHx HB hx211_1
   replace hx211_2 := mHx HB hx211_2
   have HR211_2 := Aside0.mk hi211_2
   have HC211_2 := Aside0.mk hl211_2
   clear hi211_2 hl211_2
   replace p211 := eq_true p211
   replace q211 := eq_true q211
   go_wp2_with (first | ((with_reducible refine gate_dst (N := 6) rfl ?_); refine box_event rfl (N := 6) rfl (cs := #[.string (⟨#[]⟩ : ByteArray), .int .i64 0, .slice none 0 0]) (t := 53) (by first | (go_simp; done) | (go_simp; rfl)) ?_; intro gb2 hg w8 hbox hb; have BK2 := Aside0.mk hbox; have GW2 := mGw HB hg; have GE2 := GW2; replace HB := mSt HB hb; have NB1_2 := mNe BK1 hg; have NB2_1 := mSy NB1_2; replace BK1 := mBb BK1 hb; clear hb hbox hg; have hnb9 := NB2_1.out; have hnc9 := NB1_2.out; have hcz10 := blk_cell BK2.out; have hfz10 := blk_frozen BK2.out; have hcz11 := blk_cell BK1.out; have hfz11 := blk_frozen BK1.out))
   go_loopg [7, 23] k1 (fun kq v7 v23 w' => ∃ (x7_2 : Int) (x23_2 : Int), v7 = .int .i64 x7_2 ∧ v23 = .int .i64 x23_2 ∧ Aside0 (rehearse_Task_crowded.l1 kq a1 x15_1 x7_2 0 l0_0 (l0_0.length : Int) x15_1 (l0_1.length : Int) x23_2 l0_0 l0_1 l0_2 a0_3 ((rd_T53 l0_0 x15_1).f0) ((rd_T53 l0_0 x15_1).f1) ((rd_T53 l0_0 x15_1).f2) = some r) ∧ Aside0 (kq ≤ k1) ∧ Aside0 (w'.heap[gb1]? = some (.cells #[(.slice (some ad211) l0_0.length c0_0), (.slice A0_1 l0_1.length c0_1), (.slice A0_2 l0_2.length c0_2), .int .i64 a0_3] 30 (0, 0))) ∧ Aside0 (w'.heap[gb2]? = some (.cells #[.string ((rd_T53 l0_0 x15_1).f0), .int .i64 ((rd_T53 l0_0 x15_1).f1), (.slice A211_2 ((rd_T53 l0_0 x15_1).f2).length c211_2)] 53 (0, 0))) ∧ Aside0 (Below w.heap.size w w'))
   case atStart => exact ⟨(0), (0), rfl, rfl, H', ⟨Nat.le_refl _⟩, ⟨by refine blk_far ?_ NB1_2.out _; refine blk_far ?_ NB1_2.out _; refine blk_far ?_ NB1_2.out _; exact BK1.out⟩, ⟨by refine blk_put (cs := #[.string ((rd_T53 l0_0 x15_1).f0), .int .i64 ((rd_T53 l0_0 x15_1).f1), .slice none 0 0]) ?_ 2 _ rfl; refine blk_put (cs := #[.string ((rd_T53 l0_0 x15_1).f0), .int .i64 0, .slice none 0 0]) ?_ 1 _ rfl; refine blk_put (cs := #[.string (⟨#[]⟩ : ByteArray), .int .i64 0, .slice none 0 0]) ?_ 0 _ rfl; exact BK2.out⟩, ⟨hO HB⟩⟩
   case round =>
    clear H'
    clear c5b0 c6b0 c7b0 hx211_0 hx211_1 hx211_2 p211 q211
    obtain ⟨x7_2, x23_2, rfl, rfl, HA, HK2, BK1, BK2, HB⟩ := hrel
    cases gk with
    | zero => exact absurd HA.out (by simp [rehearse_Task_crowded.l1])
    | succ k2 =>
     have H := HA.out
     clear HA
     simp only [rehearse_Task_crowded.l1] at H
     by_cases c12 : x23_2 < (l0_1.length : Int)
     ·
      rw [if_pos c12] at H
      have c12b0 := decide_eq_true c12
      clear c12
      replace H := Option.bind_eq_some_iff.mp H
      obtain ⟨t213, A130, H⟩ := H
      try dsimp only at H
      have A13 := Aside0.mk A130
      clear A130
      by_cases c14 : t213 = true
      ·
       subst c14
       rw [if_pos rfl] at H
       have H' := Aside0.mk H
       clear H
       have hnb15 := NB1_2.out
       have hnc15 := NB2_1.out
       have hcz16 := blk_cell BK1.out; have hfz16 := blk_frozen BK1.out
       go_wp2_with (first | ((with_reducible refine gate_callee (f := 48) rfl ?_); refine goesL_ (some 29) rfl rfl Try.func48 (by kernel_rfl) rfl #[.agg #[.slice (some ad211) l0_0.length c0_0, .slice A0_1 l0_1.length c0_1, .slice A0_2 l0_2.length c0_2, .int .i64 a0_3], .int .i64 x15_1, .int .i64 x23_2] rfl (mA3 rfl rfl rfl) ?_; (with_reducible refine (rehearse_Task_fits.calls _ _ l0_0 _ _ l0_1 _ _ l0_2 a0_3 x15_1 x23_2 true _ (Kd.C_below HR0_0.out HB.out) HC0_0.out (Kd.C_below HR0_1.out HB.out) HC0_1.out (Kd.C_below HR0_2.out HB.out) HC0_2.out A13.out).mono ?_); rintro e w17 ⟨rfl, hb⟩; refine ⟨_, rfl, ?_⟩; replace BK1 := mBb BK1 hb; replace BK2 := mBb BK2 hb; replace HB := mSt HB hb; (try clear hb)))
       go_roundg k2
       case measure => have := HK1.out; have := HK2.out; omega
       case rel => exact ⟨(wrap64 (x7_2 + a1)), (wrap64 (x23_2 + 1)), rfl, rfl, H', ⟨by have := HK1.out; have := HK2.out; omega⟩, ⟨BK1.out⟩, ⟨BK2.out⟩, ⟨HB.out⟩⟩
      replace c14 := Bool.eq_false_iff.mpr c14
      subst c14
      rw [if_neg (show ¬ (false = true) by decide)] at H
      have H' := Aside0.mk H
      clear H
      have hnb18 := NB1_2.out
      have hnc18 := NB2_1.out
      have hcz19 := blk_cell BK1.out; have hfz19 := blk_frozen BK1.out
      go_wp2_with (first | ((with_reducible refine gate_callee (f := 48) rfl ?_); refine goesL_ (some 29) rfl rfl Try.func48 (by kernel_rfl) rfl #[.agg #[.slice (some ad211) l0_0.length c0_0, .slice A0_1 l0_1.length c0_1, .slice A0_2 l0_2.length c0_2, .int .i64 a0_3], .int .i64 x15_1, .int .i64 x23_2] rfl (mA3 rfl rfl rfl) ?_; (with_reducible refine (rehearse_Task_fits.calls _ _ l0_0 _ _ l0_1 _ _ l0_2 a0_3 x15_1 x23_2 false _ (Kd.C_below HR0_0.out HB.out) HC0_0.out (Kd.C_below HR0_1.out HB.out) HC0_1.out (Kd.C_below HR0_2.out HB.out) HC0_2.out A13.out).mono ?_); rintro e w20 ⟨rfl, hb⟩; refine ⟨_, rfl, ?_⟩; replace BK1 := mBb BK1 hb; replace BK2 := mBb BK2 hb; replace HB := mSt HB hb; (try clear hb)))
      go_roundg k2
      case measure => have := HK1.out; have := HK2.out; omega
      case rel => exact ⟨(x7_2), (wrap64 (x23_2 + 1)), rfl, rfl, H', ⟨by have := HK1.out; have := HK2.out; omega⟩, ⟨BK1.out⟩, ⟨BK2.out⟩, ⟨HB.out⟩⟩
     rw [if_neg c12] at H
     have c12b0 := decide_eq_false c12
     clear c12
     have H' := Aside0.mk H
     clear H
     have hnb21 := NB1_2.out
     have hnc21 := NB2_1.out
     have hcz22 := blk_cell BK1.out; have hfz22 := blk_frozen BK1.out
     go_wp2
     go_loopg [8, 37] k2 (fun kq v8 v37 w' => ∃ (x8_3 : Int) (x37_3 : Int), v8 = .int .i64 x8_3 ∧ v37 = .int .i64 x37_3 ∧ Aside0 (rehearse_Task_crowded.l2 kq a1 x7_2 x8_3 l0_0 (l0_0.length : Int) x15_1 l0_0 (l0_0.length : Int) x37_3 l0_0 l0_1 l0_2 a0_3 ((rd_T53 l0_0 x15_1).f0) ((rd_T53 l0_0 x15_1).f1) ((rd_T53 l0_0 x15_1).f2) = some r) ∧ Aside0 (kq ≤ k2) ∧ Aside0 (w'.heap[gb1]? = some (.cells #[(.slice (some ad211) l0_0.length c0_0), (.slice A0_1 l0_1.length c0_1), (.slice A0_2 l0_2.length c0_2), .int .i64 a0_3] 30 (0, 0))) ∧ Aside0 (w'.heap[gb2]? = some (.cells #[.string ((rd_T53 l0_0 x15_1).f0), .int .i64 ((rd_T53 l0_0 x15_1).f1), (.slice A211_2 ((rd_T53 l0_0 x15_1).f2).length c211_2)] 53 (0, 0))) ∧ Aside0 (Below w.heap.size w w'))
     case atStart => exact ⟨(0), (0), rfl, rfl, H', ⟨Nat.le_refl _⟩, ⟨BK1.out⟩, ⟨BK2.out⟩, ⟨HB.out⟩⟩
     case round =>
      clear H'
      clear c12b0
      obtain ⟨x8_3, x37_3, rfl, rfl, HA, HK3, BK1, BK2, HB⟩ := hrel
      cases gk with
      | zero => exact absurd HA.out (by simp [rehearse_Task_crowded.l2])
      | succ k3 =>
       have H := HA.out
       clear HA
       simp only [rehearse_Task_crowded.l2] at H
       by_cases c23 : x37_3 < (l0_0.length : Int)
       rotate_left
       ·
        rw [if_neg c23] at H
        have c23b0 := decide_eq_false c23
        clear c23
        by_cases c39 : x8_3 > x7_2
        ·
         rw [if_pos c39] at H
         have c39b0 := decide_eq_true c39
         clear c39
         obtain rfl := Option.some.inj H
         go_wp2
         go_ret
         exact ⟨rfl, HB.out⟩
        rw [if_neg c39] at H
        have c39b0 := decide_eq_false c39
        clear c39
        have H' := Aside0.mk H
        clear H
        go_wp2
        go_roundg k3
        case measure => have := HK1.out; have := HK2.out; have := HK3.out; omega
        case rel => exact ⟨(wrap64 (x15_1 + 1)), rfl, H', ⟨by have := HK1.out; have := HK2.out; have := HK3.out; omega⟩, ⟨BK1.out⟩, ⟨HB.out⟩⟩
       rw [if_pos c23] at H
       have c23b0 := decide_eq_true c23
       clear c23
       obtain ⟨c24, H⟩ : (0 ≤ x37_3) ∧ _ := mIf H
       have c24b0 := decide_eq_true c24
       clear c24
       obtain ⟨c25, H⟩ : (x37_3 < (l0_0.length : Int)) ∧ _ := mIf H
       have c25b0 := decide_eq_true c25
       clear c25
       by_cases c26 : (((rd_T53 l0_0 x37_3).f2).length : Int) ≥ (((rd_T53 l0_0 x15_1).f2).length : Int)
       rotate_left
       ·
        rw [if_neg c26] at H
        have c26b0 := decide_eq_false c26
        have c26b1 : decide (((rd_T53 l0_0 x15_1).f2).length ≤ ((rd_T53 l0_0 x37_3).f2).length) = false := decide_eq_false (fun h => c26 (Int.ofNat_le.mpr h))
        clear c26
        have H' := Aside0.mk H
        clear H
        have p214 : 0 ≤ (x37_3 : Int) := of_decide_eq_true (by assumption)
        have q214 : x37_3 < (l0_0.length : Int) := of_decide_eq_true (by assumption)
        obtain ⟨ad214, A214_2, c214_2, e214, hx214_0, hx214_1, hx214_2, hl214_2, hi214_2⟩ := at_T53 HR0_0.out x37_3 p214 q214
        obtain rfl : ad211 = ad214 := (by injection e214)
        replace hx214_0 := mHx HB hx214_0
        replace hx214_1 := mHx HB hx214_1
        replace hx214_2 := mHx HB hx214_2
        have HR214_2 := Aside0.mk hi214_2
        have HC214_2 := Aside0.mk hl214_2
        clear hi214_2 hl214_2
        replace p214 := eq_true p214
        replace q214 := eq_true q214
        go_wp2_with (first | ((with_reducible refine gate_dst (N := 11) rfl ?_); refine box_event rfl (N := 11) rfl (cs := #[.string (⟨#[]⟩ : ByteArray), .int .i64 0, .slice none 0 0]) (t := 53) (by first | (go_simp; done) | (go_simp; rfl)) ?_; intro gb3 hg w33 hbox hb; have BK3 := Aside0.mk hbox; have GW3 := mGw HB hg; have GE3 := GW3; replace HB := mSt HB hb; have NB1_3 := mNe BK1 hg; have NB3_1 := mSy NB1_3; replace BK1 := mBb BK1 hb; have NB2_3 := mNe BK2 hg; have NB3_2 := mSy NB2_3; replace BK2 := mBb BK2 hb; clear hb hbox hg; have hnb34 := NB3_1.out; have hnc34 := NB1_3.out; have hnb35 := NB3_2.out; have hnc35 := NB2_3.out; have hcz36 := blk_cell BK3.out; have hfz36 := blk_frozen BK3.out; have hnb37 := NB2_1.out; have hnc37 := NB1_2.out; have hcz38 := blk_cell BK2.out; have hfz38 := blk_frozen BK2.out))
        go_roundg k3
        case measure => have := HK1.out; have := HK2.out; have := HK3.out; omega
        case rel => exact ⟨(x8_3), (wrap64 (x37_3 + 1)), rfl, rfl, H', ⟨by have := HK1.out; have := HK2.out; have := HK3.out; omega⟩, ⟨by refine blk_far ?_ NB1_3.out _; refine blk_far ?_ NB1_3.out _; refine blk_far ?_ NB1_3.out _; exact BK1.out⟩, ⟨by refine blk_far ?_ NB2_3.out _; refine blk_far ?_ NB2_3.out _; refine blk_far ?_ NB2_3.out _; exact BK2.out⟩, ⟨hO HB⟩⟩
       rw [if_pos c26] at H
       have c26b0 := decide_eq_true c26
       have c26b1 : decide (((rd_T53 l0_0 x15_1).f2).length ≤ ((rd_T53 l0_0 x37_3).f2).length) = true := decide_eq_true (Int.ofNat_le.mp c26)
       clear c26
       have H' := Aside0.mk H
       clear H
       have p214 : 0 ≤ (x37_3 : Int) := of_decide_eq_true (by assumption)
       have q214 : x37_3 < (l0_0.length : Int) := of_decide_eq_true (by assumption)
       obtain ⟨ad214, A214_2, c214_2, e214, hx214_0, hx214_1, hx214_2, hl214_2, hi214_2⟩ := at_T53 HR0_0.out x37_3 p214 q214
       obtain rfl : ad211 = ad214 := (by injection e214)
       replace hx214_0 := mHx HB hx214_0
       replace hx214_1 := mHx HB hx214_1
       replace hx214_2 := mHx HB hx214_2
       have HR214_2 := Aside0.mk hi214_2
       have HC214_2 := Aside0.mk hl214_2
       clear hi214_2 hl214_2
       replace p214 := eq_true p214
       replace q214 := eq_true q214
       go_wp2_with (first | ((with_reducible refine gate_dst (N := 11) rfl ?_); refine box_event rfl (N := 11) rfl (cs := #[.string (⟨#[]⟩ : ByteArray), .int .i64 0, .slice none 0 0]) (t := 53) (by first | (go_simp; done) | (go_simp; rfl)) ?_; intro gb3 hg w27 hbox hb; have BK3 := Aside0.mk hbox; have GW3 := mGw HB hg; have GE3 := GW3; replace HB := mSt HB hb; have NB1_3 := mNe BK1 hg; have NB3_1 := mSy NB1_3; replace BK1 := mBb BK1 hb; have NB2_3 := mNe BK2 hg; have NB3_2 := mSy NB2_3; replace BK2 := mBb BK2 hb; clear hb hbox hg; have hnb28 := NB3_1.out; have hnc28 := NB1_3.out; have hnb29 := NB3_2.out; have hnc29 := NB2_3.out; have hcz30 := blk_cell BK3.out; have hfz30 := blk_frozen BK3.out; have hnb31 := NB2_1.out; have hnc31 := NB1_2.out; have hcz32 := blk_cell BK2.out; have hfz32 := blk_frozen BK2.out))
       go_roundg k3
       case measure => have := HK1.out; have := HK2.out; have := HK3.out; omega
       case rel => exact ⟨(wrap64 (x8_3 + ((rd_T53 l0_0 x37_3).f1))), (wrap64 (x37_3 + 1)), rfl, rfl, H', ⟨by have := HK1.out; have := HK2.out; have := HK3.out; omega⟩, ⟨by refine blk_far ?_ NB1_3.out _; refine blk_far ?_ NB1_3.out _; refine blk_far ?_ NB1_3.out _; exact BK1.out⟩, ⟨by refine blk_far ?_ NB2_3.out _; refine blk_far ?_ NB2_3.out _; refine blk_far ?_ NB2_3.out _; exact BK2.out⟩, ⟨hO HB⟩⟩
def rehearse_Task_possible.l0 : Nat → Int → Int → List Int → Int → Int → List (S53) → List (S55) → List (S59) → Int → Option (Bool)
 | 0, _, _, _, _, _, _, _, _, _ => none
 | k + 1, x2, x3, x15, x16, x17, x243000, x243001, x243002, x243003 => if x17 < x16 then (if 0 ≤ x17 then (if x17 < (x15.length : Int) then ((rehearse_Task_meet.f x243000 x243001 x243002 x243003 x2 x3 x17 (rd x15 x17)).bind fun t245 => (if t245 = true then ((rehearse_Task_share.f k x243000 x243001 x243002 x243003 x2 x17).bind fun t246 => (if t246 = true then (some false) else (rehearse_Task_possible.l0 k x2 x3 x15 x16 (wrap64 (x17 + 1)) x243000 x243001 x243002 x243003))) else (rehearse_Task_possible.l0 k x2 x3 x15 x16 (wrap64 (x17 + 1)) x243000 x243001 x243002 x243003))) else (none)) else (none)) else (some true)
def rehearse_Task_possible.f (k : Nat) (l0_0 : List (S53)) (l0_1 : List (S55)) (l0_2 : List (S59)) (a0_3 : Int) (l1 : List Int) (a2 : Int) (a3 : Int) : Option (Bool) := (rehearse_Task_away.f k l0_0 l0_1 l0_2 a0_3 a2 a3).bind fun t243 => (if t243 = true then (some false) else (rehearse_Task_possible.l0 k a2 a3 l1 (l1.length : Int) 0 l0_0 l0_1 l0_2 a0_3))
set_option maxHeartbeats 8000000 in
set_option maxRecDepth 100000 in
theorem rehearse_Task_possible.calls (k : Nat) (A0_0 : Option Addr) (c0_0 : Nat) (l0_0 : List (S53)) (A0_1 : Option Addr) (c0_1 : Nat) (l0_1 : List (S55)) (A0_2 : Option Addr) (c0_2 : Nat) (l0_2 : List (S59)) (a0_3 : Int) (A1 : Option Addr) (c1 : Nat) (l1 : List Int) (a2 : Int) (a3 : Int) (r : Bool) (w : World) (hr0_0 : Kd.C k53 w A0_0 l0_0.length l0_0) (hc0_0 : l0_0.length ≤ c0_0) (hr0_1 : Kd.C k55 w A0_1 l0_1.length l0_1) (hc0_1 : l0_1.length ≤ c0_1) (hr0_2 : Kd.C k59 w A0_2 l0_2.length l0_2) (hc0_2 : l0_2.length ≤ c0_2) (hr1 : Kd.C (Kd.int .i64) w A1 l1.length l1) (hc1 : l1.length ≤ c1) (h : rehearse_Task_possible.f k l0_0 l0_1 l0_2 a0_3 l1 a2 a3 = some r) :
  Calls Try.prog 54 #[.agg #[.slice A0_0 l0_0.length c0_0, .slice A0_1 l0_1.length c0_1, .slice A0_2 l0_2.length c0_2, .int .i64 a0_3], .slice A1 l1.length c1, .int .i64 a2, .int .i64 a3] w fun e w' => e = .returned (.bool r) ∧ Below w.heap.size w w' := by
 have hu30 := Try.underlying30
 have HR0_0 := Aside0.mk hr0_0
 have HC0_0 := Aside0.mk hc0_0
 clear hr0_0 hc0_0
 have HR0_1 := Aside0.mk hr0_1
 have HC0_1 := Aside0.mk hc0_1
 clear hr0_1 hc0_1
 have HR0_2 := Aside0.mk hr0_2
 have HC0_2 := Aside0.mk hc0_2
 clear hr0_2 hc0_2
 have HR1 := Aside0.mk hr1
 have HC1 := Aside0.mk hc1
 clear hr1 hc1
 have HB := Aside0.mk (Below.refl w.heap.size w)
 have H := h
 unfold rehearse_Task_possible.f at H
 clear h
 replace H := Option.bind_eq_some_iff.mp H
 obtain ⟨t243, A50, H⟩ := H
 try dsimp only at H
 have A5 := Aside0.mk A50
 clear A50
 by_cases c6 : t243 = true
 ·
  subst c6
  rw [if_pos rfl] at H
  obtain rfl := Option.some.inj H
  go_enter Try.func54, Try.ntmps54
  go_wp2_with (first | ((with_reducible refine gate_dst (N := 4) rfl ?_); refine box_event rfl (N := 4) rfl (cs := #[.slice A0_0 l0_0.length c0_0, .slice A0_1 l0_1.length c0_1, .slice A0_2 l0_2.length c0_2, .int .i64 a0_3]) (t := 30) (by first | (go_simp; done) | (go_simp; rfl)) ?_; intro gb1 hg w7 hbox hb; have BK1 := Aside0.mk hbox; have GW1 := mGw HB hg; have GE1 := GW1; replace HB := mSt HB hb; clear hb hbox hg; have hcz8 := blk_cell BK1.out; have hfz8 := blk_frozen BK1.out) | ((with_reducible refine gate_callee (f := 49) rfl ?_); refine goesL_ (some 14) rfl rfl Try.func49 (by kernel_rfl) rfl #[.agg #[.slice A0_0 l0_0.length c0_0, .slice A0_1 l0_1.length c0_1, .slice A0_2 l0_2.length c0_2, .int .i64 a0_3], .int .i64 a2, .int .i64 a3] rfl (mA3 rfl rfl rfl) ?_; (with_reducible refine (rehearse_Task_away.calls k _ _ l0_0 _ _ l0_1 _ _ l0_2 a0_3 a2 a3 true _ (Kd.C_below HR0_0.out HB.out) HC0_0.out (Kd.C_below HR0_1.out HB.out) HC0_1.out (Kd.C_below HR0_2.out HB.out) HC0_2.out A5.out).mono ?_); rintro e w9 ⟨rfl, hb⟩; refine ⟨_, rfl, ?_⟩; replace BK1 := mBb BK1 hb; replace HB := mSt HB hb; (try clear hb)))
  go_ret
  exact ⟨rfl, HB.out⟩
 replace c6 := Bool.eq_false_iff.mpr c6
 subst c6
 rw [if_neg (show ¬ (false = true) by decide)] at H
 have H' := Aside0.mk H
 clear H
 go_enter Try.func54, Try.ntmps54
 go_wp2_with (first | ((with_reducible refine gate_dst (N := 4) rfl ?_); refine box_event rfl (N := 4) rfl (cs := #[.slice A0_0 l0_0.length c0_0, .slice A0_1 l0_1.length c0_1, .slice A0_2 l0_2.length c0_2, .int .i64 a0_3]) (t := 30) (by first | (go_simp; done) | (go_simp; rfl)) ?_; intro gb1 hg w10 hbox hb; have BK1 := Aside0.mk hbox; have GW1 := mGw HB hg; have GE1 := GW1; replace HB := mSt HB hb; clear hb hbox hg; have hcz11 := blk_cell BK1.out; have hfz11 := blk_frozen BK1.out) | ((with_reducible refine gate_callee (f := 49) rfl ?_); refine goesL_ (some 14) rfl rfl Try.func49 (by kernel_rfl) rfl #[.agg #[.slice A0_0 l0_0.length c0_0, .slice A0_1 l0_1.length c0_1, .slice A0_2 l0_2.length c0_2, .int .i64 a0_3], .int .i64 a2, .int .i64 a3] rfl (mA3 rfl rfl rfl) ?_; (with_reducible refine (rehearse_Task_away.calls k _ _ l0_0 _ _ l0_1 _ _ l0_2 a0_3 a2 a3 false _ (Kd.C_below HR0_0.out HB.out) HC0_0.out (Kd.C_below HR0_1.out HB.out) HC0_1.out (Kd.C_below HR0_2.out HB.out) HC0_2.out A5.out).mono ?_); rintro e w12 ⟨rfl, hb⟩; refine ⟨_, rfl, ?_⟩; replace BK1 := mBb BK1 hb; replace HB := mSt HB hb; (try clear hb)))
 go_loopg [17] k (fun kq v17 w' => ∃ (x17_1 : Int), v17 = .int .i64 x17_1 ∧ Aside0 (rehearse_Task_possible.l0 kq a2 a3 l1 (l1.length : Int) x17_1 l0_0 l0_1 l0_2 a0_3 = some r) ∧ Aside0 (kq ≤ k) ∧ Aside0 (w'.heap[gb1]? = some (.cells #[(.slice A0_0 l0_0.length c0_0), (.slice A0_1 l0_1.length c0_1), (.slice A0_2 l0_2.length c0_2), .int .i64 a0_3] 30 (0, 0))) ∧ Aside0 (Below w.heap.size w w'))
 case atStart => exact ⟨(0), rfl, H', ⟨Nat.le_refl _⟩, ⟨BK1.out⟩, ⟨HB.out⟩⟩
 case round =>
  clear H'
  try clear c1; try clear p2; try clear c4; try clear c5; try clear c6; try clear hcz11_0; try clear hcz11_1; try clear hcz11_2; try clear hcz11_3; try clear hcz8_0; try clear hcz8_1; try clear hcz8_2; try clear hcz8_3; try clear hfz11_0; try clear hfz11_1; try clear hfz11_2; try clear hfz11_3; try clear hfz8_0; try clear hfz8_1; try clear hfz8_2; try clear hfz8_3
  obtain ⟨x17_1, rfl, HA, HK1, BK1, HB⟩ := hrel
  cases gk with
  | zero => exact absurd HA.out (by simp [rehearse_Task_possible.l0])
  | succ k1 =>
   have H := HA.out
   clear HA
   simp only [rehearse_Task_possible.l0] at H
   by_cases c13 : x17_1 < (l1.length : Int)
   rotate_left
   ·
    rw [if_neg c13] at H
    have c13b0 := decide_eq_false c13
    clear c13
    obtain rfl := Option.some.inj H
    go_wp2
    go_ret
    exact ⟨rfl, HB.out⟩
   rw [if_pos c13] at H
   have c13b0 := decide_eq_true c13
   clear c13
   obtain ⟨c14, H⟩ : (0 ≤ x17_1) ∧ _ := mIf H
   have c14b0 := decide_eq_true c14
   clear c14
   obtain ⟨c15, H⟩ : (x17_1 < (l1.length : Int)) ∧ _ := mIf H
   have c15b0 := decide_eq_true c15
   clear c15
   replace H := Option.bind_eq_some_iff.mp H
   obtain ⟨t245, A160, H⟩ := H
   try dsimp only at H
   have A16 := Aside0.mk A160
   clear A160
   by_cases c17 : t245 = true
   rotate_left
   ·
    replace c17 := Bool.eq_false_iff.mpr c17
    subst c17
    rw [if_neg (show ¬ (false = true) by decide)] at H
    have H' := Aside0.mk H
    clear H
    have p244 : 0 ≤ (x17_1 : Int) := of_decide_eq_true (by assumption)
    have q244 : x17_1 < (l1.length : Int) := of_decide_eq_true (by assumption)
    obtain ⟨ad244, e244, hx244_0⟩ := Kd.at_int HR1.out x17_1 p244 q244
    cases e244
    replace hx244_0 := mHx HB hx244_0
    replace p244 := eq_true p244
    replace q244 := eq_true q244
    have hcz28 := blk_cell BK1.out; have hfz28 := blk_frozen BK1.out
    go_wp2_with (first | ((with_reducible refine gate_callee (f := 35) rfl ?_); refine goesL_ (some 27) rfl rfl Try.func35 (by kernel_rfl) rfl #[.agg #[.slice A0_0 l0_0.length c0_0, .slice A0_1 l0_1.length c0_1, .slice A0_2 l0_2.length c0_2, .int .i64 a0_3], .int .i64 a2, .int .i64 a3, .int .i64 x17_1, .int .i64 (rd l1 x17_1)] rfl (mA5 rfl rfl rfl rfl rfl) ?_; (with_reducible refine (rehearse_Task_meet.calls _ _ l0_0 _ _ l0_1 _ _ l0_2 a0_3 a2 a3 x17_1 (rd l1 x17_1) false _ (Kd.C_below HR0_0.out HB.out) HC0_0.out (Kd.C_below HR0_1.out HB.out) HC0_1.out (Kd.C_below HR0_2.out HB.out) HC0_2.out A16.out).mono ?_); rintro e w29 ⟨rfl, hb⟩; refine ⟨_, rfl, ?_⟩; replace BK1 := mBb BK1 hb; replace HB := mSt HB hb; (try clear hb)))
    go_roundg k1
    case measure => have := HK1.out; omega
    case rel => exact ⟨(wrap64 (x17_1 + 1)), rfl, H', ⟨by have := HK1.out; omega⟩, ⟨BK1.out⟩, ⟨HB.out⟩⟩
   subst c17
   rw [if_pos rfl] at H
   replace H := Option.bind_eq_some_iff.mp H
   obtain ⟨t246, A180, H⟩ := H
   try dsimp only at H
   have A18 := Aside0.mk A180
   clear A180
   by_cases c19 : t246 = true
   ·
    subst c19
    rw [if_pos rfl] at H
    obtain rfl := Option.some.inj H
    have p244 : 0 ≤ (x17_1 : Int) := of_decide_eq_true (by assumption)
    have q244 : x17_1 < (l1.length : Int) := of_decide_eq_true (by assumption)
    obtain ⟨ad244, e244, hx244_0⟩ := Kd.at_int HR1.out x17_1 p244 q244
    cases e244
    replace hx244_0 := mHx HB hx244_0
    replace p244 := eq_true p244
    replace q244 := eq_true q244
    have hcz20 := blk_cell BK1.out; have hfz20 := blk_frozen BK1.out
    go_wp2_with (first | ((with_reducible refine gate_callee (f := 35) rfl ?_); refine goesL_ (some 27) rfl rfl Try.func35 (by kernel_rfl) rfl #[.agg #[.slice A0_0 l0_0.length c0_0, .slice A0_1 l0_1.length c0_1, .slice A0_2 l0_2.length c0_2, .int .i64 a0_3], .int .i64 a2, .int .i64 a3, .int .i64 x17_1, .int .i64 (rd l1 x17_1)] rfl (mA5 rfl rfl rfl rfl rfl) ?_; (with_reducible refine (rehearse_Task_meet.calls _ _ l0_0 _ _ l0_1 _ _ l0_2 a0_3 a2 a3 x17_1 (rd l1 x17_1) true _ (Kd.C_below HR0_0.out HB.out) HC0_0.out (Kd.C_below HR0_1.out HB.out) HC0_1.out (Kd.C_below HR0_2.out HB.out) HC0_2.out A16.out).mono ?_); rintro e w21 ⟨rfl, hb⟩; refine ⟨_, rfl, ?_⟩; replace BK1 := mBb BK1 hb; replace HB := mSt HB hb; (try clear hb); have hcz22 := blk_cell BK1.out; have hfz22 := blk_frozen BK1.out) | (go_at_call 36; (with_reducible refine (rehearse_Task_share.calls k1 _ _ l0_0 _ _ l0_1 _ _ l0_2 a0_3 a2 x17_1 true _ (Kd.C_below HR0_0.out HB.out) HC0_0.out (Kd.C_below HR0_1.out HB.out) HC0_1.out (Kd.C_below HR0_2.out HB.out) HC0_2.out A18.out).mono ?_); rintro e w23 ⟨rfl, hb⟩; replace BK1 := mBb BK1 hb; replace HB := mSt HB hb; (try clear hb)))
    go_ret
    exact ⟨rfl, HB.out⟩
   replace c19 := Bool.eq_false_iff.mpr c19
   subst c19
   rw [if_neg (show ¬ (false = true) by decide)] at H
   have H' := Aside0.mk H
   clear H
   have p244 : 0 ≤ (x17_1 : Int) := of_decide_eq_true (by assumption)
   have q244 : x17_1 < (l1.length : Int) := of_decide_eq_true (by assumption)
   obtain ⟨ad244, e244, hx244_0⟩ := Kd.at_int HR1.out x17_1 p244 q244
   cases e244
   replace hx244_0 := mHx HB hx244_0
   replace p244 := eq_true p244
   replace q244 := eq_true q244
   have hcz24 := blk_cell BK1.out; have hfz24 := blk_frozen BK1.out
   go_wp2_with (first | ((with_reducible refine gate_callee (f := 35) rfl ?_); refine goesL_ (some 27) rfl rfl Try.func35 (by kernel_rfl) rfl #[.agg #[.slice A0_0 l0_0.length c0_0, .slice A0_1 l0_1.length c0_1, .slice A0_2 l0_2.length c0_2, .int .i64 a0_3], .int .i64 a2, .int .i64 a3, .int .i64 x17_1, .int .i64 (rd l1 x17_1)] rfl (mA5 rfl rfl rfl rfl rfl) ?_; (with_reducible refine (rehearse_Task_meet.calls _ _ l0_0 _ _ l0_1 _ _ l0_2 a0_3 a2 a3 x17_1 (rd l1 x17_1) true _ (Kd.C_below HR0_0.out HB.out) HC0_0.out (Kd.C_below HR0_1.out HB.out) HC0_1.out (Kd.C_below HR0_2.out HB.out) HC0_2.out A16.out).mono ?_); rintro e w25 ⟨rfl, hb⟩; refine ⟨_, rfl, ?_⟩; replace BK1 := mBb BK1 hb; replace HB := mSt HB hb; (try clear hb); have hcz26 := blk_cell BK1.out; have hfz26 := blk_frozen BK1.out) | (go_at_call 36; (with_reducible refine (rehearse_Task_share.calls k1 _ _ l0_0 _ _ l0_1 _ _ l0_2 a0_3 a2 x17_1 false _ (Kd.C_below HR0_0.out HB.out) HC0_0.out (Kd.C_below HR0_1.out HB.out) HC0_1.out (Kd.C_below HR0_2.out HB.out) HC0_2.out A18.out).mono ?_); rintro e w27 ⟨rfl, hb⟩; replace BK1 := mBb BK1 hb; replace HB := mSt HB hb; (try clear hb)))
   go_roundg k1
   case measure => have := HK1.out; omega
   case rel => exact ⟨(wrap64 (x17_1 + 1)), rfl, H', ⟨by have := HK1.out; omega⟩, ⟨BK1.out⟩, ⟨HB.out⟩⟩
def rehearse_Task_until_fn1.l0 : Nat → Int → Int → List (S53) → List (S55) → List (S59) → Int → Int → List Int → Option (Bool)
 | 0, _, _, _, _, _, _, _, _ => none
 | k + 1, x0, x6, x248000, x248001, x248002, x248003, x249000, x250000 => if 0 ≤ x0 then (if x0 < (x248000.length : Int) then (if (wrap64 (x6 + ((rd_T53 x248000 x0).f1))) ≤ x249000 then ((rehearse_Task_possible.f k x248000 x248001 x248002 x248003 x250000 x0 x6).bind fun t251 => (if t251 = true then (some true) else (rehearse_Task_until_fn1.l0 k x0 (wrap64 (x6 + 1)) x248000 x248001 x248002 x248003 x249000 x250000))) else (some false)) else (none)) else (none)
def rehearse_Task_until_fn1.f (k : Nat) (a0 : Int) (l1_0 : List (S53)) (l1_1 : List (S55)) (l1_2 : List (S59)) (a1_3 : Int) (a2 : Int) (l3 : List Int) : Option (Bool) := rehearse_Task_until_fn1.l0 k a0 0 l1_0 l1_1 l1_2 a1_3 a2 l3
set_option maxHeartbeats 8000000 in
set_option maxRecDepth 100000 in
theorem rehearse_Task_until_fn1.calls (k : Nat) (a0 : Int) (A1_0 : Option Addr) (c1_0 : Nat) (l1_0 : List (S53)) (A1_1 : Option Addr) (c1_1 : Nat) (l1_1 : List (S55)) (A1_2 : Option Addr) (c1_2 : Nat) (l1_2 : List (S59)) (a1_3 : Int) (a2 : Int) (A3 : Option Addr) (c3 : Nat) (l3 : List Int) (r : Bool) (w : World) (hr1_0 : Kd.C k53 w A1_0 l1_0.length l1_0) (hc1_0 : l1_0.length ≤ c1_0) (hr1_1 : Kd.C k55 w A1_1 l1_1.length l1_1) (hc1_1 : l1_1.length ≤ c1_1) (hr1_2 : Kd.C k59 w A1_2 l1_2.length l1_2) (hc1_2 : l1_2.length ≤ c1_2) (hr3 : Kd.C (Kd.int .i64) w A3 l3.length l3) (hc3 : l3.length ≤ c3) (gq_ : Nat) (hbk : w.heap[gq_]? = some (.cells #[.slice A1_0 l1_0.length c1_0, .slice A1_1 l1_1.length c1_1, .slice A1_2 l1_2.length c1_2, .int .i64 a1_3] 30 (0, 0))) (ge_ : Nat) (hbe : w.heap[ge_]? = some (.cells #[.int .i64 a2] 3 (0, 0))) (gs_ : Nat) (hbs : w.heap[gs_]? = some (.cells #[.slice A3 l3.length c3] 51 (0, 0))) (h : rehearse_Task_until_fn1.f k a0 l1_0 l1_1 l1_2 a1_3 a2 l3 = some r) :
  Calls Try.prog 53 #[.int .i64 a0, .pointer (some ⟨gq_, 0, none⟩), .pointer (some ⟨ge_, 0, none⟩), .pointer (some ⟨gs_, 0, none⟩)] w fun e w' => e = .returned (.bool r) ∧ Below w.heap.size w w' := by
 have hu30 := Try.underlying30
 have HR1_0 := Aside0.mk hr1_0
 have HC1_0 := Aside0.mk hc1_0
 clear hr1_0 hc1_0
 have HR1_1 := Aside0.mk hr1_1
 have HC1_1 := Aside0.mk hc1_1
 clear hr1_1 hc1_1
 have HR1_2 := Aside0.mk hr1_2
 have HC1_2 := Aside0.mk hc1_2
 clear hr1_2 hc1_2
 have HR3 := Aside0.mk hr3
 have HC3 := Aside0.mk hc3
 clear hr3 hc3
 have BK247 := Aside0.mk hbk
 have BK248 := Aside0.mk hbe
 have BK249 := Aside0.mk hbs
 have NB247_248 : Aside0 (gq_ ≠ ge_) := ⟨fun e_ => by rw [e_] at hbk; rw [hbk] at hbe; simp at hbe⟩
 have NB248_247 : Aside0 (ge_ ≠ gq_) := ⟨fun e_ => by rw [e_] at hbe; rw [hbe] at hbk; simp at hbk⟩
 have NB247_249 : Aside0 (gq_ ≠ gs_) := ⟨fun e_ => by rw [e_] at hbk; rw [hbk] at hbs; simp at hbs⟩
 have NB249_247 : Aside0 (gs_ ≠ gq_) := ⟨fun e_ => by rw [e_] at hbs; rw [hbs] at hbk; simp at hbk⟩
 have NB248_249 : Aside0 (ge_ ≠ gs_) := ⟨fun e_ => by rw [e_] at hbe; rw [hbe] at hbs; simp at hbs⟩
 have NB249_248 : Aside0 (gs_ ≠ ge_) := ⟨fun e_ => by rw [e_] at hbs; rw [hbs] at hbe; simp at hbe⟩
 have HB := Aside0.mk (Below.refl w.heap.size w)
 have H := h
 unfold rehearse_Task_until_fn1.f at H
 clear h
 have H' := Aside0.mk H
 clear H
 go_enter Try.func53, Try.ntmps53
 go_wp2
 repeat (go_quiet (skip))
 go_loopg [6] k (fun kq v6 w' => ∃ (x6_1 : Int), v6 = .int .i64 x6_1 ∧ Aside0 (rehearse_Task_until_fn1.l0 kq a0 x6_1 l1_0 l1_1 l1_2 a1_3 a2 l3 = some r) ∧ Aside0 (kq ≤ k) ∧ Aside0 (w'.heap[gq_]? = some (.cells #[(.slice A1_0 l1_0.length c1_0), (.slice A1_1 l1_1.length c1_1), (.slice A1_2 l1_2.length c1_2), .int .i64 a1_3] 30 (0, 0))) ∧ Aside0 (w'.heap[ge_]? = some (.cells #[.int .i64 a2] 3 (0, 0))) ∧ Aside0 (w'.heap[gs_]? = some (.cells #[(.slice A3 l3.length c3)] 51 (0, 0))) ∧ Aside0 (Below w.heap.size w w'))
 case atStart => exact ⟨(0), rfl, H', ⟨Nat.le_refl _⟩, ⟨BK247.out⟩, ⟨BK248.out⟩, ⟨BK249.out⟩, ⟨HB.out⟩⟩
 case round =>
  clear H'
  skip
  obtain ⟨x6_1, rfl, HA, HK1, BK247, BK248, BK249, HB⟩ := hrel
  cases gk with
  | zero => exact absurd HA.out (by simp [rehearse_Task_until_fn1.l0])
  | succ k1 =>
   have H := HA.out
   clear HA
   simp only [rehearse_Task_until_fn1.l0] at H
   obtain ⟨c8, H⟩ : (0 ≤ a0) ∧ _ := mIf H
   have c8b0 := decide_eq_true c8
   clear c8
   obtain ⟨c9, H⟩ : (a0 < (l1_0.length : Int)) ∧ _ := mIf H
   have c9b0 := decide_eq_true c9
   clear c9
   by_cases c10 : (wrap64 (x6_1 + ((rd_T53 l1_0 a0).f1))) ≤ a2
   rotate_left
   ·
    rw [if_neg c10] at H
    have c10b0 := decide_eq_false c10
    clear c10
    obtain rfl := Option.some.inj H
    have hnb27 := NB247_248.out
    have hnc27 := NB248_247.out
    have hnb28 := NB247_249.out
    have hnc28 := NB249_247.out
    have hcz29 := blk_cell BK247.out; have hfz29 := blk_frozen BK247.out
    have p250 : 0 ≤ (a0 : Int) := of_decide_eq_true (by assumption)
    have q250 : a0 < (l1_0.length : Int) := of_decide_eq_true (by assumption)
    obtain ⟨ad250, A250_2, c250_2, e250, hx250_0, hx250_1, hx250_2, hl250_2, hi250_2⟩ := at_T53 HR1_0.out a0 p250 q250
    cases e250
    replace hx250_0 := mHx HB hx250_0
    replace hx250_1 := mHx HB hx250_1
    replace hx250_2 := mHx HB hx250_2
    have HR250_2 := Aside0.mk hi250_2
    have HC250_2 := Aside0.mk hl250_2
    clear hi250_2 hl250_2
    replace p250 := eq_true p250
    replace q250 := eq_true q250
    have hnb30 := NB248_249.out
    have hnc30 := NB249_248.out
    have hcz31 := blk_cell BK248.out; have hfz31 := blk_frozen BK248.out
    go_wp2
    repeat (go_quiet (fail); try go_wp2)
    go_ret
    exact ⟨rfl, hO HB⟩
   rw [if_pos c10] at H
   have c10b0 := decide_eq_true c10
   clear c10
   replace H := Option.bind_eq_some_iff.mp H
   obtain ⟨t251, A110, H⟩ := H
   try dsimp only at H
   have A11 := Aside0.mk A110
   clear A110
   by_cases c12 : t251 = true
   ·
    subst c12
    rw [if_pos rfl] at H
    obtain rfl := Option.some.inj H
    have hnb13 := NB247_248.out
    have hnc13 := NB248_247.out
    have hnb14 := NB247_249.out
    have hnc14 := NB249_247.out
    have hcz15 := blk_cell BK247.out; have hfz15 := blk_frozen BK247.out
    have p250 : 0 ≤ (a0 : Int) := of_decide_eq_true (by assumption)
    have q250 : a0 < (l1_0.length : Int) := of_decide_eq_true (by assumption)
    obtain ⟨ad250, A250_2, c250_2, e250, hx250_0, hx250_1, hx250_2, hl250_2, hi250_2⟩ := at_T53 HR1_0.out a0 p250 q250
    cases e250
    replace hx250_0 := mHx HB hx250_0
    replace hx250_1 := mHx HB hx250_1
    replace hx250_2 := mHx HB hx250_2
    have HR250_2 := Aside0.mk hi250_2
    have HC250_2 := Aside0.mk hl250_2
    clear hi250_2 hl250_2
    replace p250 := eq_true p250
    replace q250 := eq_true q250
    have hnb16 := NB248_249.out
    have hnc16 := NB249_248.out
    have hcz17 := blk_cell BK248.out; have hfz17 := blk_frozen BK248.out; have hcz18 := blk_cell BK249.out; have hfz18 := blk_frozen BK249.out
    go_wp2_with (first | (go_at_call 54; (with_reducible refine (rehearse_Task_possible.calls k1 _ _ l1_0 _ _ l1_1 _ _ l1_2 a1_3 _ _ l3 a0 x6_1 true _ (Kd.C_below HR1_0.out HB.out) HC1_0.out (Kd.C_below HR1_1.out HB.out) HC1_1.out (Kd.C_below HR1_2.out HB.out) HC1_2.out (Kd.C_below HR3.out HB.out) HC3.out A11.out).mono ?_); rintro e w19 ⟨rfl, hb⟩; replace BK247 := mBb BK247 hb; replace BK248 := mBb BK248 hb; replace BK249 := mBb BK249 hb; replace HB := mSt HB hb; (try clear hb)))
    repeat (go_quiet (first | (go_at_call 54; (with_reducible refine (rehearse_Task_possible.calls k1 _ _ l1_0 _ _ l1_1 _ _ l1_2 a1_3 _ _ l3 a0 x6_1 true _ (cO (Kd.C_below HR1_0.out HB.out)) HC1_0.out (cO (Kd.C_below HR1_1.out HB.out)) HC1_1.out (cO (Kd.C_below HR1_2.out HB.out)) HC1_2.out (cO (Kd.C_below HR3.out HB.out)) HC3.out A11.out).mono ?_); rintro e w19 ⟨rfl, hb⟩; have n0_ := Aside0.mk (blk_below (g := gq_) (o := .cells #[.slice (some ad250) l1_0.length c1_0, .slice A1_1 l1_1.length c1_1, .slice A1_2 l1_2.length c1_2, .int .i64 a1_3] 30 (0, 0)) (bO BK247) hb); have n1_ := Aside0.mk (blk_below (g := ge_) (o := .cells #[.int .i64 a2] 3 (0, 0)) (bO BK248) hb); have n2_ := Aside0.mk (blk_below (g := gs_) (o := .cells #[.slice A3 l3.length c3] 51 (0, 0)) (bO BK249) hb); have n3_ := mSx HB hb; clear BK247; clear BK248; clear BK249; clear HB; have BK247 := n0_; have BK248 := n1_; have BK249 := n2_; have HB := n3_; clear n0_ n1_ n2_ n3_; (try clear hb); (try clear hb2); (try clear hk); (try clear hi))); try go_wp2_with (first | (go_at_call 54; (with_reducible refine (rehearse_Task_possible.calls k1 _ _ l1_0 _ _ l1_1 _ _ l1_2 a1_3 _ _ l3 a0 x6_1 true _ (cO (Kd.C_below HR1_0.out HB.out)) HC1_0.out (cO (Kd.C_below HR1_1.out HB.out)) HC1_1.out (cO (Kd.C_below HR1_2.out HB.out)) HC1_2.out (cO (Kd.C_below HR3.out HB.out)) HC3.out A11.out).mono ?_); rintro e w19 ⟨rfl, hb⟩; have n0_ := Aside0.mk (blk_below (g := gq_) (o := .cells #[.slice (some ad250) l1_0.length c1_0, .slice A1_1 l1_1.length c1_1, .slice A1_2 l1_2.length c1_2, .int .i64 a1_3] 30 (0, 0)) (bO BK247) hb); have n1_ := Aside0.mk (blk_below (g := ge_) (o := .cells #[.int .i64 a2] 3 (0, 0)) (bO BK248) hb); have n2_ := Aside0.mk (blk_below (g := gs_) (o := .cells #[.slice A3 l3.length c3] 51 (0, 0)) (bO BK249) hb); have n3_ := mSx HB hb; clear BK247; clear BK248; clear BK249; clear HB; have BK247 := n0_; have BK248 := n1_; have BK249 := n2_; have HB := n3_; clear n0_ n1_ n2_ n3_; (try clear hb); (try clear hb2); (try clear hk); (try clear hi))))
    go_ret
    exact ⟨rfl, HB.out⟩
   replace c12 := Bool.eq_false_iff.mpr c12
   subst c12
   rw [if_neg (show ¬ (false = true) by decide)] at H
   have H' := Aside0.mk H
   clear H
   have hnb20 := NB247_248.out
   have hnc20 := NB248_247.out
   have hnb21 := NB247_249.out
   have hnc21 := NB249_247.out
   have hcz22 := blk_cell BK247.out; have hfz22 := blk_frozen BK247.out
   have p250 : 0 ≤ (a0 : Int) := of_decide_eq_true (by assumption)
   have q250 : a0 < (l1_0.length : Int) := of_decide_eq_true (by assumption)
   obtain ⟨ad250, A250_2, c250_2, e250, hx250_0, hx250_1, hx250_2, hl250_2, hi250_2⟩ := at_T53 HR1_0.out a0 p250 q250
   cases e250
   replace hx250_0 := mHx HB hx250_0
   replace hx250_1 := mHx HB hx250_1
   replace hx250_2 := mHx HB hx250_2
   have HR250_2 := Aside0.mk hi250_2
   have HC250_2 := Aside0.mk hl250_2
   clear hi250_2 hl250_2
   replace p250 := eq_true p250
   replace q250 := eq_true q250
   have hnb23 := NB248_249.out
   have hnc23 := NB249_248.out
   have hcz24 := blk_cell BK248.out; have hfz24 := blk_frozen BK248.out; have hcz25 := blk_cell BK249.out; have hfz25 := blk_frozen BK249.out
   go_wp2_with (first | (go_at_call 54; (with_reducible refine (rehearse_Task_possible.calls k1 _ _ l1_0 _ _ l1_1 _ _ l1_2 a1_3 _ _ l3 a0 x6_1 false _ (Kd.C_below HR1_0.out HB.out) HC1_0.out (Kd.C_below HR1_1.out HB.out) HC1_1.out (Kd.C_below HR1_2.out HB.out) HC1_2.out (Kd.C_below HR3.out HB.out) HC3.out A11.out).mono ?_); rintro e w26 ⟨rfl, hb⟩; replace BK247 := mBb BK247 hb; replace BK248 := mBb BK248 hb; replace BK249 := mBb BK249 hb; replace HB := mSt HB hb; (try clear hb)))
   repeat (go_quiet (first | (go_at_call 54; (with_reducible refine (rehearse_Task_possible.calls k1 _ _ l1_0 _ _ l1_1 _ _ l1_2 a1_3 _ _ l3 a0 x6_1 false _ (cO (Kd.C_below HR1_0.out HB.out)) HC1_0.out (cO (Kd.C_below HR1_1.out HB.out)) HC1_1.out (cO (Kd.C_below HR1_2.out HB.out)) HC1_2.out (cO (Kd.C_below HR3.out HB.out)) HC3.out A11.out).mono ?_); rintro e w26 ⟨rfl, hb⟩; have n0_ := Aside0.mk (blk_below (g := gq_) (o := .cells #[.slice (some ad250) l1_0.length c1_0, .slice A1_1 l1_1.length c1_1, .slice A1_2 l1_2.length c1_2, .int .i64 a1_3] 30 (0, 0)) (bO BK247) hb); have n1_ := Aside0.mk (blk_below (g := ge_) (o := .cells #[.int .i64 a2] 3 (0, 0)) (bO BK248) hb); have n2_ := Aside0.mk (blk_below (g := gs_) (o := .cells #[.slice A3 l3.length c3] 51 (0, 0)) (bO BK249) hb); have n3_ := mSx HB hb; clear BK247; clear BK248; clear BK249; clear HB; have BK247 := n0_; have BK248 := n1_; have BK249 := n2_; have HB := n3_; clear n0_ n1_ n2_ n3_; (try clear hb); (try clear hb2); (try clear hk); (try clear hi))); try go_wp2_with (first | (go_at_call 54; (with_reducible refine (rehearse_Task_possible.calls k1 _ _ l1_0 _ _ l1_1 _ _ l1_2 a1_3 _ _ l3 a0 x6_1 false _ (cO (Kd.C_below HR1_0.out HB.out)) HC1_0.out (cO (Kd.C_below HR1_1.out HB.out)) HC1_1.out (cO (Kd.C_below HR1_2.out HB.out)) HC1_2.out (cO (Kd.C_below HR3.out HB.out)) HC3.out A11.out).mono ?_); rintro e w26 ⟨rfl, hb⟩; have n0_ := Aside0.mk (blk_below (g := gq_) (o := .cells #[.slice (some ad250) l1_0.length c1_0, .slice A1_1 l1_1.length c1_1, .slice A1_2 l1_2.length c1_2, .int .i64 a1_3] 30 (0, 0)) (bO BK247) hb); have n1_ := Aside0.mk (blk_below (g := ge_) (o := .cells #[.int .i64 a2] 3 (0, 0)) (bO BK248) hb); have n2_ := Aside0.mk (blk_below (g := gs_) (o := .cells #[.slice A3 l3.length c3] 51 (0, 0)) (bO BK249) hb); have n3_ := mSx HB hb; clear BK247; clear BK248; clear BK249; clear HB; have BK247 := n0_; have BK248 := n1_; have BK249 := n2_; have HB := n3_; clear n0_ n1_ n2_ n3_; (try clear hb); (try clear hb2); (try clear hk); (try clear hi))))
   go_roundg k1
   case measure => have := HK1.out; omega
   case rel => exact ⟨(wrap64 (x6_1 + 1)), rfl, H', ⟨by have := HK1.out; omega⟩, ⟨BK247.out⟩, ⟨BK248.out⟩, ⟨BK249.out⟩, ⟨HB.out⟩⟩
end Go.Proofs.Ytjppjppapdflmaa.PAll
