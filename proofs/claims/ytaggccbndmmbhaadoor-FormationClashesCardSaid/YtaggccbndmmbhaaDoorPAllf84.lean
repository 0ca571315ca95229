-- Written by wip/tools/handprint.py: walks of the functions that the law reaches; Lean checks them.
import Derived.Test.YtaggccbndmmbhaaDoorBase
namespace Go.Proofs.YtaggccbndmmbhaaDoor.PAll
open Go.RowKit Go.Proofs.YtaggccbndmmbhaaDoorW.PrintWords Go.Proofs.YtaggccbndmmbhaaDoorW.PrintLast Go.Proofs.YtaggccbndmmbhaaDoorW.PrintMore
attribute [local go_sem] max2_int min2_int max_two min_two max_three min_three max_four min_four   -- for this text's walks alone
set_option linter.unusedVariables false
set_option linter.unusedSimpArgs false

/-! ### num_times: function 84 -/
def num_times.j0 : Nat → Int → Int → Int → Int → Bool → Option (Int × Int × Int)
 | 0, _, _, _, _, _ => none
 | k + 1, x0, x1, x5, x6, x19 => if x19 = true then (some (0, 0, 0)) else (if ((decide (x0 < 0)) != (decide (x1 < 0))) = true then (some ((-1), wrap64 ((wrap64 ((wrap64 ((wrap64 (Int.tdiv x5 33554432)) * (wrap64 (Int.tdiv x6 33554432)))) + (wrap64 (Int.tdiv (wrap64 ((wrap64 ((wrap64 (Int.tdiv x5 33554432)) * (Int.tmod x6 33554432))) + (wrap64 ((Int.tmod x5 33554432) * (wrap64 (Int.tdiv x6 33554432)))))) 33554432)))) + (wrap64 (Int.tdiv (wrap64 ((wrap64 ((Int.tmod x5 33554432) * (Int.tmod x6 33554432))) + (wrap64 ((Int.tmod (wrap64 ((wrap64 ((wrap64 (Int.tdiv x5 33554432)) * (Int.tmod x6 33554432))) + (wrap64 ((Int.tmod x5 33554432) * (wrap64 (Int.tdiv x6 33554432)))))) 33554432) * 33554432)))) 1125899906842624))), Int.tmod (wrap64 ((wrap64 ((Int.tmod x5 33554432) * (Int.tmod x6 33554432))) + (wrap64 ((Int.tmod (wrap64 ((wrap64 ((wrap64 (Int.tdiv x5 33554432)) * (Int.tmod x6 33554432))) + (wrap64 ((Int.tmod x5 33554432) * (wrap64 (Int.tdiv x6 33554432)))))) 33554432) * 33554432)))) 1125899906842624)) else (some (1, wrap64 ((wrap64 ((wrap64 ((wrap64 (Int.tdiv x5 33554432)) * (wrap64 (Int.tdiv x6 33554432)))) + (wrap64 (Int.tdiv (wrap64 ((wrap64 ((wrap64 (Int.tdiv x5 33554432)) * (Int.tmod x6 33554432))) + (wrap64 ((Int.tmod x5 33554432) * (wrap64 (Int.tdiv x6 33554432)))))) 33554432)))) + (wrap64 (Int.tdiv (wrap64 ((wrap64 ((Int.tmod x5 33554432) * (Int.tmod x6 33554432))) + (wrap64 ((Int.tmod (wrap64 ((wrap64 ((wrap64 (Int.tdiv x5 33554432)) * (Int.tmod x6 33554432))) + (wrap64 ((Int.tmod x5 33554432) * (wrap64 (Int.tdiv x6 33554432)))))) 33554432) * 33554432)))) 1125899906842624))), Int.tmod (wrap64 ((wrap64 ((Int.tmod x5 33554432) * (Int.tmod x6 33554432))) + (wrap64 ((Int.tmod (wrap64 ((wrap64 ((wrap64 (Int.tdiv x5 33554432)) * (Int.tmod x6 33554432))) + (wrap64 ((Int.tmod x5 33554432) * (wrap64 (Int.tdiv x6 33554432)))))) 33554432) * 33554432)))) 1125899906842624)))
def num_times.f (k : Nat) (a0 : Int) (a1 : Int) : Option (Int × Int × Int) := (num_abs.f a0).bind fun t296 => ((num_abs.f a1).bind fun t297 => (if t296 = 0 then (num_times.j0 k a0 a1 t296 t297 true) else (num_times.j0 k a0 a1 t296 t297 (t297 == 0))))
set_option maxHeartbeats 8000000 in
set_option maxRecDepth 100000 in
theorem num_times.calls (k : Nat) (a0 : Int) (a1 : Int) (r1 : Int) (r2 : Int) (r3 : Int) (w : World) (h : num_times.f k a0 a1 = some (r1, r2, r3)) :
  Calls Tryd.prog 84 #[.int .i64 a0, .int .i64 a1] w fun e w' => e = .returned (.agg #[.int .i64 r1, .int .i64 r2, .int .i64 r3]) ∧ Below w.heap.size w w' := by
 have hu100 := Tryd.underlying100
 have HB := Aside0.mk (Below.refl w.heap.size w)
 have H := h
 unfold num_times.f at H
 clear h
 replace H := Option.bind_eq_some_iff.mp H
 obtain ⟨t296, A30, H⟩ := H
 try dsimp only at H
 have A3 := Aside0.mk A30
 clear A30
 replace H := Option.bind_eq_some_iff.mp H
 obtain ⟨t297, A40, H⟩ := H
 try dsimp only at H
 have A4 := Aside0.mk A40
 clear A40
 have HC5 := Aside0.mk H
 clear H
 go_enter Tryd.func84, Tryd.ntmps84
 go_upto_region 2 with (first | ((with_reducible refine gate_dst (N := 4) rfl ?_); refine box_event rfl (N := 4) rfl (cs := #[.int .i64 0, .int .i64 0, .int .i64 0]) (t := 100) (by first | (go_simp; done) | (go_simp; rfl)) ?_; intro gb1 hg w6 hbox hb; have BK1 := Aside0.mk hbox; have GW1 := mGw HB hg; have GE1 := GW1; replace HB := mSt HB hb; clear hb hbox hg) | ((with_reducible refine gate_callee (f := 91) rfl ?_); refine goesL_ (some 11) rfl rfl Tryd.func91 (by kernel_rfl) rfl #[.int .i64 a0] rfl (mA1 rfl) ?_; (with_reducible refine (num_abs.calls a0 t296 _ A3.out).mono ?_); rintro e w7 ⟨rfl, hb⟩; refine ⟨_, rfl, ?_⟩; replace BK1 := mBb BK1 hb; replace HB := mSt HB hb; (try clear hb)) | ((with_reducible refine gate_callee (f := 91) rfl ?_); refine goesL_ (some 13) rfl rfl Tryd.func91 (by kernel_rfl) rfl #[.int .i64 a1] rfl (mA1 rfl) ?_; (with_reducible refine (num_abs.calls a1 t297 _ A4.out).mono ?_); rintro e w8 ⟨rfl, hb⟩; refine ⟨_, rfl, ?_⟩; replace BK1 := mBb BK1 hb; replace HB := mSt HB hb; (try clear hb)))
 (try simp only [Act.put, List.setIfInBounds_toArray, List.set_cons_zero, List.set_cons_succ])
 go_cut [19] (fun v19 wc => ∃ (kq : Nat) (x19_4 : Bool), v19 = .bool x19_4 ∧ Aside0 (num_times.j0 kq a0 a1 t296 t297 x19_4 = some (r1, r2, r3)) ∧ Aside0 (kq ≤ k) ∧ Aside0 (wc.heap[gb1]? = some (.cells #[.int .i64 0, .int .i64 0, .int .i64 0] 100 (0, 0))) ∧ Aside0 (Below w.heap.size w wc))
 case first =>
  have H := HC5.out
  clear HC5
  by_cases c9 : t296 = 0
  rotate_left
  ·
   rw [if_neg c9] at H
   have c9b0 := beq_eq_false_iff_ne.mpr c9
   have c9b1 := bne_iff_ne.mpr c9
   (first | rw [c9b0] | (simp only [i64_w, i32_w]; rw [c9b0]) | skip)
   have H' := Aside0.mk H
   clear H
   go_wp2
   go_meet
   case rel => exact ⟨_, ((t297 == 0)), rfl, H', ⟨by first | omega | exact Nat.le_refl _⟩, ⟨BK1.out⟩, ⟨HB.out⟩⟩
  rw [if_pos c9] at H
  have c9b0 := beq_iff_eq.mpr c9
  have c9b1 := bne_eq_false_iff_eq.mpr c9
  clear c9
  (first | rw [c9b0] | (simp only [i64_w, i32_w]; rw [c9b0]) | skip)
  have H' := Aside0.mk H
  clear H
  go_wp2
  go_meet
  case rel => exact ⟨_, (true), rfl, H', ⟨by first | omega | exact Nat.le_refl _⟩, ⟨BK1.out⟩, ⟨HB.out⟩⟩
 case rest =>
  clear HC5; try clear p2; try clear c8; try clear c9; try clear c9b0; try clear c9b1
  obtain ⟨kq, x19_4, rfl, HA, HJ4, BK1, HB⟩ := hcut
  cases kq with
  | zero => exact absurd HA.out (by simp [num_times.j0])
  | succ kj4 =>
   have H := HA.out
   clear HA
   simp only [num_times.j0] at H
   by_cases c10 : x19_4 = true
   ·
    subst c10
    rw [if_pos rfl] at H
    simp only [Option.some.injEq, Prod.mk.injEq] at H
    obtain ⟨rfl, rfl, rfl⟩ := H
    have hcz11 := blk_cell BK1.out; have hfz11 := blk_frozen BK1.out
    go_wp2
    refine bodyPost_ret (results_cell_row rfl _ _ gb1 100 #[.int .i64 0, .int .i64 0, .int .i64 0] (0, 0) _ rfl (by refine blk_put (cs := #[.int .i64 0, .int .i64 0, .int .i64 0]) ?_ 2 _ rfl; refine blk_put (cs := #[.int .i64 0, .int .i64 0, .int .i64 0]) ?_ 1 _ rfl; refine blk_put (cs := #[.int .i64 0, .int .i64 0, .int .i64 0]) ?_ 0 _ rfl; exact BK1.out) Tryd.underlying100 rfl (by kernel_rfl)) rfl ?_
    exact ⟨rfl, hO HB⟩
   replace c10 := Bool.eq_false_iff.mpr c10
   subst c10
   rw [if_neg (show ¬ (false = true) by decide)] at H
   by_cases c12 : ((decide (a0 < 0)) != (decide (a1 < 0))) = true
   rotate_left
   ·
    rw [if_neg c12] at H
    have c12b0 : ((decide (a0 < 0)) != (decide (a1 < 0))) = false := by simpa using c12
    (try (have c12b1 : decide ((decide (a0 < 0)) = (decide (a1 < 0))) = true := by simpa using c12))
    (try (have c12b2 : ((decide (a0 < 0)) == (decide (a1 < 0))) = true := by simpa using c12))
    clear c12
    simp only [Option.some.injEq, Prod.mk.injEq] at H
    obtain ⟨rfl, rfl, rfl⟩ := H
    have hcz14 := blk_cell BK1.out; have hfz14 := blk_frozen BK1.out
    go_wp2
    refine bodyPost_ret (results_cell_row rfl _ _ gb1 100 #[.int .i64 1, .int .i64 (wrap64 ((wrap64 ((wrap64 ((wrap64 (Int.tdiv t296 33554432)) * (wrap64 (Int.tdiv t297 33554432)))) + (wrap64 (Int.tdiv (wrap64 ((wrap64 ((wrap64 (Int.tdiv t296 33554432)) * (Int.tmod t297 33554432))) + (wrap64 ((Int.tmod t296 33554432) * (wrap64 (Int.tdiv t297 33554432)))))) 33554432)))) + (wrap64 (Int.tdiv (wrap64 ((wrap64 ((Int.tmod t296 33554432) * (Int.tmod t297 33554432))) + (wrap64 ((Int.tmod (wrap64 ((wrap64 ((wrap64 (Int.tdiv t296 33554432)) * (Int.tmod t297 33554432))) + (wrap64 ((Int.tmod t296 33554432) * (wrap64 (Int.tdiv t297 33554432)))))) 33554432) * 33554432)))) 1125899906842624)))), .int .i64 (Int.tmod (wrap64 ((wrap64 ((Int.tmod t296 33554432) * (Int.tmod t297 33554432))) + (wrap64 ((Int.tmod (wrap64 ((wrap64 ((wrap64 (Int.tdiv t296 33554432)) * (Int.tmod t297 33554432))) + (wrap64 ((Int.tmod t296 33554432) * (wrap64 (Int.tdiv t297 33554432)))))) 33554432) * 33554432)))) 1125899906842624)] (0, 0) _ rfl (by refine blk_put (cs := #[.int .i64 1, .int .i64 (wrap64 ((wrap64 ((wrap64 ((wrap64 (Int.tdiv t296 33554432)) * (wrap64 (Int.tdiv t297 33554432)))) + (wrap64 (Int.tdiv (wrap64 ((wrap64 ((wrap64 (Int.tdiv t296 33554432)) * (Int.tmod t297 33554432))) + (wrap64 ((Int.tmod t296 33554432) * (wrap64 (Int.tdiv t297 33554432)))))) 33554432)))) + (wrap64 (Int.tdiv (wrap64 ((wrap64 ((Int.tmod t296 33554432) * (Int.tmod t297 33554432))) + (wrap64 ((Int.tmod (wrap64 ((wrap64 ((wrap64 (Int.tdiv t296 33554432)) * (Int.tmod t297 33554432))) + (wrap64 ((Int.tmod t296 33554432) * (wrap64 (Int.tdiv t297 33554432)))))) 33554432) * 33554432)))) 1125899906842624)))), .int .i64 0]) ?_ 2 _ rfl; refine blk_put (cs := #[.int .i64 1, .int .i64 0, .int .i64 0]) ?_ 1 _ rfl; refine blk_put (cs := #[.int .i64 0, .int .i64 0, .int .i64 0]) ?_ 0 _ rfl; exact BK1.out) Tryd.underlying100 rfl (by kernel_rfl)) rfl ?_
    exact ⟨rfl, hO HB⟩
   rw [if_pos c12] at H
   have c12b0 : ((decide (a0 < 0)) != (decide (a1 < 0))) = true := c12
   (try (have c12b1 : decide ((decide (a0 < 0)) = (decide (a1 < 0))) = false := by simpa using c12))
   (try (have c12b2 : ((decide (a0 < 0)) == (decide (a1 < 0))) = false := by simpa using c12))
   (try (have c12b3 : ¬ ((decide (a0 < 0)) = (decide (a1 < 0))) := by simpa using c12))
   clear c12
   simp only [Option.some.injEq, Prod.mk.injEq] at H
   obtain ⟨rfl, rfl, rfl⟩ := H
   have hcz13 := blk_cell BK1.out; have hfz13 := blk_frozen BK1.out
   go_wp2
   refine bodyPost_ret (results_cell_row rfl _ _ gb1 100 #[.int .i64 (-1), .int .i64 (wrap64 ((wrap64 ((wrap64 ((wrap64 (Int.tdiv t296 33554432)) * (wrap64 (Int.tdiv t297 33554432)))) + (wrap64 (Int.tdiv (wrap64 ((wrap64 ((wrap64 (Int.tdiv t296 33554432)) * (Int.tmod t297 33554432))) + (wrap64 ((Int.tmod t296 33554432) * (wrap64 (Int.tdiv t297 33554432)))))) 33554432)))) + (wrap64 (Int.tdiv (wrap64 ((wrap64 ((Int.tmod t296 33554432) * (Int.tmod t297 33554432))) + (wrap64 ((Int.tmod (wrap64 ((wrap64 ((wrap64 (Int.tdiv t296 33554432)) * (Int.tmod t297 33554432))) + (wrap64 ((Int.tmod t296 33554432) * (wrap64 (Int.tdiv t297 33554432)))))) 33554432) * 33554432)))) 1125899906842624)))), .int .i64 (Int.tmod (wrap64 ((wrap64 ((Int.tmod t296 33554432) * (Int.tmod t297 33554432))) + (wrap64 ((Int.tmod (wrap64 ((wrap64 ((wrap64 (Int.tdiv t296 33554432)) * (Int.tmod t297 33554432))) + (wrap64 ((Int.tmod t296 33554432) * (wrap64 (Int.tdiv t297 33554432)))))) 33554432) * 33554432)))) 1125899906842624)] (0, 0) _ rfl (by refine blk_put (cs := #[.int .i64 (-1), .int .i64 (wrap64 ((wrap64 ((wrap64 ((wrap64 (Int.tdiv t296 33554432)) * (wrap64 (Int.tdiv t297 33554432)))) + (wrap64 (Int.tdiv (wrap64 ((wrap64 ((wrap64 (Int.tdiv t296 33554432)) * (Int.tmod t297 33554432))) + (wrap64 ((Int.tmod t296 33554432) * (wrap64 (Int.tdiv t297 33554432)))))) 33554432)))) + (wrap64 (Int.tdiv (wrap64 ((wrap64 ((Int.tmod t296 33554432) * (Int.tmod t297 33554432))) + (wrap64 ((Int.tmod (wrap64 ((wrap64 ((wrap64 (Int.tdiv t296 33554432)) * (Int.tmod t297 33554432))) + (wrap64 ((Int.tmod t296 33554432) * (wrap64 (Int.tdiv t297 33554432)))))) 33554432) * 33554432)))) 1125899906842624)))), .int .i64 0]) ?_ 2 _ rfl; refine blk_put (cs := #[.int .i64 (-1), .int .i64 0, .int .i64 0]) ?_ 1 _ rfl; refine blk_put (cs := #[.int .i64 0, .int .i64 0, .int .i64 0]) ?_ 0 _ rfl; exact BK1.out) Tryd.underlying100 rfl (by kernel_rfl)) rfl ?_
   exact ⟨rfl, hO HB⟩
end Go.Proofs.YtaggccbndmmbhaaDoor.PAll
