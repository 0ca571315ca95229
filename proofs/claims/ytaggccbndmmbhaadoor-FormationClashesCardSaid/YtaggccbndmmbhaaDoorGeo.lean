/- Texts of the proof, laid end to end. -/
import Derived.Test.YtaggccbndmmbhaaDoorBase
import Derived.Test.YtaggccbndmmbhaaDoorPAllf38
import Derived.Test.YtaggccbndmmbhaaDoorPAllf59
namespace Go.Proofs.YtaggccbndmmbhaaDoor.PAll
open Go.RowKit Go.Proofs.YtaggccbndmmbhaaDoorW.PrintWords Go.Proofs.YtaggccbndmmbhaaDoorW.PrintLast Go.Proofs.YtaggccbndmmbhaaDoorW.PrintMore
attribute [local go_sem] max2_int min2_int max_two min_two max_three min_three max_four min_four   -- for this text's walks alone
set_option linter.unusedVariables false
set_option linter.unusedSimpArgs false
attribute [local go_sem high] eqA55
def dancestudioref03_motion.f (a0_0 : Int) (a0_1 : Int) (a0_2 : Int) (a0_3 : Int) (a0_4 : Int) : Option (Bool) := (dancestudioref03_Valid.f a0_0 a0_1).bind fun t612 => (if t612 = true then ((dancestudioref03_Valid.f a0_2 a0_3).bind fun t613 => (if t613 = true then ((dancestudioref03_Radius.f a0_4).bind fun t614 => (some t614)) else (some false))) else (some false))
set_option maxHeartbeats 8000000 in
set_option maxRecDepth 100000 in
theorem dancestudioref03_motion.calls (a0_0 : Int) (a0_1 : Int) (a0_2 : Int) (a0_3 : Int) (a0_4 : Int) (r : Bool) (w : World) (h : dancestudioref03_motion.f a0_0 a0_1 a0_2 a0_3 a0_4 = some r) :
  Calls Tryd.prog 63 #[.agg #[.int .i64 a0_0, .int .i64 a0_1, .int .i64 a0_2, .int .i64 a0_3, .int .i64 a0_4]] w fun e w' => e = .returned (.bool r) ∧ Below w.heap.size w w' := by
 have hu55 := Tryd.underlying55
 have hu52 := Tryd.underlying52
 have HB := Aside0.mk (Below.refl w.heap.size w)
 have H := h
 unfold dancestudioref03_motion.f at H
 clear h
 replace H := Option.bind_eq_some_iff.mp H
 obtain ⟨t612, A20, H⟩ := H
 try dsimp only at H
 have A2 := Aside0.mk A20
 clear A20
 by_cases c3 : t612 = true
 rotate_left
 ·
  replace c3 := Bool.eq_false_iff.mpr c3
  subst c3
  rw [if_neg (show ¬ (false = true) by decide)] at H
  obtain rfl := Option.some.inj H
  go_enter Tryd.func63, Tryd.ntmps63
  go_wp2_with (first | ((with_reducible refine gate_dst (N := 1) rfl ?_); refine box_event rfl (N := 1) rfl (cs := #[.int .i64 a0_0, .int .i64 a0_1, .int .i64 a0_2, .int .i64 a0_3, .int .i64 a0_4]) (t := 55) (by first | (go_simp; done) | (go_simp; rfl)) ?_; intro gb1 hg w18 hbox hb; have BK1 := Aside0.mk hbox; have GW1 := mGw HB hg; have GE1 := GW1; replace HB := mSt HB hb; clear hb hbox hg; have hcz19 := blk_cell BK1.out; have hfz19 := blk_frozen BK1.out) | ((with_reducible refine gate_callee (f := 33) rfl ?_); refine goesL_ (some 5) rfl rfl Tryd.func33 (by kernel_rfl) rfl #[.agg #[.int .i64 a0_0, .int .i64 a0_1]] rfl (mA1 rfl) ?_; (with_reducible refine (dancestudioref03_Valid.calls a0_0 a0_1 false _ A2.out).mono ?_); rintro e w20 ⟨rfl, hb⟩; refine ⟨_, rfl, ?_⟩; replace BK1 := mBb BK1 hb; replace HB := mSt HB hb; (try clear hb)))
  go_ret
  exact ⟨rfl, HB.out⟩
 subst c3
 rw [if_pos rfl] at H
 replace H := Option.bind_eq_some_iff.mp H
 obtain ⟨t613, A40, H⟩ := H
 try dsimp only at H
 have A4 := Aside0.mk A40
 clear A40
 by_cases c5 : t613 = true
 rotate_left
 ·
  replace c5 := Bool.eq_false_iff.mpr c5
  subst c5
  rw [if_neg (show ¬ (false = true) by decide)] at H
  obtain rfl := Option.some.inj H
  go_enter Tryd.func63, Tryd.ntmps63
  go_wp2_with (first | ((with_reducible refine gate_dst (N := 1) rfl ?_); refine box_event rfl (N := 1) rfl (cs := #[.int .i64 a0_0, .int .i64 a0_1, .int .i64 a0_2, .int .i64 a0_3, .int .i64 a0_4]) (t := 55) (by first | (go_simp; done) | (go_simp; rfl)) ?_; intro gb1 hg w13 hbox hb; have BK1 := Aside0.mk hbox; have GW1 := mGw HB hg; have GE1 := GW1; replace HB := mSt HB hb; clear hb hbox hg; have hcz14 := blk_cell BK1.out; have hfz14 := blk_frozen BK1.out) | ((with_reducible refine gate_callee (f := 33) rfl ?_); refine goesL_ (some 5) rfl rfl Tryd.func33 (by kernel_rfl) rfl #[.agg #[.int .i64 a0_0, .int .i64 a0_1]] rfl (mA1 rfl) ?_; (with_reducible refine (dancestudioref03_Valid.calls a0_0 a0_1 true _ A2.out).mono ?_); rintro e w15 ⟨rfl, hb⟩; refine ⟨_, rfl, ?_⟩; replace BK1 := mBb BK1 hb; replace HB := mSt HB hb; (try clear hb); have hcz16 := blk_cell BK1.out; have hfz16 := blk_frozen BK1.out) | (go_at_call 33; (with_reducible refine (dancestudioref03_Valid.calls a0_2 a0_3 false _ A4.out).mono ?_); rintro e w17 ⟨rfl, hb⟩; replace BK1 := mBb BK1 hb; replace HB := mSt HB hb; (try clear hb)))
  go_ret
  exact ⟨rfl, HB.out⟩
 subst c5
 rw [if_pos rfl] at H
 replace H := Option.bind_eq_some_iff.mp H
 obtain ⟨t614, A60, H⟩ := H
 try dsimp only at H
 have A6 := Aside0.mk A60
 clear A60
 obtain rfl := Option.some.inj H
 go_enter Tryd.func63, Tryd.ntmps63
 go_wp2_with (first | ((with_reducible refine gate_dst (N := 1) rfl ?_); refine box_event rfl (N := 1) rfl (cs := #[.int .i64 a0_0, .int .i64 a0_1, .int .i64 a0_2, .int .i64 a0_3, .int .i64 a0_4]) (t := 55) (by first | (go_simp; done) | (go_simp; rfl)) ?_; intro gb1 hg w7 hbox hb; have BK1 := Aside0.mk hbox; have GW1 := mGw HB hg; have GE1 := GW1; replace HB := mSt HB hb; clear hb hbox hg; have hcz8 := blk_cell BK1.out; have hfz8 := blk_frozen BK1.out) | ((with_reducible refine gate_callee (f := 33) rfl ?_); refine goesL_ (some 5) rfl rfl Tryd.func33 (by kernel_rfl) rfl #[.agg #[.int .i64 a0_0, .int .i64 a0_1]] rfl (mA1 rfl) ?_; (with_reducible refine (dancestudioref03_Valid.calls a0_0 a0_1 true _ A2.out).mono ?_); rintro e w9 ⟨rfl, hb⟩; refine ⟨_, rfl, ?_⟩; replace BK1 := mBb BK1 hb; replace HB := mSt HB hb; (try clear hb); have hcz10 := blk_cell BK1.out; have hfz10 := blk_frozen BK1.out) | (go_at_call 33; (with_reducible refine (dancestudioref03_Valid.calls a0_2 a0_3 true _ A4.out).mono ?_); rintro e w11 ⟨rfl, hb⟩; replace BK1 := mBb BK1 hb; replace HB := mSt HB hb; (try clear hb); have hcz12 := blk_cell BK1.out; have hfz12 := blk_frozen BK1.out) | (go_at_call 38; (with_reducible refine (dancestudioref03_Radius.calls a0_4 t614 _ A6.out).mono ?_); rintro e w' ⟨rfl, ⟨nd, rfl⟩⟩))
 go_ret
 exact ⟨rfl, hO HB⟩
end Go.Proofs.YtaggccbndmmbhaaDoor.PAll
namespace Go.Proofs.YtaggccbndmmbhaaDoor.PAll
open Go.RowKit Go.Proofs.YtaggccbndmmbhaaDoorW.PrintWords Go.Proofs.YtaggccbndmmbhaaDoorW.PrintLast Go.Proofs.YtaggccbndmmbhaaDoorW.PrintMore
attribute [local go_sem] max2_int min2_int max_two min_two max_three min_three max_four min_four   -- for this text's walks alone
set_option linter.unusedVariables false
set_option linter.unusedSimpArgs false
def dancestudioref01_Small.f (a0 : Int) : Option (Bool) := if a0 ≥ (-1125899906842624) then (some (decide (a0 ≤ 1125899906842624))) else (some false)
set_option maxHeartbeats 8000000 in
set_option maxRecDepth 100000 in
theorem dancestudioref01_Small.calls (a0 : Int) (r : Bool) (w : World) (h : dancestudioref01_Small.f a0 = some r) :
  Calls Tryd.prog 74 #[.int .i64 a0] w fun e w' => e = .returned (.bool r) ∧ Drawn0 w w' := by
 have H : (if a0 ≥ (-1125899906842624) then (some (decide (a0 ≤ 1125899906842624))) else (some false)) = some r := h
 clear h
 by_cases c2 : a0 ≥ (-1125899906842624)
 ·
  rw [if_pos c2] at H
  have c2b0 : decide ((-1125899906842624) ≤ a0) = true := decide_eq_true c2
  clear c2
  obtain rfl := Option.some.inj H
  go_enter Tryd.func74, Tryd.ntmps74
  go_wp2
  go_ret
  exact ⟨by first | rfl | (simp; done) | (simp [*]; done), by repeat (first | exact Drawn0.refl _ | apply Drawn0.step)⟩
 ·
  rw [if_neg c2] at H
  have c2b0 : decide ((-1125899906842624) ≤ a0) = false := decide_eq_false c2
  clear c2
  obtain rfl := Option.some.inj H
  go_enter Tryd.func74, Tryd.ntmps74
  go_wp2
  go_ret
  exact ⟨by first | rfl | (simp; done) | (simp [*]; done), by repeat (first | exact Drawn0.refl _ | apply Drawn0.step)⟩
def dancestudioref01_order.f (a0 : Int) (a1 : Int) : Option (Int) := if a0 < a1 then (some (-1)) else (if a0 > a1 then (some 1) else (some 0))
set_option maxHeartbeats 8000000 in
set_option maxRecDepth 100000 in
theorem dancestudioref01_order.calls (a0 : Int) (a1 : Int) (r : Int) (w : World) (h : dancestudioref01_order.f a0 a1 = some r) :
  Calls Tryd.prog 76 #[.int .i64 a0, .int .i64 a1] w fun e w' => e = .returned (.int .i64 r) ∧ Drawn0 w w' := by
 have H : (if a0 < a1 then (some (-1)) else (if a0 > a1 then (some 1) else (some 0))) = some r := h
 clear h
 by_cases c3 : a0 < a1
 ·
  rw [if_pos c3] at H
  have c3b0 : decide (a0 < a1) = true := decide_eq_true c3
  clear c3
  obtain rfl := Option.some.inj H
  go_enter Tryd.func76, Tryd.ntmps76
  go_wp2
  go_ret
  exact ⟨by first | rfl | (simp; done) | (simp [*]; done), by repeat (first | exact Drawn0.refl _ | apply Drawn0.step)⟩
 ·
  rw [if_neg c3] at H
  have c3b0 : decide (a0 < a1) = false := decide_eq_false c3
  clear c3
  by_cases c4 : a0 > a1
  ·
   rw [if_pos c4] at H
   have c4b0 : decide (a1 < a0) = true := decide_eq_true c4
   clear c4
   obtain rfl := Option.some.inj H
   go_enter Tryd.func76, Tryd.ntmps76
   go_wp2
   go_ret
   exact ⟨by first | rfl | (simp; done) | (simp [*]; done), by repeat (first | exact Drawn0.refl _ | apply Drawn0.step)⟩
  ·
   rw [if_neg c4] at H
   have c4b0 : decide (a1 < a0) = false := decide_eq_false c4
   clear c4
   obtain rfl := Option.some.inj H
   go_enter Tryd.func76, Tryd.ntmps76
   go_wp2
   go_ret
   exact ⟨by first | rfl | (simp; done) | (simp [*]; done), by repeat (first | exact Drawn0.refl _ | apply Drawn0.step)⟩
def dancestudioref01_sign.f (a0 : Int) (a1 : Int) : Option (Int) := (dancestudioref01_order.f a0 0).bind fun t615 => ((dancestudioref01_order.f a1 0).bind fun t616 => (some (wrap64 (t615 * t616))))
set_option maxHeartbeats 8000000 in
set_option maxRecDepth 100000 in
theorem dancestudioref01_sign.calls (a0 : Int) (a1 : Int) (r : Int) (w : World) (h : dancestudioref01_sign.f a0 a1 = some r) :
  Calls Tryd.prog 75 #[.int .i64 a0, .int .i64 a1] w fun e w' => e = .returned (.int .i64 r) ∧ Drawn0 w w' := by
 have H := h
 unfold dancestudioref01_sign.f at H
 clear h
 replace H := Option.bind_eq_some_iff.mp H
 obtain ⟨t615, A30, H⟩ := H
 replace H : ((dancestudioref01_order.f a1 0).bind fun t616 => (some (wrap64 (t615 * t616)))) = some r := H
 have A3 := Aside0.mk A30
 clear A30
 replace H := Option.bind_eq_some_iff.mp H
 obtain ⟨t616, A40, H⟩ := H
 replace H : (some (wrap64 (t615 * t616))) = some r := H
 have A4 := Aside0.mk A40
 clear A40
 obtain rfl := Option.some.inj H
 go_enter Tryd.func75, Tryd.ntmps75
 go_wp2_with (first | ((with_reducible refine gate_callee (f := 76) rfl ?_); refine goesL_ (some 6) rfl rfl Tryd.func76 (by kernel_rfl) rfl #[.int .i64 a0, .int .i64 0] rfl (mA2 rfl rfl) ?_; (with_reducible refine (dancestudioref01_order.calls a0 0 t615 _ A3.out).mono ?_); rintro e w' ⟨rfl, ⟨nd, rfl⟩⟩; refine ⟨_, rfl, ?_⟩) | ((with_reducible refine gate_callee (f := 76) rfl ?_); refine goesL_ (some 8) rfl rfl Tryd.func76 (by kernel_rfl) rfl #[.int .i64 a1, .int .i64 0] rfl (mA2 rfl rfl) ?_; (with_reducible refine (dancestudioref01_order.calls a1 0 t616 _ A4.out).mono ?_); rintro e w' ⟨rfl, ⟨nd, rfl⟩⟩; refine ⟨_, rfl, ?_⟩))
 go_ret
 exact ⟨by first | rfl | (simp; done) | (simp [*]; done), by repeat (first | exact Drawn0.refl _ | apply Drawn0.step)⟩
def dancestudioref01_wide.f (a0 : Int) (a1 : Int) : Option (Int × Int × Int) := some (wrap64 ((wrap64 ((wrap64 (Int.tdiv a0 67108864)) * (wrap64 (Int.tdiv a1 67108864)))) + (wrap64 (Int.tdiv (wrap64 ((wrap64 ((wrap64 ((wrap64 (Int.tdiv a0 67108864)) * (Int.tmod a1 67108864))) + (wrap64 ((Int.tmod a0 67108864) * (wrap64 (Int.tdiv a1 67108864)))))) + (wrap64 (Int.tdiv (wrap64 ((Int.tmod a0 67108864) * (Int.tmod a1 67108864))) 67108864)))) 67108864))), Int.tmod (wrap64 ((wrap64 ((wrap64 ((wrap64 (Int.tdiv a0 67108864)) * (Int.tmod a1 67108864))) + (wrap64 ((Int.tmod a0 67108864) * (wrap64 (Int.tdiv a1 67108864)))))) + (wrap64 (Int.tdiv (wrap64 ((Int.tmod a0 67108864) * (Int.tmod a1 67108864))) 67108864)))) 67108864, Int.tmod (wrap64 ((Int.tmod a0 67108864) * (Int.tmod a1 67108864))) 67108864)
set_option maxHeartbeats 8000000 in
set_option maxRecDepth 100000 in
theorem dancestudioref01_wide.calls (a0 : Int) (a1 : Int) (r1 : Int) (r2 : Int) (r3 : Int) (w : World) (h : dancestudioref01_wide.f a0 a1 = some (r1, r2, r3)) :
  Calls Tryd.prog 77 #[.int .i64 a0, .int .i64 a1] w fun e w' => e = .returned (.agg #[.int .i64 r1, .int .i64 r2, .int .i64 r3]) ∧ Below w.heap.size w w' := by
 have hu94 := Tryd.underlying94
 have HB := Aside0.mk (Below.refl w.heap.size w)
 have H := h
 unfold dancestudioref01_wide.f at H
 clear h
 simp only [Option.some.injEq, Prod.mk.injEq] at H
 obtain ⟨rfl, rfl, rfl⟩ := H
 go_enter Tryd.func77, Tryd.ntmps77
 go_wp2_with (first | ((with_reducible refine gate_dst (N := 4) rfl ?_); refine box_event rfl (N := 4) rfl (cs := #[.int .i64 0, .int .i64 0, .int .i64 0]) (t := 94) (by first | (go_simp; done) | (go_simp; rfl)) ?_; intro gb1 hg w3 hbox hb; have BK1 := Aside0.mk hbox; have GW1 := mGw HB hg; have GE1 := GW1; replace HB := mSt HB hb; clear hb hbox hg; have hcz4 := blk_cell BK1.out; have hfz4 := blk_frozen BK1.out))
 refine bodyPost_ret (results_cell_row rfl _ _ gb1 94 #[.int .i64 (wrap64 ((wrap64 ((wrap64 (Int.tdiv a0 67108864)) * (wrap64 (Int.tdiv a1 67108864)))) + (wrap64 (Int.tdiv (wrap64 ((wrap64 ((wrap64 ((wrap64 (Int.tdiv a0 67108864)) * (Int.tmod a1 67108864))) + (wrap64 ((Int.tmod a0 67108864) * (wrap64 (Int.tdiv a1 67108864)))))) + (wrap64 (Int.tdiv (wrap64 ((Int.tmod a0 67108864) * (Int.tmod a1 67108864))) 67108864)))) 67108864)))), .int .i64 (Int.tmod (wrap64 ((wrap64 ((wrap64 ((wrap64 (Int.tdiv a0 67108864)) * (Int.tmod a1 67108864))) + (wrap64 ((Int.tmod a0 67108864) * (wrap64 (Int.tdiv a1 67108864)))))) + (wrap64 (Int.tdiv (wrap64 ((Int.tmod a0 67108864) * (Int.tmod a1 67108864))) 67108864)))) 67108864), .int .i64 (Int.tmod (wrap64 ((Int.tmod a0 67108864) * (Int.tmod a1 67108864))) 67108864)] (0, 0) _ rfl (by refine blk_put (cs := #[.int .i64 (wrap64 ((wrap64 ((wrap64 (Int.tdiv a0 67108864)) * (wrap64 (Int.tdiv a1 67108864)))) + (wrap64 (Int.tdiv (wrap64 ((wrap64 ((wrap64 ((wrap64 (Int.tdiv a0 67108864)) * (Int.tmod a1 67108864))) + (wrap64 ((Int.tmod a0 67108864) * (wrap64 (Int.tdiv a1 67108864)))))) + (wrap64 (Int.tdiv (wrap64 ((Int.tmod a0 67108864) * (Int.tmod a1 67108864))) 67108864)))) 67108864)))), .int .i64 (Int.tmod (wrap64 ((wrap64 ((wrap64 ((wrap64 (Int.tdiv a0 67108864)) * (Int.tmod a1 67108864))) + (wrap64 ((Int.tmod a0 67108864) * (wrap64 (Int.tdiv a1 67108864)))))) + (wrap64 (Int.tdiv (wrap64 ((Int.tmod a0 67108864) * (Int.tmod a1 67108864))) 67108864)))) 67108864), .int .i64 0]) ?_ 2 _ rfl; refine blk_put (cs := #[.int .i64 (wrap64 ((wrap64 ((wrap64 (Int.tdiv a0 67108864)) * (wrap64 (Int.tdiv a1 67108864)))) + (wrap64 (Int.tdiv (wrap64 ((wrap64 ((wrap64 ((wrap64 (Int.tdiv a0 67108864)) * (Int.tmod a1 67108864))) + (wrap64 ((Int.tmod a0 67108864) * (wrap64 (Int.tdiv a1 67108864)))))) + (wrap64 (Int.tdiv (wrap64 ((Int.tmod a0 67108864) * (Int.tmod a1 67108864))) 67108864)))) 67108864)))), .int .i64 0, .int .i64 0]) ?_ 1 _ rfl; refine blk_put (cs := #[.int .i64 0, .int .i64 0, .int .i64 0]) ?_ 0 _ rfl; exact BK1.out) Tryd.underlying94 rfl (by kernel_rfl)) rfl ?_
 exact ⟨rfl, hO HB⟩
def dancestudioref01_size.f (a0 : Int) : Option (Int) := if a0 < 0 then (some (wrap64 (-a0))) else (some a0)
set_option maxHeartbeats 8000000 in
set_option maxRecDepth 100000 in
theorem dancestudioref01_size.calls (a0 : Int) (r : Int) (w : World) (h : dancestudioref01_size.f a0 = some r) :
  Calls Tryd.prog 78 #[.int .i64 a0] w fun e w' => e = .returned (.int .i64 r) ∧ Drawn0 w w' := by
 have H : (if a0 < 0 then (some (wrap64 (-a0))) else (some a0)) = some r := h
 clear h
 by_cases c2 : a0 < 0
 ·
  rw [if_pos c2] at H
  have c2b0 : decide (a0 < 0) = true := decide_eq_true c2
  clear c2
  obtain rfl := Option.some.inj H
  go_enter Tryd.func78, Tryd.ntmps78
  go_wp2
  go_ret
  exact ⟨by first | rfl | (simp; done) | (simp [*]; done), by repeat (first | exact Drawn0.refl _ | apply Drawn0.step)⟩
 ·
  rw [if_neg c2] at H
  have c2b0 : decide (a0 < 0) = false := decide_eq_false c2
  clear c2
  obtain rfl := Option.some.inj H
  go_enter Tryd.func78, Tryd.ntmps78
  go_wp2
  go_ret
  exact ⟨by first | rfl | (simp; done) | (simp [*]; done), by repeat (first | exact Drawn0.refl _ | apply Drawn0.step)⟩
def dancestudioref01_Compare.j0 : Nat → Int → Int → Int → Int → Bool → Option (Int × Int)
 | 0, _, _, _, _, _ => none
 | k + 1, x0, x1, x2, x3, x30 => if x30 = true then (some (0, 1)) else ((dancestudioref01_sign.f x0 x1).bind fun t622 => ((dancestudioref01_sign.f x2 x3).bind fun t623 => (if t622 = t623 then ((dancestudioref01_size.f x0).bind fun t626 => ((dancestudioref01_size.f x1).bind fun t627 => ((dancestudioref01_wide.f t626 t627).bind fun bt628 => ((dancestudioref01_size.f x2).bind fun t631 => ((dancestudioref01_size.f x3).bind fun t632 => ((dancestudioref01_wide.f t631 t632).bind fun bt633 => (if bt628.1 = bt633.1 then (if bt628.2.1 = bt633.2.1 then ((dancestudioref01_order.f bt628.2.2 bt633.2.2).bind fun t639 => (some (wrap64 (t622 * t639), 0))) else ((dancestudioref01_order.f bt628.2.1 bt633.2.1).bind fun t640 => (some (wrap64 (t622 * t640), 0)))) else ((dancestudioref01_order.f bt628.1 bt633.1).bind fun t638 => (some (wrap64 (t622 * t638), 0)))))))))) else ((dancestudioref01_sign.f x2 x3).bind fun t624 => ((dancestudioref01_order.f t622 t624).bind fun t625 => (some (t625, 0)))))))
def dancestudioref01_Compare.f (k : Nat) (a0 : Int) (a1 : Int) (a2 : Int) (a3 : Int) : Option (Int × Int) := (dancestudioref01_Small.f a0).bind fun t618 => (if t618 = true then ((dancestudioref01_Small.f a1).bind fun t619 => (if t619 = true then ((dancestudioref01_Small.f a2).bind fun t620 => (if t620 = true then ((dancestudioref01_Small.f a3).bind fun t621 => (dancestudioref01_Compare.j0 k a0 a1 a2 a3 (!t621))) else (dancestudioref01_Compare.j0 k a0 a1 a2 a3 true))) else (dancestudioref01_Compare.j0 k a0 a1 a2 a3 true))) else (dancestudioref01_Compare.j0 k a0 a1 a2 a3 true))
set_option maxHeartbeats 8000000 in
set_option maxRecDepth 100000 in
theorem dancestudioref01_Compare.calls (k : Nat) (a0 : Int) (a1 : Int) (a2 : Int) (a3 : Int) (r1 : Int) (r2 : Int) (w : World) (h : dancestudioref01_Compare.f k a0 a1 a2 a3 = some (r1, r2)) :
  Calls Tryd.prog 64 #[.int .i64 a0, .int .i64 a1, .int .i64 a2, .int .i64 a3] w fun e w' => e = .returned (.tuple #[.int .i64 r1, .int .i64 r2]) ∧ Below w.heap.size w w' := by
 have hu94 := Tryd.underlying94
 have HB := Aside0.mk (Below.refl w.heap.size w)
 have H := h
 unfold dancestudioref01_Compare.f at H
 clear h
 have HC5 := Aside0.mk H
 clear H
 go_enter Tryd.func64, Tryd.ntmps64
 go_upto_region 1 with (fail)
 go_cut [30] (fun v30 wc => ∃ (kq : Nat) (x30_4 : Bool), v30 = .bool x30_4 ∧ Aside0 (dancestudioref01_Compare.j0 kq a0 a1 a2 a3 x30_4 = some (r1, r2)) ∧ Aside0 (kq ≤ k) ∧ Aside0 (Below w.heap.size w wc))
 case first =>
  have H := HC5.out
  clear HC5
  replace H := Option.bind_eq_some_iff.mp H
  obtain ⟨t618, A60, H⟩ := H
  replace H : (if t618 = true then ((dancestudioref01_Small.f a1).bind fun t619 => (if t619 = true then ((dancestudioref01_Small.f a2).bind fun t620 => (if t620 = true then ((dancestudioref01_Small.f a3).bind fun t621 => (dancestudioref01_Compare.j0 k a0 a1 a2 a3 (!t621))) else (dancestudioref01_Compare.j0 k a0 a1 a2 a3 true))) else (dancestudioref01_Compare.j0 k a0 a1 a2 a3 true))) else (dancestudioref01_Compare.j0 k a0 a1 a2 a3 true)) = some (r1, r2) := H
  have A6 := Aside0.mk A60
  clear A60
  by_cases c7 : t618 = true
  ·
   subst c7
   have H1 : ((dancestudioref01_Small.f a1).bind fun t619 => (if t619 = true then ((dancestudioref01_Small.f a2).bind fun t620 => (if t620 = true then ((dancestudioref01_Small.f a3).bind fun t621 => (dancestudioref01_Compare.j0 k a0 a1 a2 a3 (!t621))) else (dancestudioref01_Compare.j0 k a0 a1 a2 a3 true))) else (dancestudioref01_Compare.j0 k a0 a1 a2 a3 true))) = some (r1, r2) := by rw [if_pos rfl] at H; exact H
   clear H
   have H := H1
   clear H1
   replace H := Option.bind_eq_some_iff.mp H
   obtain ⟨t619, A80, H⟩ := H
   replace H : (if t619 = true then ((dancestudioref01_Small.f a2).bind fun t620 => (if t620 = true then ((dancestudioref01_Small.f a3).bind fun t621 => (dancestudioref01_Compare.j0 k a0 a1 a2 a3 (!t621))) else (dancestudioref01_Compare.j0 k a0 a1 a2 a3 true))) else (dancestudioref01_Compare.j0 k a0 a1 a2 a3 true)) = some (r1, r2) := H
   have A8 := Aside0.mk A80
   clear A80
   by_cases c9 : t619 = true
   ·
    subst c9
    have H1 : ((dancestudioref01_Small.f a2).bind fun t620 => (if t620 = true then ((dancestudioref01_Small.f a3).bind fun t621 => (dancestudioref01_Compare.j0 k a0 a1 a2 a3 (!t621))) else (dancestudioref01_Compare.j0 k a0 a1 a2 a3 true))) = some (r1, r2) := by rw [if_pos rfl] at H; exact H
    clear H
    have H := H1
    clear H1
    replace H := Option.bind_eq_some_iff.mp H
    obtain ⟨t620, A100, H⟩ := H
    replace H : (if t620 = true then ((dancestudioref01_Small.f a3).bind fun t621 => (dancestudioref01_Compare.j0 k a0 a1 a2 a3 (!t621))) else (dancestudioref01_Compare.j0 k a0 a1 a2 a3 true)) = some (r1, r2) := H
    have A10 := Aside0.mk A100
    clear A100
    by_cases c11 : t620 = true
    ·
     subst c11
     have H1 : ((dancestudioref01_Small.f a3).bind fun t621 => (dancestudioref01_Compare.j0 k a0 a1 a2 a3 (!t621))) = some (r1, r2) := by rw [if_pos rfl] at H; exact H
     clear H
     have H := H1
     clear H1
     replace H := Option.bind_eq_some_iff.mp H
     obtain ⟨t621, A120, H⟩ := H
     replace H : (dancestudioref01_Compare.j0 k a0 a1 a2 a3 (!t621)) = some (r1, r2) := H
     have A12 := Aside0.mk A120
     clear A120
     have H' := Aside0.mk H
     clear H
     go_wp2_with (first | ((with_reducible refine gate_callee (f := 74) rfl ?_); refine goesL_ (some 14) rfl rfl Tryd.func74 (by kernel_rfl) rfl #[.int .i64 a0] rfl (mA1 rfl) ?_; (with_reducible refine (dancestudioref01_Small.calls a0 true _ A6.out).mono ?_); rintro e w' ⟨rfl, ⟨nd, rfl⟩⟩; refine ⟨_, rfl, ?_⟩) | (go_at_call 74; (with_reducible refine (dancestudioref01_Small.calls a1 true _ A8.out).mono ?_); rintro e w' ⟨rfl, ⟨nd, rfl⟩⟩) | (go_at_call 74; (with_reducible refine (dancestudioref01_Small.calls a2 true _ A10.out).mono ?_); rintro e w' ⟨rfl, ⟨nd, rfl⟩⟩) | (go_at_call 74; (with_reducible refine (dancestudioref01_Small.calls a3 t621 _ A12.out).mono ?_); rintro e w' ⟨rfl, ⟨nd, rfl⟩⟩))
     go_meet
     case rel => exact ⟨_, (!t621), rfl, H', ⟨by first | omega | exact Nat.le_refl _⟩, ⟨hO HB⟩⟩
    ·
     replace c11 := Bool.eq_false_iff.mpr c11
     subst c11
     have H1 : (dancestudioref01_Compare.j0 k a0 a1 a2 a3 true) = some (r1, r2) := by rw [if_neg (show ¬ (false = true) by decide)] at H; exact H
     clear H
     have H := H1
     clear H1
     have H' := Aside0.mk H
     clear H
     go_wp2_with (first | ((with_reducible refine gate_callee (f := 74) rfl ?_); refine goesL_ (some 14) rfl rfl Tryd.func74 (by kernel_rfl) rfl #[.int .i64 a0] rfl (mA1 rfl) ?_; (with_reducible refine (dancestudioref01_Small.calls a0 true _ A6.out).mono ?_); rintro e w' ⟨rfl, ⟨nd, rfl⟩⟩; refine ⟨_, rfl, ?_⟩) | (go_at_call 74; (with_reducible refine (dancestudioref01_Small.calls a1 true _ A8.out).mono ?_); rintro e w' ⟨rfl, ⟨nd, rfl⟩⟩) | (go_at_call 74; (with_reducible refine (dancestudioref01_Small.calls a2 false _ A10.out).mono ?_); rintro e w' ⟨rfl, ⟨nd, rfl⟩⟩))
     go_meet
     case rel => exact ⟨_, (true), rfl, H', ⟨by first | omega | exact Nat.le_refl _⟩, ⟨hO HB⟩⟩
   ·
    replace c9 := Bool.eq_false_iff.mpr c9
    subst c9
    have H1 : (dancestudioref01_Compare.j0 k a0 a1 a2 a3 true) = some (r1, r2) := by rw [if_neg (show ¬ (false = true) by decide)] at H; exact H
    clear H
    have H := H1
    clear H1
    have H' := Aside0.mk H
    clear H
    go_wp2_with (first | ((with_reducible refine gate_callee (f := 74) rfl ?_); refine goesL_ (some 14) rfl rfl Tryd.func74 (by kernel_rfl) rfl #[.int .i64 a0] rfl (mA1 rfl) ?_; (with_reducible refine (dancestudioref01_Small.calls a0 true _ A6.out).mono ?_); rintro e w' ⟨rfl, ⟨nd, rfl⟩⟩; refine ⟨_, rfl, ?_⟩) | (go_at_call 74; (with_reducible refine (dancestudioref01_Small.calls a1 false _ A8.out).mono ?_); rintro e w' ⟨rfl, ⟨nd, rfl⟩⟩))
    go_meet
    case rel => exact ⟨_, (true), rfl, H', ⟨by first | omega | exact Nat.le_refl _⟩, ⟨hO HB⟩⟩
  ·
   replace c7 := Bool.eq_false_iff.mpr c7
   subst c7
   have H1 : (dancestudioref01_Compare.j0 k a0 a1 a2 a3 true) = some (r1, r2) := by rw [if_neg (show ¬ (false = true) by decide)] at H; exact H
   clear H
   have H := H1
   clear H1
   have H' := Aside0.mk H
   clear H
   go_wp2_with (first | ((with_reducible refine gate_callee (f := 74) rfl ?_); refine goesL_ (some 14) rfl rfl Tryd.func74 (by kernel_rfl) rfl #[.int .i64 a0] rfl (mA1 rfl) ?_; (with_reducible refine (dancestudioref01_Small.calls a0 false _ A6.out).mono ?_); rintro e w' ⟨rfl, ⟨nd, rfl⟩⟩; refine ⟨_, rfl, ?_⟩))
   go_meet
   case rel => exact ⟨_, (true), rfl, H', ⟨by first | omega | exact Nat.le_refl _⟩, ⟨hO HB⟩⟩
 case rest =>
  clear HC5
  skip
  skip
  skip
  skip
  skip
  skip
  obtain ⟨kq, x30_4, rfl, HA, HJ4, HB⟩ := hcut
  cases kq with
  | zero => exact absurd HA.out (by simp [dancestudioref01_Compare.j0])
  | succ kj4 =>
   have H := HA.out
   clear HA
   simp only [dancestudioref01_Compare.j0] at H
   by_cases c13 : x30_4 = true
   ·
    subst c13
    have H1 : (some (0, 1)) = some (r1, r2) := by rw [if_pos rfl] at H; exact H
    clear H
    have H := H1
    clear H1
    simp only [Option.some.injEq, Prod.mk.injEq] at H
    obtain ⟨rfl, rfl⟩ := H
    go_wp2
    go_ret2
    exact ⟨rfl, hO HB⟩
   ·
    replace c13 := Bool.eq_false_iff.mpr c13
    subst c13
    have H1 : ((dancestudioref01_sign.f a0 a1).bind fun t622 => ((dancestudioref01_sign.f a2 a3).bind fun t623 => (if t622 = t623 then ((dancestudioref01_size.f a0).bind fun t626 => ((dancestudioref01_size.f a1).bind fun t627 => ((dancestudioref01_wide.f t626 t627).bind fun bt628 => ((dancestudioref01_size.f a2).bind fun t631 => ((dancestudioref01_size.f a3).bind fun t632 => ((dancestudioref01_wide.f t631 t632).bind fun bt633 => (if bt628.1 = bt633.1 then (if bt628.2.1 = bt633.2.1 then ((dancestudioref01_order.f bt628.2.2 bt633.2.2).bind fun t639 => (some (wrap64 (t622 * t639), 0))) else ((dancestudioref01_order.f bt628.2.1 bt633.2.1).bind fun t640 => (some (wrap64 (t622 * t640), 0)))) else ((dancestudioref01_order.f bt628.1 bt633.1).bind fun t638 => (some (wrap64 (t622 * t638), 0)))))))))) else ((dancestudioref01_sign.f a2 a3).bind fun t624 => ((dancestudioref01_order.f t622 t624).bind fun t625 => (some (t625, 0))))))) = some (r1, r2) := by rw [if_neg (show ¬ (false = true) by decide)] at H; exact H
    clear H
    have H := H1
    clear H1
    replace H := Option.bind_eq_some_iff.mp H
    obtain ⟨t622, A140, H⟩ := H
    replace H : ((dancestudioref01_sign.f a2 a3).bind fun t623 => (if t622 = t623 then ((dancestudioref01_size.f a0).bind fun t626 => ((dancestudioref01_size.f a1).bind fun t627 => ((dancestudioref01_wide.f t626 t627).bind fun bt628 => ((dancestudioref01_size.f a2).bind fun t631 => ((dancestudioref01_size.f a3).bind fun t632 => ((dancestudioref01_wide.f t631 t632).bind fun bt633 => (if bt628.1 = bt633.1 then (if bt628.2.1 = bt633.2.1 then ((dancestudioref01_order.f bt628.2.2 bt633.2.2).bind fun t639 => (some (wrap64 (t622 * t639), 0))) else ((dancestudioref01_order.f bt628.2.1 bt633.2.1).bind fun t640 => (some (wrap64 (t622 * t640), 0)))) else ((dancestudioref01_order.f bt628.1 bt633.1).bind fun t638 => (some (wrap64 (t622 * t638), 0)))))))))) else ((dancestudioref01_sign.f a2 a3).bind fun t624 => ((dancestudioref01_order.f t622 t624).bind fun t625 => (some (t625, 0)))))) = some (r1, r2) := H
    have A14 := Aside0.mk A140
    clear A140
    replace H := Option.bind_eq_some_iff.mp H
    obtain ⟨t623, A150, H⟩ := H
    replace H : (if t622 = t623 then ((dancestudioref01_size.f a0).bind fun t626 => ((dancestudioref01_size.f a1).bind fun t627 => ((dancestudioref01_wide.f t626 t627).bind fun bt628 => ((dancestudioref01_size.f a2).bind fun t631 => ((dancestudioref01_size.f a3).bind fun t632 => ((dancestudioref01_wide.f t631 t632).bind fun bt633 => (if bt628.1 = bt633.1 then (if bt628.2.1 = bt633.2.1 then ((dancestudioref01_order.f bt628.2.2 bt633.2.2).bind fun t639 => (some (wrap64 (t622 * t639), 0))) else ((dancestudioref01_order.f bt628.2.1 bt633.2.1).bind fun t640 => (some (wrap64 (t622 * t640), 0)))) else ((dancestudioref01_order.f bt628.1 bt633.1).bind fun t638 => (some (wrap64 (t622 * t638), 0)))))))))) else ((dancestudioref01_sign.f a2 a3).bind fun t624 => ((dancestudioref01_order.f t622 t624).bind fun t625 => (some (t625, 0))))) = some (r1, r2) := H
    have A15 := Aside0.mk A150
    clear A150
    by_cases c16 : t622 = t623
    ·
     rw [if_pos c16] at H
     have c16b0 := beq_iff_eq.mpr c16
     have c16b1 := bne_eq_false_iff_eq.mpr c16
     clear c16
     replace H := Option.bind_eq_some_iff.mp H
     obtain ⟨t626, A170, H⟩ := H
     replace H : ((dancestudioref01_size.f a1).bind fun t627 => ((dancestudioref01_wide.f t626 t627).bind fun bt628 => ((dancestudioref01_size.f a2).bind fun t631 => ((dancestudioref01_size.f a3).bind fun t632 => ((dancestudioref01_wide.f t631 t632).bind fun bt633 => (if bt628.1 = bt633.1 then (if bt628.2.1 = bt633.2.1 then ((dancestudioref01_order.f bt628.2.2 bt633.2.2).bind fun t639 => (some (wrap64 (t622 * t639), 0))) else ((dancestudioref01_order.f bt628.2.1 bt633.2.1).bind fun t640 => (some (wrap64 (t622 * t640), 0)))) else ((dancestudioref01_order.f bt628.1 bt633.1).bind fun t638 => (some (wrap64 (t622 * t638), 0))))))))) = some (r1, r2) := H
     have A17 := Aside0.mk A170
     clear A170
     replace H := Option.bind_eq_some_iff.mp H
     obtain ⟨t627, A180, H⟩ := H
     replace H : ((dancestudioref01_wide.f t626 t627).bind fun bt628 => ((dancestudioref01_size.f a2).bind fun t631 => ((dancestudioref01_size.f a3).bind fun t632 => ((dancestudioref01_wide.f t631 t632).bind fun bt633 => (if bt628.1 = bt633.1 then (if bt628.2.1 = bt633.2.1 then ((dancestudioref01_order.f bt628.2.2 bt633.2.2).bind fun t639 => (some (wrap64 (t622 * t639), 0))) else ((dancestudioref01_order.f bt628.2.1 bt633.2.1).bind fun t640 => (some (wrap64 (t622 * t640), 0)))) else ((dancestudioref01_order.f bt628.1 bt633.1).bind fun t638 => (some (wrap64 (t622 * t638), 0)))))))) = some (r1, r2) := H
     have A18 := Aside0.mk A180
     clear A180
     replace H := Option.bind_eq_some_iff.mp H
     obtain ⟨⟨t628, t629, t630⟩, A190, H⟩ := H
     replace H : ((dancestudioref01_size.f a2).bind fun t631 => ((dancestudioref01_size.f a3).bind fun t632 => ((dancestudioref01_wide.f t631 t632).bind fun bt633 => (if t628 = bt633.1 then (if t629 = bt633.2.1 then ((dancestudioref01_order.f t630 bt633.2.2).bind fun t639 => (some (wrap64 (t622 * t639), 0))) else ((dancestudioref01_order.f t629 bt633.2.1).bind fun t640 => (some (wrap64 (t622 * t640), 0)))) else ((dancestudioref01_order.f t628 bt633.1).bind fun t638 => (some (wrap64 (t622 * t638), 0))))))) = some (r1, r2) := H
     have A19 := Aside0.mk A190
     clear A190
     replace H := Option.bind_eq_some_iff.mp H
     obtain ⟨t631, A200, H⟩ := H
     replace H : ((dancestudioref01_size.f a3).bind fun t632 => ((dancestudioref01_wide.f t631 t632).bind fun bt633 => (if t628 = bt633.1 then (if t629 = bt633.2.1 then ((dancestudioref01_order.f t630 bt633.2.2).bind fun t639 => (some (wrap64 (t622 * t639), 0))) else ((dancestudioref01_order.f t629 bt633.2.1).bind fun t640 => (some (wrap64 (t622 * t640), 0)))) else ((dancestudioref01_order.f t628 bt633.1).bind fun t638 => (some (wrap64 (t622 * t638), 0)))))) = some (r1, r2) := H
     have A20 := Aside0.mk A200
     clear A200
     replace H := Option.bind_eq_some_iff.mp H
     obtain ⟨t632, A210, H⟩ := H
     replace H : ((dancestudioref01_wide.f t631 t632).bind fun bt633 => (if t628 = bt633.1 then (if t629 = bt633.2.1 then ((dancestudioref01_order.f t630 bt633.2.2).bind fun t639 => (some (wrap64 (t622 * t639), 0))) else ((dancestudioref01_order.f t629 bt633.2.1).bind fun t640 => (some (wrap64 (t622 * t640), 0)))) else ((dancestudioref01_order.f t628 bt633.1).bind fun t638 => (some (wrap64 (t622 * t638), 0))))) = some (r1, r2) := H
     have A21 := Aside0.mk A210
     clear A210
     replace H := Option.bind_eq_some_iff.mp H
     obtain ⟨⟨t633, t634, t635⟩, A220, H⟩ := H
     replace H : (if t628 = t633 then (if t629 = t634 then ((dancestudioref01_order.f t630 t635).bind fun t639 => (some (wrap64 (t622 * t639), 0))) else ((dancestudioref01_order.f t629 t634).bind fun t640 => (some (wrap64 (t622 * t640), 0)))) else ((dancestudioref01_order.f t628 t633).bind fun t638 => (some (wrap64 (t622 * t638), 0)))) = some (r1, r2) := H
     have A22 := Aside0.mk A220
     clear A220
     by_cases c23 : t628 = t633
     ·
      rw [if_pos c23] at H
      have c23b0 := beq_iff_eq.mpr c23
      have c23b1 := bne_eq_false_iff_eq.mpr c23
      clear c23
      by_cases c24 : t629 = t634
      ·
       rw [if_pos c24] at H
       have c24b0 := beq_iff_eq.mpr c24
       have c24b1 := bne_eq_false_iff_eq.mpr c24
       clear c24
       replace H := Option.bind_eq_some_iff.mp H
       obtain ⟨t639, A250, H⟩ := H
       replace H : (some (wrap64 (t622 * t639), 0)) = some (r1, r2) := H
       have A25 := Aside0.mk A250
       clear A250
       simp only [Option.some.injEq, Prod.mk.injEq] at H
       obtain ⟨rfl, rfl⟩ := H
       go_wp2_with (first | ((with_reducible refine gate_callee (f := 75) rfl ?_); refine goesL_ (some 33) rfl rfl Tryd.func75 (by kernel_rfl) rfl #[.int .i64 a0, .int .i64 a1] rfl (mA2 rfl rfl) ?_; (with_reducible refine (dancestudioref01_sign.calls a0 a1 t622 _ A14.out).mono ?_); rintro e w' ⟨rfl, ⟨nd, rfl⟩⟩; refine ⟨_, rfl, ?_⟩; (try (rw [drewN_self wc]; generalize hq_ : World.drewN wc _ = wc; have n0_ : Aside0 (Below w.heap.size w wc) := ⟨by rw [← hq_]; exact (hO HB)⟩; clear HB hq_; have HB := n0_; clear n0_))) | ((with_reducible refine gate_callee (f := 75) rfl ?_); refine goesL_ (some 37) rfl rfl Tryd.func75 (by kernel_rfl) rfl #[.int .i64 a2, .int .i64 a3] rfl (mA2 rfl rfl) ?_; (with_reducible refine (dancestudioref01_sign.calls a2 a3 t623 _ A15.out).mono ?_); rintro e w' ⟨rfl, ⟨nd, rfl⟩⟩; refine ⟨_, rfl, ?_⟩; (try (rw [drewN_self wc]; generalize hq_ : World.drewN wc _ = wc; have n0_ : Aside0 (Below w.heap.size w wc) := ⟨by rw [← hq_]; exact (hO HB)⟩; clear HB hq_; have HB := n0_; clear n0_))) | ((with_reducible refine gate_callee (f := 78) rfl ?_); refine goesL_ (some 45) rfl rfl Tryd.func78 (by kernel_rfl) rfl #[.int .i64 a0] rfl (mA1 rfl) ?_; (with_reducible refine (dancestudioref01_size.calls a0 t626 _ A17.out).mono ?_); rintro e w' ⟨rfl, ⟨nd, rfl⟩⟩; refine ⟨_, rfl, ?_⟩; (try (rw [drewN_self wc]; generalize hq_ : World.drewN wc _ = wc; have n0_ : Aside0 (Below w.heap.size w wc) := ⟨by rw [← hq_]; exact (hO HB)⟩; clear HB hq_; have HB := n0_; clear n0_))) | ((with_reducible refine gate_callee (f := 78) rfl ?_); refine goesL_ (some 47) rfl rfl Tryd.func78 (by kernel_rfl) rfl #[.int .i64 a1] rfl (mA1 rfl) ?_; (with_reducible refine (dancestudioref01_size.calls a1 t627 _ A18.out).mono ?_); rintro e w' ⟨rfl, ⟨nd, rfl⟩⟩; refine ⟨_, rfl, ?_⟩; (try (rw [drewN_self wc]; generalize hq_ : World.drewN wc _ = wc; have n0_ : Aside0 (Below w.heap.size w wc) := ⟨by rw [← hq_]; exact (hO HB)⟩; clear HB hq_; have HB := n0_; clear n0_))) | ((with_reducible refine gate_callee (f := 77) rfl ?_); refine goesL_ (some 48) rfl rfl Tryd.func77 (by kernel_rfl) rfl #[.int .i64 t626, .int .i64 t627] rfl (mA2 rfl rfl) ?_; (with_reducible refine (dancestudioref01_wide.calls t626 t627 t628 t629 t630 _ A19.out).mono ?_); rintro e w26 ⟨rfl, hb⟩; refine ⟨_, rfl, ?_⟩; have n0_ := mSx HB hb; clear HB; have HB := n0_; clear n0_; (try clear hb); (try clear hb2); (try clear hk); (try clear hi)) | ((with_reducible refine gate_callee (f := 78) rfl ?_); refine goesL_ (some 50) rfl rfl Tryd.func78 (by kernel_rfl) rfl #[.int .i64 a2] rfl (mA1 rfl) ?_; (with_reducible refine (dancestudioref01_size.calls a2 t631 _ A20.out).mono ?_); rintro e w' ⟨rfl, ⟨nd, rfl⟩⟩; refine ⟨_, rfl, ?_⟩; (try (rw [drewN_self w26]; generalize hq_ : World.drewN w26 _ = w26; have n0_ : Aside0 (Below w.heap.size w w26) := ⟨by rw [← hq_]; exact (hO HB)⟩; clear HB hq_; have HB := n0_; clear n0_))) | ((with_reducible refine gate_callee (f := 78) rfl ?_); refine goesL_ (some 52) rfl rfl Tryd.func78 (by kernel_rfl) rfl #[.int .i64 a3] rfl (mA1 rfl) ?_; (with_reducible refine (dancestudioref01_size.calls a3 t632 _ A21.out).mono ?_); rintro e w' ⟨rfl, ⟨nd, rfl⟩⟩; refine ⟨_, rfl, ?_⟩; (try (rw [drewN_self w26]; generalize hq_ : World.drewN w26 _ = w26; have n0_ : Aside0 (Below w.heap.size w w26) := ⟨by rw [← hq_]; exact (hO HB)⟩; clear HB hq_; have HB := n0_; clear n0_))) | ((with_reducible refine gate_callee (f := 77) rfl ?_); refine goesL_ (some 53) rfl rfl Tryd.func77 (by kernel_rfl) rfl #[.int .i64 t631, .int .i64 t632] rfl (mA2 rfl rfl) ?_; (with_reducible refine (dancestudioref01_wide.calls t631 t632 t633 t634 t635 _ A22.out).mono ?_); rintro e w27 ⟨rfl, hb⟩; refine ⟨_, rfl, ?_⟩; have n0_ := mSx HB hb; clear HB; have HB := n0_; clear n0_; (try clear hb); (try clear hb2); (try clear hk); (try clear hi)) | ((with_reducible refine gate_dst (N := 11) rfl ?_); refine box_event rfl (N := 11) rfl (cs := #[.int .i64 0, .int .i64 0, .int .i64 0]) (t := 94) (by first | (go_simp; done) | (go_simp; rfl)) ?_; intro gb636 hg w28 hbox hb; have n0_ := mSx HB hb; have n1_ := Aside0.mk (hbox); have n2_ := Aside0.mk ((by rw [hg]; exact (below_size (hO HB)) : w.heap.size ≤ gb636)); have n3_ := Aside0.mk ((by rw [hg]; exact (below_size (hO HB)) : w.heap.size ≤ gb636)); clear HB; have HB := n0_; have BK636 := n1_; have GW636 := n2_; have GE636 := n3_; clear n0_ n1_ n2_ n3_; clear hb hbox hg) | ((with_reducible refine gate_dst (N := 12) rfl ?_); refine box_event rfl (N := 12) rfl (cs := #[.int .i64 0, .int .i64 0, .int .i64 0]) (t := 94) (by first | (go_simp; done) | (go_simp; rfl)) ?_; intro gb637 hg w29 hbox hb; have n0_ := Aside0.mk (blk_below (g := gb636) (o := .cells #[.int .i64 0, .int .i64 0, .int .i64 0] 94 (0, 0)) (bO BK636) hb); have n1_ := mSx HB hb; have n2_ := Aside0.mk (hbox); have n3_ := Aside0.mk ((by rw [hg]; exact (below_size (hO HB)) : w.heap.size ≤ gb637)); have n4_ := Aside0.mk ((by rw [hg]; exact (below_size (hO HB)) : w.heap.size ≤ gb637)); have n5_ := Aside0.mk ((by rw [hg]; exact Nat.ne_of_lt (blk_lt (g := gb636) (o := .cells #[.int .i64 0, .int .i64 0, .int .i64 0] 94 (0, 0)) (bO BK636)) : gb636 ≠ gb637)); have n6_ := Aside0.mk ((by rw [hg]; exact Nat.ne_of_gt (blk_lt (g := gb636) (o := .cells #[.int .i64 0, .int .i64 0, .int .i64 0] 94 (0, 0)) (bO BK636)) : gb637 ≠ gb636)); clear BK636; clear HB; have BK636 := n0_; have HB := n1_; have BK637 := n2_; have GW637 := n3_; have GE637 := n4_; have NB636_637 := n5_; have NB637_636 := n6_; clear n0_ n1_ n2_ n3_ n4_ n5_ n6_; clear hb hbox hg; have hnb30 := NB636_637.out; have hnc30 := NB637_636.out; have hcz31_0 : w29.cell? ⟨gb636, 0, none⟩ = some (.int .i64 0) := (blk_cell BK636.out 0).trans rfl; have hcz31_1 : w29.cell? ⟨gb636, 1, none⟩ = some (.int .i64 0) := (blk_cell BK636.out 1).trans rfl; have hcz31_2 : w29.cell? ⟨gb636, 2, none⟩ = some (.int .i64 0) := (blk_cell BK636.out 2).trans rfl; have hfz31_0 := blk_frozen BK636.out 0; have hfz31_1 := blk_frozen BK636.out 1; have hfz31_2 := blk_frozen BK636.out 2; have hcz32_0 : w29.cell? ⟨gb637, 0, none⟩ = some (.int .i64 0) := (blk_cell BK637.out 0).trans rfl; have hcz32_1 : w29.cell? ⟨gb637, 1, none⟩ = some (.int .i64 0) := (blk_cell BK637.out 1).trans rfl; have hcz32_2 : w29.cell? ⟨gb637, 2, none⟩ = some (.int .i64 0) := (blk_cell BK637.out 2).trans rfl; have hfz32_0 := blk_frozen BK637.out 0; have hfz32_1 := blk_frozen BK637.out 1; have hfz32_2 := blk_frozen BK637.out 2) | ((with_reducible refine gate_callee (f := 76) rfl ?_); refine goesL_ (some 83) rfl rfl Tryd.func76 (by kernel_rfl) rfl #[.int .i64 t630, .int .i64 t635] rfl (mA2 rfl rfl) ?_; (with_reducible refine (dancestudioref01_order.calls t630 t635 t639 _ A25.out).mono ?_); rintro e w' ⟨rfl, ⟨nd, rfl⟩⟩; refine ⟨_, rfl, ?_⟩))
       go_ret2
       exact ⟨rfl, hO HB⟩
      ·
       rw [if_neg c24] at H
       have c24b0 := beq_eq_false_iff_ne.mpr c24
       have c24b1 := bne_iff_ne.mpr c24
       replace H := Option.bind_eq_some_iff.mp H
       obtain ⟨t640, A330, H⟩ := H
       replace H : (some (wrap64 (t622 * t640), 0)) = some (r1, r2) := H
       have A33 := Aside0.mk A330
       clear A330
       simp only [Option.some.injEq, Prod.mk.injEq] at H
       obtain ⟨rfl, rfl⟩ := H
       go_wp2_with (first | ((with_reducible refine gate_callee (f := 75) rfl ?_); refine goesL_ (some 33) rfl rfl Tryd.func75 (by kernel_rfl) rfl #[.int .i64 a0, .int .i64 a1] rfl (mA2 rfl rfl) ?_; (with_reducible refine (dancestudioref01_sign.calls a0 a1 t622 _ A14.out).mono ?_); rintro e w' ⟨rfl, ⟨nd, rfl⟩⟩; refine ⟨_, rfl, ?_⟩; (try (rw [drewN_self wc]; generalize hq_ : World.drewN wc _ = wc; have n0_ : Aside0 (Below w.heap.size w wc) := ⟨by rw [← hq_]; exact (hO HB)⟩; clear HB hq_; have HB := n0_; clear n0_))) | ((with_reducible refine gate_callee (f := 75) rfl ?_); refine goesL_ (some 37) rfl rfl Tryd.func75 (by kernel_rfl) rfl #[.int .i64 a2, .int .i64 a3] rfl (mA2 rfl rfl) ?_; (with_reducible refine (dancestudioref01_sign.calls a2 a3 t623 _ A15.out).mono ?_); rintro e w' ⟨rfl, ⟨nd, rfl⟩⟩; refine ⟨_, rfl, ?_⟩; (try (rw [drewN_self wc]; generalize hq_ : World.drewN wc _ = wc; have n0_ : Aside0 (Below w.heap.size w wc) := ⟨by rw [← hq_]; exact (hO HB)⟩; clear HB hq_; have HB := n0_; clear n0_))) | ((with_reducible refine gate_callee (f := 78) rfl ?_); refine goesL_ (some 45) rfl rfl Tryd.func78 (by kernel_rfl) rfl #[.int .i64 a0] rfl (mA1 rfl) ?_; (with_reducible refine (dancestudioref01_size.calls a0 t626 _ A17.out).mono ?_); rintro e w' ⟨rfl, ⟨nd, rfl⟩⟩; refine ⟨_, rfl, ?_⟩; (try (rw [drewN_self wc]; generalize hq_ : World.drewN wc _ = wc; have n0_ : Aside0 (Below w.heap.size w wc) := ⟨by rw [← hq_]; exact (hO HB)⟩; clear HB hq_; have HB := n0_; clear n0_))) | ((with_reducible refine gate_callee (f := 78) rfl ?_); refine goesL_ (some 47) rfl rfl Tryd.func78 (by kernel_rfl) rfl #[.int .i64 a1] rfl (mA1 rfl) ?_; (with_reducible refine (dancestudioref01_size.calls a1 t627 _ A18.out).mono ?_); rintro e w' ⟨rfl, ⟨nd, rfl⟩⟩; refine ⟨_, rfl, ?_⟩; (try (rw [drewN_self wc]; generalize hq_ : World.drewN wc _ = wc; have n0_ : Aside0 (Below w.heap.size w wc) := ⟨by rw [← hq_]; exact (hO HB)⟩; clear HB hq_; have HB := n0_; clear n0_))) | ((with_reducible refine gate_callee (f := 77) rfl ?_); refine goesL_ (some 48) rfl rfl Tryd.func77 (by kernel_rfl) rfl #[.int .i64 t626, .int .i64 t627] rfl (mA2 rfl rfl) ?_; (with_reducible refine (dancestudioref01_wide.calls t626 t627 t628 t629 t630 _ A19.out).mono ?_); rintro e w34 ⟨rfl, hb⟩; refine ⟨_, rfl, ?_⟩; have n0_ := mSx HB hb; clear HB; have HB := n0_; clear n0_; (try clear hb); (try clear hb2); (try clear hk); (try clear hi)) | ((with_reducible refine gate_callee (f := 78) rfl ?_); refine goesL_ (some 50) rfl rfl Tryd.func78 (by kernel_rfl) rfl #[.int .i64 a2] rfl (mA1 rfl) ?_; (with_reducible refine (dancestudioref01_size.calls a2 t631 _ A20.out).mono ?_); rintro e w' ⟨rfl, ⟨nd, rfl⟩⟩; refine ⟨_, rfl, ?_⟩; (try (rw [drewN_self w34]; generalize hq_ : World.drewN w34 _ = w34; have n0_ : Aside0 (Below w.heap.size w w34) := ⟨by rw [← hq_]; exact (hO HB)⟩; clear HB hq_; have HB := n0_; clear n0_))) | ((with_reducible refine gate_callee (f := 78) rfl ?_); refine goesL_ (some 52) rfl rfl Tryd.func78 (by kernel_rfl) rfl #[.int .i64 a3] rfl (mA1 rfl) ?_; (with_reducible refine (dancestudioref01_size.calls a3 t632 _ A21.out).mono ?_); rintro e w' ⟨rfl, ⟨nd, rfl⟩⟩; refine ⟨_, rfl, ?_⟩; (try (rw [drewN_self w34]; generalize hq_ : World.drewN w34 _ = w34; have n0_ : Aside0 (Below w.heap.size w w34) := ⟨by rw [← hq_]; exact (hO HB)⟩; clear HB hq_; have HB := n0_; clear n0_))) | ((with_reducible refine gate_callee (f := 77) rfl ?_); refine goesL_ (some 53) rfl rfl Tryd.func77 (by kernel_rfl) rfl #[.int .i64 t631, .int .i64 t632] rfl (mA2 rfl rfl) ?_; (with_reducible refine (dancestudioref01_wide.calls t631 t632 t633 t634 t635 _ A22.out).mono ?_); rintro e w35 ⟨rfl, hb⟩; refine ⟨_, rfl, ?_⟩; have n0_ := mSx HB hb; clear HB; have HB := n0_; clear n0_; (try clear hb); (try clear hb2); (try clear hk); (try clear hi)) | ((with_reducible refine gate_dst (N := 11) rfl ?_); refine box_event rfl (N := 11) rfl (cs := #[.int .i64 0, .int .i64 0, .int .i64 0]) (t := 94) (by first | (go_simp; done) | (go_simp; rfl)) ?_; intro gb636 hg w36 hbox hb; have n0_ := mSx HB hb; have n1_ := Aside0.mk (hbox); have n2_ := Aside0.mk ((by rw [hg]; exact (below_size (hO HB)) : w.heap.size ≤ gb636)); have n3_ := Aside0.mk ((by rw [hg]; exact (below_size (hO HB)) : w.heap.size ≤ gb636)); clear HB; have HB := n0_; have BK636 := n1_; have GW636 := n2_; have GE636 := n3_; clear n0_ n1_ n2_ n3_; clear hb hbox hg) | ((with_reducible refine gate_dst (N := 12) rfl ?_); refine box_event rfl (N := 12) rfl (cs := #[.int .i64 0, .int .i64 0, .int .i64 0]) (t := 94) (by first | (go_simp; done) | (go_simp; rfl)) ?_; intro gb637 hg w37 hbox hb; have n0_ := Aside0.mk (blk_below (g := gb636) (o := .cells #[.int .i64 0, .int .i64 0, .int .i64 0] 94 (0, 0)) (bO BK636) hb); have n1_ := mSx HB hb; have n2_ := Aside0.mk (hbox); have n3_ := Aside0.mk ((by rw [hg]; exact (below_size (hO HB)) : w.heap.size ≤ gb637)); have n4_ := Aside0.mk ((by rw [hg]; exact (below_size (hO HB)) : w.heap.size ≤ gb637)); have n5_ := Aside0.mk ((by rw [hg]; exact Nat.ne_of_lt (blk_lt (g := gb636) (o := .cells #[.int .i64 0, .int .i64 0, .int .i64 0] 94 (0, 0)) (bO BK636)) : gb636 ≠ gb637)); have n6_ := Aside0.mk ((by rw [hg]; exact Nat.ne_of_gt (blk_lt (g := gb636) (o := .cells #[.int .i64 0, .int .i64 0, .int .i64 0] 94 (0, 0)) (bO BK636)) : gb637 ≠ gb636)); clear BK636; clear HB; have BK636 := n0_; have HB := n1_; have BK637 := n2_; have GW637 := n3_; have GE637 := n4_; have NB636_637 := n5_; have NB637_636 := n6_; clear n0_ n1_ n2_ n3_ n4_ n5_ n6_; clear hb hbox hg; have hnb38 := NB636_637.out; have hnc38 := NB637_636.out; have hcz39_0 : w37.cell? ⟨gb636, 0, none⟩ = some (.int .i64 0) := (blk_cell BK636.out 0).trans rfl; have hcz39_1 : w37.cell? ⟨gb636, 1, none⟩ = some (.int .i64 0) := (blk_cell BK636.out 1).trans rfl; have hcz39_2 : w37.cell? ⟨gb636, 2, none⟩ = some (.int .i64 0) := (blk_cell BK636.out 2).trans rfl; have hfz39_0 := blk_frozen BK636.out 0; have hfz39_1 := blk_frozen BK636.out 1; have hfz39_2 := blk_frozen BK636.out 2; have hcz40_0 : w37.cell? ⟨gb637, 0, none⟩ = some (.int .i64 0) := (blk_cell BK637.out 0).trans rfl; have hcz40_1 : w37.cell? ⟨gb637, 1, none⟩ = some (.int .i64 0) := (blk_cell BK637.out 1).trans rfl; have hcz40_2 : w37.cell? ⟨gb637, 2, none⟩ = some (.int .i64 0) := (blk_cell BK637.out 2).trans rfl; have hfz40_0 := blk_frozen BK637.out 0; have hfz40_1 := blk_frozen BK637.out 1; have hfz40_2 := blk_frozen BK637.out 2) | ((with_reducible refine gate_callee (f := 76) rfl ?_); refine goesL_ (some 76) rfl rfl Tryd.func76 (by kernel_rfl) rfl #[.int .i64 t629, .int .i64 t634] rfl (mA2 rfl rfl) ?_; (with_reducible refine (dancestudioref01_order.calls t629 t634 t640 _ A33.out).mono ?_); rintro e w' ⟨rfl, ⟨nd, rfl⟩⟩; refine ⟨_, rfl, ?_⟩))
       go_ret2
       exact ⟨rfl, hO HB⟩
     ·
      rw [if_neg c23] at H
      have c23b0 := beq_eq_false_iff_ne.mpr c23
      have c23b1 := bne_iff_ne.mpr c23
      replace H := Option.bind_eq_some_iff.mp H
      obtain ⟨t638, A410, H⟩ := H
      replace H : (some (wrap64 (t622 * t638), 0)) = some (r1, r2) := H
      have A41 := Aside0.mk A410
      clear A410
      simp only [Option.some.injEq, Prod.mk.injEq] at H
      obtain ⟨rfl, rfl⟩ := H
      go_wp2_with (first | ((with_reducible refine gate_callee (f := 75) rfl ?_); refine goesL_ (some 33) rfl rfl Tryd.func75 (by kernel_rfl) rfl #[.int .i64 a0, .int .i64 a1] rfl (mA2 rfl rfl) ?_; (with_reducible refine (dancestudioref01_sign.calls a0 a1 t622 _ A14.out).mono ?_); rintro e w' ⟨rfl, ⟨nd, rfl⟩⟩; refine ⟨_, rfl, ?_⟩; (try (rw [drewN_self wc]; generalize hq_ : World.drewN wc _ = wc; have n0_ : Aside0 (Below w.heap.size w wc) := ⟨by rw [← hq_]; exact (hO HB)⟩; clear HB hq_; have HB := n0_; clear n0_))) | ((with_reducible refine gate_callee (f := 75) rfl ?_); refine goesL_ (some 37) rfl rfl Tryd.func75 (by kernel_rfl) rfl #[.int .i64 a2, .int .i64 a3] rfl (mA2 rfl rfl) ?_; (with_reducible refine (dancestudioref01_sign.calls a2 a3 t623 _ A15.out).mono ?_); rintro e w' ⟨rfl, ⟨nd, rfl⟩⟩; refine ⟨_, rfl, ?_⟩; (try (rw [drewN_self wc]; generalize hq_ : World.drewN wc _ = wc; have n0_ : Aside0 (Below w.heap.size w wc) := ⟨by rw [← hq_]; exact (hO HB)⟩; clear HB hq_; have HB := n0_; clear n0_))) | ((with_reducible refine gate_callee (f := 78) rfl ?_); refine goesL_ (some 45) rfl rfl Tryd.func78 (by kernel_rfl) rfl #[.int .i64 a0] rfl (mA1 rfl) ?_; (with_reducible refine (dancestudioref01_size.calls a0 t626 _ A17.out).mono ?_); rintro e w' ⟨rfl, ⟨nd, rfl⟩⟩; refine ⟨_, rfl, ?_⟩; (try (rw [drewN_self wc]; generalize hq_ : World.drewN wc _ = wc; have n0_ : Aside0 (Below w.heap.size w wc) := ⟨by rw [← hq_]; exact (hO HB)⟩; clear HB hq_; have HB := n0_; clear n0_))) | ((with_reducible refine gate_callee (f := 78) rfl ?_); refine goesL_ (some 47) rfl rfl Tryd.func78 (by kernel_rfl) rfl #[.int .i64 a1] rfl (mA1 rfl) ?_; (with_reducible refine (dancestudioref01_size.calls a1 t627 _ A18.out).mono ?_); rintro e w' ⟨rfl, ⟨nd, rfl⟩⟩; refine ⟨_, rfl, ?_⟩; (try (rw [drewN_self wc]; generalize hq_ : World.drewN wc _ = wc; have n0_ : Aside0 (Below w.heap.size w wc) := ⟨by rw [← hq_]; exact (hO HB)⟩; clear HB hq_; have HB := n0_; clear n0_))) | ((with_reducible refine gate_callee (f := 77) rfl ?_); refine goesL_ (some 48) rfl rfl Tryd.func77 (by kernel_rfl) rfl #[.int .i64 t626, .int .i64 t627] rfl (mA2 rfl rfl) ?_; (with_reducible refine (dancestudioref01_wide.calls t626 t627 t628 t629 t630 _ A19.out).mono ?_); rintro e w42 ⟨rfl, hb⟩; refine ⟨_, rfl, ?_⟩; have n0_ := mSx HB hb; clear HB; have HB := n0_; clear n0_; (try clear hb); (try clear hb2); (try clear hk); (try clear hi)) | ((with_reducible refine gate_callee (f := 78) rfl ?_); refine goesL_ (some 50) rfl rfl Tryd.func78 (by kernel_rfl) rfl #[.int .i64 a2] rfl (mA1 rfl) ?_; (with_reducible refine (dancestudioref01_size.calls a2 t631 _ A20.out).mono ?_); rintro e w' ⟨rfl, ⟨nd, rfl⟩⟩; refine ⟨_, rfl, ?_⟩; (try (rw [drewN_self w42]; generalize hq_ : World.drewN w42 _ = w42; have n0_ : Aside0 (Below w.heap.size w w42) := ⟨by rw [← hq_]; exact (hO HB)⟩; clear HB hq_; have HB := n0_; clear n0_))) | ((with_reducible refine gate_callee (f := 78) rfl ?_); refine goesL_ (some 52) rfl rfl Tryd.func78 (by kernel_rfl) rfl #[.int .i64 a3] rfl (mA1 rfl) ?_; (with_reducible refine (dancestudioref01_size.calls a3 t632 _ A21.out).mono ?_); rintro e w' ⟨rfl, ⟨nd, rfl⟩⟩; refine ⟨_, rfl, ?_⟩; (try (rw [drewN_self w42]; generalize hq_ : World.drewN w42 _ = w42; have n0_ : Aside0 (Below w.heap.size w w42) := ⟨by rw [← hq_]; exact (hO HB)⟩; clear HB hq_; have HB := n0_; clear n0_))) | ((with_reducible refine gate_callee (f := 77) rfl ?_); refine goesL_ (some 53) rfl rfl Tryd.func77 (by kernel_rfl) rfl #[.int .i64 t631, .int .i64 t632] rfl (mA2 rfl rfl) ?_; (with_reducible refine (dancestudioref01_wide.calls t631 t632 t633 t634 t635 _ A22.out).mono ?_); rintro e w43 ⟨rfl, hb⟩; refine ⟨_, rfl, ?_⟩; have n0_ := mSx HB hb; clear HB; have HB := n0_; clear n0_; (try clear hb); (try clear hb2); (try clear hk); (try clear hi)) | ((with_reducible refine gate_dst (N := 11) rfl ?_); refine box_event rfl (N := 11) rfl (cs := #[.int .i64 0, .int .i64 0, .int .i64 0]) (t := 94) (by first | (go_simp; done) | (go_simp; rfl)) ?_; intro gb636 hg w44 hbox hb; have n0_ := mSx HB hb; have n1_ := Aside0.mk (hbox); have n2_ := Aside0.mk ((by rw [hg]; exact (below_size (hO HB)) : w.heap.size ≤ gb636)); have n3_ := Aside0.mk ((by rw [hg]; exact (below_size (hO HB)) : w.heap.size ≤ gb636)); clear HB; have HB := n0_; have BK636 := n1_; have GW636 := n2_; have GE636 := n3_; clear n0_ n1_ n2_ n3_; clear hb hbox hg) | ((with_reducible refine gate_dst (N := 12) rfl ?_); refine box_event rfl (N := 12) rfl (cs := #[.int .i64 0, .int .i64 0, .int .i64 0]) (t := 94) (by first | (go_simp; done) | (go_simp; rfl)) ?_; intro gb637 hg w45 hbox hb; have n0_ := Aside0.mk (blk_below (g := gb636) (o := .cells #[.int .i64 0, .int .i64 0, .int .i64 0] 94 (0, 0)) (bO BK636) hb); have n1_ := mSx HB hb; have n2_ := Aside0.mk (hbox); have n3_ := Aside0.mk ((by rw [hg]; exact (below_size (hO HB)) : w.heap.size ≤ gb637)); have n4_ := Aside0.mk ((by rw [hg]; exact (below_size (hO HB)) : w.heap.size ≤ gb637)); have n5_ := Aside0.mk ((by rw [hg]; exact Nat.ne_of_lt (blk_lt (g := gb636) (o := .cells #[.int .i64 0, .int .i64 0, .int .i64 0] 94 (0, 0)) (bO BK636)) : gb636 ≠ gb637)); have n6_ := Aside0.mk ((by rw [hg]; exact Nat.ne_of_gt (blk_lt (g := gb636) (o := .cells #[.int .i64 0, .int .i64 0, .int .i64 0] 94 (0, 0)) (bO BK636)) : gb637 ≠ gb636)); clear BK636; clear HB; have BK636 := n0_; have HB := n1_; have BK637 := n2_; have GW637 := n3_; have GE637 := n4_; have NB636_637 := n5_; have NB637_636 := n6_; clear n0_ n1_ n2_ n3_ n4_ n5_ n6_; clear hb hbox hg; have hnb46 := NB636_637.out; have hnc46 := NB637_636.out; have hcz47_0 : w45.cell? ⟨gb636, 0, none⟩ = some (.int .i64 0) := (blk_cell BK636.out 0).trans rfl; have hcz47_1 : w45.cell? ⟨gb636, 1, none⟩ = some (.int .i64 0) := (blk_cell BK636.out 1).trans rfl; have hcz47_2 : w45.cell? ⟨gb636, 2, none⟩ = some (.int .i64 0) := (blk_cell BK636.out 2).trans rfl; have hfz47_0 := blk_frozen BK636.out 0; have hfz47_1 := blk_frozen BK636.out 1; have hfz47_2 := blk_frozen BK636.out 2; have hcz48_0 : w45.cell? ⟨gb637, 0, none⟩ = some (.int .i64 0) := (blk_cell BK637.out 0).trans rfl; have hcz48_1 : w45.cell? ⟨gb637, 1, none⟩ = some (.int .i64 0) := (blk_cell BK637.out 1).trans rfl; have hcz48_2 : w45.cell? ⟨gb637, 2, none⟩ = some (.int .i64 0) := (blk_cell BK637.out 2).trans rfl; have hfz48_0 := blk_frozen BK637.out 0; have hfz48_1 := blk_frozen BK637.out 1; have hfz48_2 := blk_frozen BK637.out 2) | ((with_reducible refine gate_callee (f := 76) rfl ?_); refine goesL_ (some 64) rfl rfl Tryd.func76 (by kernel_rfl) rfl #[.int .i64 t628, .int .i64 t633] rfl (mA2 rfl rfl) ?_; (with_reducible refine (dancestudioref01_order.calls t628 t633 t638 _ A41.out).mono ?_); rintro e w' ⟨rfl, ⟨nd, rfl⟩⟩; refine ⟨_, rfl, ?_⟩))
      go_ret2
      exact ⟨rfl, hO HB⟩
    ·
     rw [if_neg c16] at H
     have c16b0 := beq_eq_false_iff_ne.mpr c16
     have c16b1 := bne_iff_ne.mpr c16
     replace H := Option.bind_eq_some_iff.mp H
     obtain ⟨t624, A490, H⟩ := H
     replace H : ((dancestudioref01_order.f t622 t624).bind fun t625 => (some (t625, 0))) = some (r1, r2) := H
     have A49 := Aside0.mk A490
     clear A490
     replace H := Option.bind_eq_some_iff.mp H
     obtain ⟨t625, A500, H⟩ := H
     replace H : (some (t625, 0)) = some (r1, r2) := H
     have A50 := Aside0.mk A500
     clear A500
     simp only [Option.some.injEq, Prod.mk.injEq] at H
     obtain ⟨rfl, rfl⟩ := H
     go_wp2_with (first | ((with_reducible refine gate_callee (f := 75) rfl ?_); refine goesL_ (some 33) rfl rfl Tryd.func75 (by kernel_rfl) rfl #[.int .i64 a0, .int .i64 a1] rfl (mA2 rfl rfl) ?_; (with_reducible refine (dancestudioref01_sign.calls a0 a1 t622 _ A14.out).mono ?_); rintro e w' ⟨rfl, ⟨nd, rfl⟩⟩; refine ⟨_, rfl, ?_⟩) | ((with_reducible refine gate_callee (f := 75) rfl ?_); refine goesL_ (some 37) rfl rfl Tryd.func75 (by kernel_rfl) rfl #[.int .i64 a2, .int .i64 a3] rfl (mA2 rfl rfl) ?_; (with_reducible refine (dancestudioref01_sign.calls a2 a3 t623 _ A15.out).mono ?_); rintro e w' ⟨rfl, ⟨nd, rfl⟩⟩; refine ⟨_, rfl, ?_⟩) | ((with_reducible refine gate_callee (f := 75) rfl ?_); refine goesL_ (some 42) rfl rfl Tryd.func75 (by kernel_rfl) rfl #[.int .i64 a2, .int .i64 a3] rfl (mA2 rfl rfl) ?_; (with_reducible refine (dancestudioref01_sign.calls a2 a3 t624 _ A49.out).mono ?_); rintro e w' ⟨rfl, ⟨nd, rfl⟩⟩; refine ⟨_, rfl, ?_⟩) | ((with_reducible refine gate_callee (f := 76) rfl ?_); refine goesL_ (some 43) rfl rfl Tryd.func76 (by kernel_rfl) rfl #[.int .i64 t622, .int .i64 t624] rfl (mA2 rfl rfl) ?_; (with_reducible refine (dancestudioref01_order.calls t622 t624 t625 _ A50.out).mono ?_); rintro e w' ⟨rfl, ⟨nd, rfl⟩⟩; refine ⟨_, rfl, ?_⟩))
     go_ret2
     exact ⟨rfl, hO HB⟩
mutual
def dancestudioref03_Touch.j0 : Nat → Bool → Int → Int → Int → Int → Int → Int → Int → Int → Int → Int → Option (Bool × Int)
 | 0, _, _, _, _, _, _, _, _, _, _, _ => none
 | k + 1, x22, x642000, x642001, x642002, x642003, x642004, x643000, x643001, x643002, x643003, x643004 => if x22 = true then (some (false, 1)) else ((dancestudioref03_square.f x642000 x642001 x643000 x643001).bind fun t645 => (if t645 < (wrap64 ((wrap64 (x642004 + x643004)) * (wrap64 (x642004 + x643004)))) then (dancestudioref03_Touch.j1 k (wrap64 (x642004 + x643004)) (wrap64 (x642000 - x643000)) (wrap64 (x642001 - x643001)) (wrap64 ((wrap64 (x642002 - x643002)) - (wrap64 (x642000 - x643000)))) (wrap64 ((wrap64 (x642003 - x643003)) - (wrap64 (x642001 - x643001)))) true) else ((dancestudioref03_square.f x642002 x642003 x643002 x643003).bind fun t646 => (dancestudioref03_Touch.j1 k (wrap64 (x642004 + x643004)) (wrap64 (x642000 - x643000)) (wrap64 (x642001 - x643001)) (wrap64 ((wrap64 (x642002 - x643002)) - (wrap64 (x642000 - x643000)))) (wrap64 ((wrap64 (x642003 - x643003)) - (wrap64 (x642001 - x643001)))) (decide (t646 < (wrap64 ((wrap64 (x642004 + x643004)) * (wrap64 (x642004 + x643004))))))))))
def dancestudioref03_Touch.j1 : Nat → Int → Int → Int → Int → Int → Bool → Option (Bool × Int)
 | 0, _, _, _, _, _, _ => none
 | k + 1, x6, x7, x8, x9, x10, x79 => if x79 = true then (some (true, 0)) else (if (wrap64 (-(wrap64 ((wrap64 (x7 * x9)) + (wrap64 (x8 * x10)))))) ≤ 0 then (some (false, 0)) else (if (wrap64 (-(wrap64 ((wrap64 (x7 * x9)) + (wrap64 (x8 * x10)))))) ≥ (wrap64 ((wrap64 (x9 * x9)) + (wrap64 (x10 * x10)))) then (some (false, 0)) else ((dancestudioref01_Compare.f k (wrap64 ((wrap64 (x7 * x10)) - (wrap64 (x8 * x9)))) (wrap64 ((wrap64 (x7 * x10)) - (wrap64 (x8 * x9)))) (wrap64 (x6 * x6)) (wrap64 ((wrap64 (x9 * x9)) + (wrap64 (x10 * x10))))).bind fun bt647 => (some (decide (bt647.1 < 0), 0)))))
end
def dancestudioref03_Touch.f (k : Nat) (a0_0 : Int) (a0_1 : Int) (a0_2 : Int) (a0_3 : Int) (a0_4 : Int) (a1_0 : Int) (a1_1 : Int) (a1_2 : Int) (a1_3 : Int) (a1_4 : Int) : Option (Bool × Int) := (dancestudioref03_motion.f a0_0 a0_1 a0_2 a0_3 a0_4).bind fun t643 => (if t643 = true then ((dancestudioref03_motion.f a1_0 a1_1 a1_2 a1_3 a1_4).bind fun t644 => (dancestudioref03_Touch.j0 k (!t644) a0_0 a0_1 a0_2 a0_3 a0_4 a1_0 a1_1 a1_2 a1_3 a1_4)) else (dancestudioref03_Touch.j0 k true a0_0 a0_1 a0_2 a0_3 a0_4 a1_0 a1_1 a1_2 a1_3 a1_4))
set_option maxHeartbeats 8000000 in
set_option maxRecDepth 100000 in
theorem dancestudioref03_Touch.calls (k : Nat) (a0_0 : Int) (a0_1 : Int) (a0_2 : Int) (a0_3 : Int) (a0_4 : Int) (a1_0 : Int) (a1_1 : Int) (a1_2 : Int) (a1_3 : Int) (a1_4 : Int) (r1 : Bool) (r2 : Int) (w : World) (h : dancestudioref03_Touch.f k a0_0 a0_1 a0_2 a0_3 a0_4 a1_0 a1_1 a1_2 a1_3 a1_4 = some (r1, r2)) :
  Calls Tryd.prog 40 #[.agg #[.int .i64 a0_0, .int .i64 a0_1, .int .i64 a0_2, .int .i64 a0_3, .int .i64 a0_4], .agg #[.int .i64 a1_0, .int .i64 a1_1, .int .i64 a1_2, .int .i64 a1_3, .int .i64 a1_4]] w fun e w' => e = .returned (.tuple #[.bool r1, .int .i64 r2]) ∧ Below w.heap.size w w' := by
 have hu55 := Tryd.underlying55
 have hu52 := Tryd.underlying52
 have HB := Aside0.mk (Below.refl w.heap.size w)
 have H := h
 unfold dancestudioref03_Touch.f at H
 clear h
 have HC3 := Aside0.mk H
 clear H
 go_enter Tryd.func40, Tryd.ntmps40
 go_upto_region 1 with (first | ((with_reducible refine gate_dst (N := 2) rfl ?_); refine box_event rfl (N := 2) rfl (cs := #[.int .i64 a0_0, .int .i64 a0_1, .int .i64 a0_2, .int .i64 a0_3, .int .i64 a0_4]) (t := 55) (by first | (go_simp; done) | (go_simp; rfl)) ?_; intro gb1 hg w4 hbox hb; have BK1 := Aside0.mk hbox; have GW1 := mGw HB hg; have GE1 := GW1; replace HB := mSt HB hb; clear hb hbox hg) | ((with_reducible refine gate_dst (N := 3) rfl ?_); refine box_event rfl (N := 3) rfl (cs := #[.int .i64 a1_0, .int .i64 a1_1, .int .i64 a1_2, .int .i64 a1_3, .int .i64 a1_4]) (t := 55) (by first | (go_simp; done) | (go_simp; rfl)) ?_; intro gb2 hg w5 hbox hb; have BK2 := Aside0.mk hbox; have GW2 := mGw HB hg; have GE2 := GW2; replace HB := mSt HB hb; have NB1_2 := mNe BK1 hg; have NB2_1 := mSy NB1_2; replace BK1 := mBb BK1 hb; clear hb hbox hg))
 skip
 (try simp only [Act.put, List.setIfInBounds_toArray, List.set_cons_zero, List.set_cons_succ])
 go_cut [22] (fun v22 wc => ∃ (kq : Nat) (x22_2 : Bool), v22 = .bool x22_2 ∧ Aside0 (dancestudioref03_Touch.j0 kq x22_2 a0_0 a0_1 a0_2 a0_3 a0_4 a1_0 a1_1 a1_2 a1_3 a1_4 = some (r1, r2)) ∧ Aside0 (kq ≤ k) ∧ Aside0 (wc.heap[gb1]? = some (.cells #[.int .i64 a0_0, .int .i64 a0_1, .int .i64 a0_2, .int .i64 a0_3, .int .i64 a0_4] 55 (0, 0))) ∧ Aside0 (wc.heap[gb2]? = some (.cells #[.int .i64 a1_0, .int .i64 a1_1, .int .i64 a1_2, .int .i64 a1_3, .int .i64 a1_4] 55 (0, 0))) ∧ Aside0 (Below w.heap.size w wc))
 case first =>
  have H := HC3.out
  clear HC3
  replace H := Option.bind_eq_some_iff.mp H
  obtain ⟨t643, A60, H⟩ := H
  try dsimp only at H
  have A6 := Aside0.mk A60
  clear A60
  by_cases c7 : t643 = true
  rotate_left
  ·
   replace c7 := Bool.eq_false_iff.mpr c7
   subst c7
   rw [if_neg (show ¬ (false = true) by decide)] at H
   have H' := Aside0.mk H
   clear H
   have hnb14 := NB1_2.out
   have hnc14 := NB2_1.out
   have hcz15 := blk_cell BK1.out; have hfz15 := blk_frozen BK1.out
   go_wp2_with (first | (go_at_call 63; (with_reducible refine (dancestudioref03_motion.calls a0_0 a0_1 a0_2 a0_3 a0_4 false _ A6.out).mono ?_); rintro e w16 ⟨rfl, hb⟩; replace BK1 := mBb BK1 hb; replace BK2 := mBb BK2 hb; replace HB := mSt HB hb; (try clear hb)))
   repeat (go_quiet (first | (go_at_call 63; (with_reducible refine (dancestudioref03_motion.calls a0_0 a0_1 a0_2 a0_3 a0_4 false _ A6.out).mono ?_); rintro e w16 ⟨rfl, hb⟩; replace BK1 := mBb BK1 hb; replace BK2 := mBb BK2 hb; replace HB := mSt HB hb; (try clear hb))); try go_wp2_with (first | (go_at_call 63; (with_reducible refine (dancestudioref03_motion.calls a0_0 a0_1 a0_2 a0_3 a0_4 false _ A6.out).mono ?_); rintro e w16 ⟨rfl, hb⟩; replace BK1 := mBb BK1 hb; replace BK2 := mBb BK2 hb; replace HB := mSt HB hb; (try clear hb))))
   go_meet
   case rel => exact ⟨_, (true), rfl, H', ⟨by first | omega | exact Nat.le_refl _⟩, ⟨BK1.out⟩, ⟨BK2.out⟩, ⟨HB.out⟩⟩
  subst c7
  rw [if_pos rfl] at H
  replace H := Option.bind_eq_some_iff.mp H
  obtain ⟨t644, A80, H⟩ := H
  try dsimp only at H
  have A8 := Aside0.mk A80
  clear A80
  have H' := Aside0.mk H
  clear H
  have hnb9 := NB1_2.out
  have hnc9 := NB2_1.out
  have hcz10 := blk_cell BK1.out; have hfz10 := blk_frozen BK1.out
  go_wp2_with (first | (go_at_call 63; (with_reducible refine (dancestudioref03_motion.calls a0_0 a0_1 a0_2 a0_3 a0_4 true _ A6.out).mono ?_); rintro e w11 ⟨rfl, hb⟩; replace BK1 := mBb BK1 hb; replace BK2 := mBb BK2 hb; replace HB := mSt HB hb; (try clear hb); have hcz12 := blk_cell BK2.out; have hfz12 := blk_frozen BK2.out) | (go_at_call 63; (with_reducible refine (dancestudioref03_motion.calls a1_0 a1_1 a1_2 a1_3 a1_4 t644 _ A8.out).mono ?_); rintro e w13 ⟨rfl, hb⟩; replace BK1 := mBb BK1 hb; replace BK2 := mBb BK2 hb; replace HB := mSt HB hb; (try clear hb)))
  repeat (go_quiet (first | (go_at_call 63; (with_reducible refine (dancestudioref03_motion.calls a0_0 a0_1 a0_2 a0_3 a0_4 true _ A6.out).mono ?_); rintro e w11 ⟨rfl, hb⟩; replace BK1 := mBb BK1 hb; replace BK2 := mBb BK2 hb; replace HB := mSt HB hb; (try clear hb); have hcz12 := blk_cell BK2.out; have hfz12 := blk_frozen BK2.out) | (go_at_call 63; (with_reducible refine (dancestudioref03_motion.calls a1_0 a1_1 a1_2 a1_3 a1_4 t644 _ A8.out).mono ?_); rintro e w13 ⟨rfl, hb⟩; replace BK1 := mBb BK1 hb; replace BK2 := mBb BK2 hb; replace HB := mSt HB hb; (try clear hb))); try go_wp2_with (first | (go_at_call 63; (with_reducible refine (dancestudioref03_motion.calls a0_0 a0_1 a0_2 a0_3 a0_4 true _ A6.out).mono ?_); rintro e w11 ⟨rfl, hb⟩; replace BK1 := mBb BK1 hb; replace BK2 := mBb BK2 hb; replace HB := mSt HB hb; (try clear hb); have hcz12 := blk_cell BK2.out; have hfz12 := blk_frozen BK2.out) | (go_at_call 63; (with_reducible refine (dancestudioref03_motion.calls a1_0 a1_1 a1_2 a1_3 a1_4 t644 _ A8.out).mono ?_); rintro e w13 ⟨rfl, hb⟩; replace BK1 := mBb BK1 hb; replace BK2 := mBb BK2 hb; replace HB := mSt HB hb; (try clear hb))))
  go_meet
  case rel => exact ⟨_, (!t644), rfl, H', ⟨by first | omega | exact Nat.le_refl _⟩, ⟨BK1.out⟩, ⟨BK2.out⟩, ⟨HB.out⟩⟩
 case rest =>
  clear HC3; try clear c1; try clear p2; try clear c4; try clear c7; try clear c9; try clear c14; try clear hcz10_0; try clear hcz10_1; try clear hcz10_2; try clear hcz10_3; try clear hcz10_4; try clear hcz12_0; try clear hcz12_1; try clear hcz12_2; try clear hcz12_3; try clear hcz12_4; try clear hcz15_0; try clear hcz15_1; try clear hcz15_2; try clear hcz15_3; try clear hcz15_4; try clear hfz10_0; try clear hfz10_1; try clear hfz10_2; try clear hfz10_3; try clear hfz10_4; try clear hfz12_0; try clear hfz12_1; try clear hfz12_2; try clear hfz12_3; try clear hfz12_4; try clear hfz15_0; try clear hfz15_1; try clear hfz15_2; try clear hfz15_3; try clear hfz15_4
  obtain ⟨kq, x22_2, rfl, HA, HJ2, BK1, BK2, HB⟩ := hcut
  cases kq with
  | zero => exact absurd HA.out (by simp [dancestudioref03_Touch.j0])
  | succ kj2 =>
   have H := HA.out
   clear HA
   simp only [dancestudioref03_Touch.j0] at H
   by_cases c17 : x22_2 = true
   ·
    subst c17
    rw [if_pos rfl] at H
    simp only [Option.some.injEq, Prod.mk.injEq] at H
    obtain ⟨rfl, rfl⟩ := H
    go_wp2
    repeat (go_quiet (fail); try go_wp2)
    go_ret2
    exact ⟨rfl, HB.out⟩
   replace c17 := Bool.eq_false_iff.mpr c17
   subst c17
   rw [if_neg (show ¬ (false = true) by decide)] at H
   have HC18 := Aside0.mk H
   clear H
   have hnb19 := NB1_2.out
   have hnc19 := NB2_1.out
   have hcz20 := blk_cell BK1.out; have hfz20 := blk_frozen BK1.out; have hcz21 := blk_cell BK2.out; have hfz21 := blk_frozen BK2.out
   go_upto_region 6 with (fail)
   repeat (go_quiet (fail); go_upto_region 6 with (fail))
   go_cut [79] (fun v79 wc => ∃ (kq : Nat) (x79_17 : Bool), v79 = .bool x79_17 ∧ Aside0 (dancestudioref03_Touch.j1 kq (wrap64 (a0_4 + a1_4)) (wrap64 (a0_0 - a1_0)) (wrap64 (a0_1 - a1_1)) (wrap64 ((wrap64 (a0_2 - a1_2)) - (wrap64 (a0_0 - a1_0)))) (wrap64 ((wrap64 (a0_3 - a1_3)) - (wrap64 (a0_1 - a1_1)))) x79_17 = some (r1, r2)) ∧ Aside0 (kq ≤ kj2) ∧ Aside0 (wc.heap[gb1]? = some (.cells #[.int .i64 a0_0, .int .i64 a0_1, .int .i64 a0_2, .int .i64 a0_3, .int .i64 a0_4] 55 (0, 0))) ∧ Aside0 (wc.heap[gb2]? = some (.cells #[.int .i64 a1_0, .int .i64 a1_1, .int .i64 a1_2, .int .i64 a1_3, .int .i64 a1_4] 55 (0, 0))) ∧ Aside0 (Below w.heap.size w wc))
   case first =>
    have H := HC18.out
    clear HC18
    replace H := Option.bind_eq_some_iff.mp H
    obtain ⟨t645, A220, H⟩ := H
    try dsimp only at H
    have A22 := Aside0.mk A220
    clear A220
    by_cases c23 : t645 < (wrap64 ((wrap64 (a0_4 + a1_4)) * (wrap64 (a0_4 + a1_4))))
    ·
     rw [if_pos c23] at H
     have c23b0 := decide_eq_true c23
     clear c23
     (first | rw [c23b0] | (simp only [i64_w, i32_w]; rw [c23b0]) | skip)
     have H' := Aside0.mk H
     clear H
     have hnb24 := NB1_2.out
     have hnc24 := NB2_1.out
     have hcz25 := blk_cell BK1.out; have hfz25 := blk_frozen BK1.out; have hcz26 := blk_cell BK2.out; have hfz26 := blk_frozen BK2.out
     go_wp2_with (first | (go_at_call 59; (with_reducible refine (dancestudioref03_square.calls a0_0 a0_1 a1_0 a1_1 t645 _ A22.out).mono ?_); rintro e w27 ⟨rfl, hb⟩; have n0_ := Aside0.mk (blk_below (g := gb1) (o := .cells #[.int .i64 a0_0, .int .i64 a0_1, .int .i64 a0_2, .int .i64 a0_3, .int .i64 a0_4] 55 (0, 0)) (bO BK1) hb); have n1_ := Aside0.mk (blk_below (g := gb2) (o := .cells #[.int .i64 a1_0, .int .i64 a1_1, .int .i64 a1_2, .int .i64 a1_3, .int .i64 a1_4] 55 (0, 0)) (bO BK2) hb); have n2_ := mSx HB hb; clear BK1; clear BK2; clear HB; have BK1 := n0_; have BK2 := n1_; have HB := n2_; clear n0_ n1_ n2_; (try clear hb); (try clear hb2); (try clear hk); (try clear hi)))
     repeat (go_quiet (first | (go_at_call 59; (with_reducible refine (dancestudioref03_square.calls a0_0 a0_1 a1_0 a1_1 t645 _ A22.out).mono ?_); rintro e w27 ⟨rfl, hb⟩; have n0_ := Aside0.mk (blk_below (g := gb1) (o := .cells #[.int .i64 a0_0, .int .i64 a0_1, .int .i64 a0_2, .int .i64 a0_3, .int .i64 a0_4] 55 (0, 0)) (bO BK1) hb); have n1_ := Aside0.mk (blk_below (g := gb2) (o := .cells #[.int .i64 a1_0, .int .i64 a1_1, .int .i64 a1_2, .int .i64 a1_3, .int .i64 a1_4] 55 (0, 0)) (bO BK2) hb); have n2_ := mSx HB hb; clear BK1; clear BK2; clear HB; have BK1 := n0_; have BK2 := n1_; have HB := n2_; clear n0_ n1_ n2_; (try clear hb); (try clear hb2); (try clear hk); (try clear hi))); try go_wp2_with (first | (go_at_call 59; (with_reducible refine (dancestudioref03_square.calls a0_0 a0_1 a1_0 a1_1 t645 _ A22.out).mono ?_); rintro e w27 ⟨rfl, hb⟩; have n0_ := Aside0.mk (blk_below (g := gb1) (o := .cells #[.int .i64 a0_0, .int .i64 a0_1, .int .i64 a0_2, .int .i64 a0_3, .int .i64 a0_4] 55 (0, 0)) (bO BK1) hb); have n1_ := Aside0.mk (blk_below (g := gb2) (o := .cells #[.int .i64 a1_0, .int .i64 a1_1, .int .i64 a1_2, .int .i64 a1_3, .int .i64 a1_4] 55 (0, 0)) (bO BK2) hb); have n2_ := mSx HB hb; clear BK1; clear BK2; clear HB; have BK1 := n0_; have BK2 := n1_; have HB := n2_; clear n0_ n1_ n2_; (try clear hb); (try clear hb2); (try clear hk); (try clear hi))))
     go_meet
     case rel => exact ⟨_, (true), rfl, H', ⟨by have := HJ2.out; first | omega | exact Nat.le_refl _⟩, ⟨BK1.out⟩, ⟨BK2.out⟩, ⟨HB.out⟩⟩
    rw [if_neg c23] at H
    have c23b0 := decide_eq_false c23
    clear c23
    (first | rw [c23b0] | (simp only [i64_w, i32_w]; rw [c23b0]) | skip)
    replace H := Option.bind_eq_some_iff.mp H
    obtain ⟨t646, A280, H⟩ := H
    try dsimp only at H
    have A28 := Aside0.mk A280
    clear A280
    have H' := Aside0.mk H
    clear H
    have hnb29 := NB1_2.out
    have hnc29 := NB2_1.out
    have hcz30 := blk_cell BK1.out; have hfz30 := blk_frozen BK1.out; have hcz31 := blk_cell BK2.out; have hfz31 := blk_frozen BK2.out
    go_wp2_with (first | (go_at_call 59; (with_reducible refine (dancestudioref03_square.calls a0_0 a0_1 a1_0 a1_1 t645 _ A22.out).mono ?_); rintro e w32 ⟨rfl, hb⟩; have n0_ := Aside0.mk (blk_below (g := gb1) (o := .cells #[.int .i64 a0_0, .int .i64 a0_1, .int .i64 a0_2, .int .i64 a0_3, .int .i64 a0_4] 55 (0, 0)) (bO BK1) hb); have n1_ := Aside0.mk (blk_below (g := gb2) (o := .cells #[.int .i64 a1_0, .int .i64 a1_1, .int .i64 a1_2, .int .i64 a1_3, .int .i64 a1_4] 55 (0, 0)) (bO BK2) hb); have n2_ := mSx HB hb; clear BK1; clear BK2; clear HB; have BK1 := n0_; have BK2 := n1_; have HB := n2_; clear n0_ n1_ n2_; (try clear hb); (try clear hb2); (try clear hk); (try clear hi); have hcz33_0 : w32.cell? ⟨gb1, 0, none⟩ = some (.int .i64 a0_0) := (blk_cell BK1.out 0).trans rfl; have hcz33_1 : w32.cell? ⟨gb1, 1, none⟩ = some (.int .i64 a0_1) := (blk_cell BK1.out 1).trans rfl; have hcz33_2 : w32.cell? ⟨gb1, 2, none⟩ = some (.int .i64 a0_2) := (blk_cell BK1.out 2).trans rfl; have hcz33_3 : w32.cell? ⟨gb1, 3, none⟩ = some (.int .i64 a0_3) := (blk_cell BK1.out 3).trans rfl; have hcz33_4 : w32.cell? ⟨gb1, 4, none⟩ = some (.int .i64 a0_4) := (blk_cell BK1.out 4).trans rfl; have hfz33_0 := blk_frozen BK1.out 0; have hfz33_1 := blk_frozen BK1.out 1; have hfz33_2 := blk_frozen BK1.out 2; have hfz33_3 := blk_frozen BK1.out 3; have hfz33_4 := blk_frozen BK1.out 4; have hcz34_0 : w32.cell? ⟨gb2, 0, none⟩ = some (.int .i64 a1_0) := (blk_cell BK2.out 0).trans rfl; have hcz34_1 : w32.cell? ⟨gb2, 1, none⟩ = some (.int .i64 a1_1) := (blk_cell BK2.out 1).trans rfl; have hcz34_2 : w32.cell? ⟨gb2, 2, none⟩ = some (.int .i64 a1_2) := (blk_cell BK2.out 2).trans rfl; have hcz34_3 : w32.cell? ⟨gb2, 3, none⟩ = some (.int .i64 a1_3) := (blk_cell BK2.out 3).trans rfl; have hcz34_4 : w32.cell? ⟨gb2, 4, none⟩ = some (.int .i64 a1_4) := (blk_cell BK2.out 4).trans rfl; have hfz34_0 := blk_frozen BK2.out 0; have hfz34_1 := blk_frozen BK2.out 1; have hfz34_2 := blk_frozen BK2.out 2; have hfz34_3 := blk_frozen BK2.out 3; have hfz34_4 := blk_frozen BK2.out 4) | (go_at_call 59; (with_reducible refine (dancestudioref03_square.calls a0_2 a0_3 a1_2 a1_3 t646 _ A28.out).mono ?_); rintro e w35 ⟨rfl, hb⟩; have n0_ := Aside0.mk (blk_below (g := gb1) (o := .cells #[.int .i64 a0_0, .int .i64 a0_1, .int .i64 a0_2, .int .i64 a0_3, .int .i64 a0_4] 55 (0, 0)) (bO BK1) hb); have n1_ := Aside0.mk (blk_below (g := gb2) (o := .cells #[.int .i64 a1_0, .int .i64 a1_1, .int .i64 a1_2, .int .i64 a1_3, .int .i64 a1_4] 55 (0, 0)) (bO BK2) hb); have n2_ := mSx HB hb; clear BK1; clear BK2; clear HB; have BK1 := n0_; have BK2 := n1_; have HB := n2_; clear n0_ n1_ n2_; (try clear hb); (try clear hb2); (try clear hk); (try clear hi)))
    repeat (go_quiet (first | (go_at_call 59; (with_reducible refine (dancestudioref03_square.calls a0_0 a0_1 a1_0 a1_1 t645 _ A22.out).mono ?_); rintro e w32 ⟨rfl, hb⟩; have n0_ := Aside0.mk (blk_below (g := gb1) (o := .cells #[.int .i64 a0_0, .int .i64 a0_1, .int .i64 a0_2, .int .i64 a0_3, .int .i64 a0_4] 55 (0, 0)) (bO BK1) hb); have n1_ := Aside0.mk (blk_below (g := gb2) (o := .cells #[.int .i64 a1_0, .int .i64 a1_1, .int .i64 a1_2, .int .i64 a1_3, .int .i64 a1_4] 55 (0, 0)) (bO BK2) hb); have n2_ := mSx HB hb; clear BK1; clear BK2; clear HB; have BK1 := n0_; have BK2 := n1_; have HB := n2_; clear n0_ n1_ n2_; (try clear hb); (try clear hb2); (try clear hk); (try clear hi); have hcz33_0 : w32.cell? ⟨gb1, 0, none⟩ = some (.int .i64 a0_0) := (blk_cell BK1.out 0).trans rfl; have hcz33_1 : w32.cell? ⟨gb1, 1, none⟩ = some (.int .i64 a0_1) := (blk_cell BK1.out 1).trans rfl; have hcz33_2 : w32.cell? ⟨gb1, 2, none⟩ = some (.int .i64 a0_2) := (blk_cell BK1.out 2).trans rfl; have hcz33_3 : w32.cell? ⟨gb1, 3, none⟩ = some (.int .i64 a0_3) := (blk_cell BK1.out 3).trans rfl; have hcz33_4 : w32.cell? ⟨gb1, 4, none⟩ = some (.int .i64 a0_4) := (blk_cell BK1.out 4).trans rfl; have hfz33_0 := blk_frozen BK1.out 0; have hfz33_1 := blk_frozen BK1.out 1; have hfz33_2 := blk_frozen BK1.out 2; have hfz33_3 := blk_frozen BK1.out 3; have hfz33_4 := blk_frozen BK1.out 4; have hcz34_0 : w32.cell? ⟨gb2, 0, none⟩ = some (.int .i64 a1_0) := (blk_cell BK2.out 0).trans rfl; have hcz34_1 : w32.cell? ⟨gb2, 1, none⟩ = some (.int .i64 a1_1) := (blk_cell BK2.out 1).trans rfl; have hcz34_2 : w32.cell? ⟨gb2, 2, none⟩ = some (.int .i64 a1_2) := (blk_cell BK2.out 2).trans rfl; have hcz34_3 : w32.cell? ⟨gb2, 3, none⟩ = some (.int .i64 a1_3) := (blk_cell BK2.out 3).trans rfl; have hcz34_4 : w32.cell? ⟨gb2, 4, none⟩ = some (.int .i64 a1_4) := (blk_cell BK2.out 4).trans rfl; have hfz34_0 := blk_frozen BK2.out 0; have hfz34_1 := blk_frozen BK2.out 1; have hfz34_2 := blk_frozen BK2.out 2; have hfz34_3 := blk_frozen BK2.out 3; have hfz34_4 := blk_frozen BK2.out 4) | (go_at_call 59; (with_reducible refine (dancestudioref03_square.calls a0_2 a0_3 a1_2 a1_3 t646 _ A28.out).mono ?_); rintro e w35 ⟨rfl, hb⟩; have n0_ := Aside0.mk (blk_below (g := gb1) (o := .cells #[.int .i64 a0_0, .int .i64 a0_1, .int .i64 a0_2, .int .i64 a0_3, .int .i64 a0_4] 55 (0, 0)) (bO BK1) hb); have n1_ := Aside0.mk (blk_below (g := gb2) (o := .cells #[.int .i64 a1_0, .int .i64 a1_1, .int .i64 a1_2, .int .i64 a1_3, .int .i64 a1_4] 55 (0, 0)) (bO BK2) hb); have n2_ := mSx HB hb; clear BK1; clear BK2; clear HB; have BK1 := n0_; have BK2 := n1_; have HB := n2_; clear n0_ n1_ n2_; (try clear hb); (try clear hb2); (try clear hk); (try clear hi))); try go_wp2_with (first | (go_at_call 59; (with_reducible refine (dancestudioref03_square.calls a0_0 a0_1 a1_0 a1_1 t645 _ A22.out).mono ?_); rintro e w32 ⟨rfl, hb⟩; have n0_ := Aside0.mk (blk_below (g := gb1) (o := .cells #[.int .i64 a0_0, .int .i64 a0_1, .int .i64 a0_2, .int .i64 a0_3, .int .i64 a0_4] 55 (0, 0)) (bO BK1) hb); have n1_ := Aside0.mk (blk_below (g := gb2) (o := .cells #[.int .i64 a1_0, .int .i64 a1_1, .int .i64 a1_2, .int .i64 a1_3, .int .i64 a1_4] 55 (0, 0)) (bO BK2) hb); have n2_ := mSx HB hb; clear BK1; clear BK2; clear HB; have BK1 := n0_; have BK2 := n1_; have HB := n2_; clear n0_ n1_ n2_; (try clear hb); (try clear hb2); (try clear hk); (try clear hi); have hcz33_0 : w32.cell? ⟨gb1, 0, none⟩ = some (.int .i64 a0_0) := (blk_cell BK1.out 0).trans rfl; have hcz33_1 : w32.cell? ⟨gb1, 1, none⟩ = some (.int .i64 a0_1) := (blk_cell BK1.out 1).trans rfl; have hcz33_2 : w32.cell? ⟨gb1, 2, none⟩ = some (.int .i64 a0_2) := (blk_cell BK1.out 2).trans rfl; have hcz33_3 : w32.cell? ⟨gb1, 3, none⟩ = some (.int .i64 a0_3) := (blk_cell BK1.out 3).trans rfl; have hcz33_4 : w32.cell? ⟨gb1, 4, none⟩ = some (.int .i64 a0_4) := (blk_cell BK1.out 4).trans rfl; have hfz33_0 := blk_frozen BK1.out 0; have hfz33_1 := blk_frozen BK1.out 1; have hfz33_2 := blk_frozen BK1.out 2; have hfz33_3 := blk_frozen BK1.out 3; have hfz33_4 := blk_frozen BK1.out 4; have hcz34_0 : w32.cell? ⟨gb2, 0, none⟩ = some (.int .i64 a1_0) := (blk_cell BK2.out 0).trans rfl; have hcz34_1 : w32.cell? ⟨gb2, 1, none⟩ = some (.int .i64 a1_1) := (blk_cell BK2.out 1).trans rfl; have hcz34_2 : w32.cell? ⟨gb2, 2, none⟩ = some (.int .i64 a1_2) := (blk_cell BK2.out 2).trans rfl; have hcz34_3 : w32.cell? ⟨gb2, 3, none⟩ = some (.int .i64 a1_3) := (blk_cell BK2.out 3).trans rfl; have hcz34_4 : w32.cell? ⟨gb2, 4, none⟩ = some (.int .i64 a1_4) := (blk_cell BK2.out 4).trans rfl; have hfz34_0 := blk_frozen BK2.out 0; have hfz34_1 := blk_frozen BK2.out 1; have hfz34_2 := blk_frozen BK2.out 2; have hfz34_3 := blk_frozen BK2.out 3; have hfz34_4 := blk_frozen BK2.out 4) | (go_at_call 59; (with_reducible refine (dancestudioref03_square.calls a0_2 a0_3 a1_2 a1_3 t646 _ A28.out).mono ?_); rintro e w35 ⟨rfl, hb⟩; have n0_ := Aside0.mk (blk_below (g := gb1) (o := .cells #[.int .i64 a0_0, .int .i64 a0_1, .int .i64 a0_2, .int .i64 a0_3, .int .i64 a0_4] 55 (0, 0)) (bO BK1) hb); have n1_ := Aside0.mk (blk_below (g := gb2) (o := .cells #[.int .i64 a1_0, .int .i64 a1_1, .int .i64 a1_2, .int .i64 a1_3, .int .i64 a1_4] 55 (0, 0)) (bO BK2) hb); have n2_ := mSx HB hb; clear BK1; clear BK2; clear HB; have BK1 := n0_; have BK2 := n1_; have HB := n2_; clear n0_ n1_ n2_; (try clear hb); (try clear hb2); (try clear hk); (try clear hi))))
    go_meet
    case rel => exact ⟨_, (decide (t646 < (wrap64 ((wrap64 (a0_4 + a1_4)) * (wrap64 (a0_4 + a1_4)))))), rfl, H', ⟨by have := HJ2.out; first | omega | exact Nat.le_refl _⟩, ⟨BK1.out⟩, ⟨BK2.out⟩, ⟨HB.out⟩⟩
   case rest =>
    clear HC18; try clear c1; try clear c2; try clear p2; try clear c4; try clear p6; try clear c7; try clear c9; try clear c14; try clear c17; try clear c19; try clear c23; try clear c23b0; try clear c24; try clear c29; try clear hcz10_0; try clear hcz10_1; try clear hcz10_2; try clear hcz10_3; try clear hcz10_4; try clear hcz12_0; try clear hcz12_1; try clear hcz12_2; try clear hcz12_3; try clear hcz12_4; try clear hcz15_0; try clear hcz15_1; try clear hcz15_2; try clear hcz15_3; try clear hcz15_4; try clear hcz20_0; try clear hcz20_1; try clear hcz20_2; try clear hcz20_3; try clear hcz20_4; try clear hcz21_0; try clear hcz21_1; try clear hcz21_2; try clear hcz21_3; try clear hcz21_4; try clear hcz25_0; try clear hcz25_1; try clear hcz25_2; try clear hcz25_3; try clear hcz25_4; try clear hcz26_0; try clear hcz26_1; try clear hcz26_2; try clear hcz26_3; try clear hcz26_4; try clear hcz30_0; try clear hcz30_1; try clear hcz30_2; try clear hcz30_3; try clear hcz30_4; try clear hcz31_0; try clear hcz31_1; try clear hcz31_2; try clear hcz31_3; try clear hcz31_4; try clear hcz33_0; try clear hcz33_1; try clear hcz33_2; try clear hcz33_3; try clear hcz33_4; try clear hcz34_0; try clear hcz34_1; try clear hcz34_2; try clear hcz34_3; try clear hcz34_4; try clear hfz10_0; try clear hfz10_1; try clear hfz10_2; try clear hfz10_3; try clear hfz10_4; try clear hfz12_0; try clear hfz12_1; try clear hfz12_2; try clear hfz12_3; try clear hfz12_4; try clear hfz15_0; try clear hfz15_1; try clear hfz15_2; try clear hfz15_3; try clear hfz15_4; try clear hfz20_0; try clear hfz20_1; try clear hfz20_2; try clear hfz20_3; try clear hfz20_4; try clear hfz21_0; try clear hfz21_1; try clear hfz21_2; try clear hfz21_3; try clear hfz21_4; try clear hfz25_0; try clear hfz25_1; try clear hfz25_2; try clear hfz25_3; try clear hfz25_4; try clear hfz26_0; try clear hfz26_1; try clear hfz26_2; try clear hfz26_3; try clear hfz26_4; try clear hfz30_0; try clear hfz30_1; try clear hfz30_2; try clear hfz30_3; try clear hfz30_4; try clear hfz31_0; try clear hfz31_1; try clear hfz31_2; try clear hfz31_3; try clear hfz31_4; try clear hfz33_0; try clear hfz33_1; try clear hfz33_2; try clear hfz33_3; try clear hfz33_4; try clear hfz34_0; try clear hfz34_1; try clear hfz34_2; try clear hfz34_3; try clear hfz34_4
    obtain ⟨kq, x79_17, rfl, HA, HJ17, BK1, BK2, HB⟩ := hcut
    cases kq with
    | zero => exact absurd HA.out (by simp [dancestudioref03_Touch.j1])
    | succ kj17 =>
     have H := HA.out
     clear HA
     simp only [dancestudioref03_Touch.j1] at H
     by_cases c36 : x79_17 = true
     ·
      subst c36
      rw [if_pos rfl] at H
      simp only [Option.some.injEq, Prod.mk.injEq] at H
      obtain ⟨rfl, rfl⟩ := H
      go_wp2
      repeat (go_quiet (fail); try go_wp2)
      go_ret2
      exact ⟨rfl, HB.out⟩
     replace c36 := Bool.eq_false_iff.mpr c36
     subst c36
     rw [if_neg (show ¬ (false = true) by decide)] at H
     by_cases c37 : (wrap64 (-(wrap64 ((wrap64 ((wrap64 (a0_0 - a1_0)) * (wrap64 ((wrap64 (a0_2 - a1_2)) - (wrap64 (a0_0 - a1_0)))))) + (wrap64 ((wrap64 (a0_1 - a1_1)) * (wrap64 ((wrap64 (a0_3 - a1_3)) - (wrap64 (a0_1 - a1_1)))))))))) ≤ 0
     ·
      rw [if_pos c37] at H
      have c37b0 := decide_eq_true c37
      clear c37
      simp only [Option.some.injEq, Prod.mk.injEq] at H
      obtain ⟨rfl, rfl⟩ := H
      go_wp2
      repeat (go_quiet (fail); try go_wp2)
      go_ret2
      exact ⟨rfl, HB.out⟩
     rw [if_neg c37] at H
     have c37b0 := decide_eq_false c37
     clear c37
     by_cases c38 : (wrap64 (-(wrap64 ((wrap64 ((wrap64 (a0_0 - a1_0)) * (wrap64 ((wrap64 (a0_2 - a1_2)) - (wrap64 (a0_0 - a1_0)))))) + (wrap64 ((wrap64 (a0_1 - a1_1)) * (wrap64 ((wrap64 (a0_3 - a1_3)) - (wrap64 (a0_1 - a1_1)))))))))) ≥ (wrap64 ((wrap64 ((wrap64 ((wrap64 (a0_2 - a1_2)) - (wrap64 (a0_0 - a1_0)))) * (wrap64 ((wrap64 (a0_2 - a1_2)) - (wrap64 (a0_0 - a1_0)))))) + (wrap64 ((wrap64 ((wrap64 (a0_3 - a1_3)) - (wrap64 (a0_1 - a1_1)))) * (wrap64 ((wrap64 (a0_3 - a1_3)) - (wrap64 (a0_1 - a1_1))))))))
     ·
      rw [if_pos c38] at H
      have c38b0 := decide_eq_true c38
      clear c38
      simp only [Option.some.injEq, Prod.mk.injEq] at H
      obtain ⟨rfl, rfl⟩ := H
      go_wp2
      repeat (go_quiet (fail); try go_wp2)
      go_ret2
      exact ⟨rfl, HB.out⟩
     rw [if_neg c38] at H
     have c38b0 := decide_eq_false c38
     clear c38
     replace H := Option.bind_eq_some_iff.mp H
     obtain ⟨⟨t647, t648⟩, A390, H⟩ := H
     try dsimp only at H
     have A39 := Aside0.mk A390
     clear A390
     simp only [Option.some.injEq, Prod.mk.injEq] at H
     obtain ⟨rfl, rfl⟩ := H
     go_wp2_with (first | (go_at_call 64; (with_reducible refine (dancestudioref01_Compare.calls kj17 (wrap64 ((wrap64 ((wrap64 (a0_0 - a1_0)) * (wrap64 ((wrap64 (a0_3 - a1_3)) - (wrap64 (a0_1 - a1_1)))))) - (wrap64 ((wrap64 (a0_1 - a1_1)) * (wrap64 ((wrap64 (a0_2 - a1_2)) - (wrap64 (a0_0 - a1_0)))))))) (wrap64 ((wrap64 ((wrap64 (a0_0 - a1_0)) * (wrap64 ((wrap64 (a0_3 - a1_3)) - (wrap64 (a0_1 - a1_1)))))) - (wrap64 ((wrap64 (a0_1 - a1_1)) * (wrap64 ((wrap64 (a0_2 - a1_2)) - (wrap64 (a0_0 - a1_0)))))))) (wrap64 ((wrap64 (a0_4 + a1_4)) * (wrap64 (a0_4 + a1_4)))) (wrap64 ((wrap64 ((wrap64 ((wrap64 (a0_2 - a1_2)) - (wrap64 (a0_0 - a1_0)))) * (wrap64 ((wrap64 (a0_2 - a1_2)) - (wrap64 (a0_0 - a1_0)))))) + (wrap64 ((wrap64 ((wrap64 (a0_3 - a1_3)) - (wrap64 (a0_1 - a1_1)))) * (wrap64 ((wrap64 (a0_3 - a1_3)) - (wrap64 (a0_1 - a1_1)))))))) t647 t648 _ A39.out).mono ?_); rintro e w40 ⟨rfl, hb⟩; replace BK1 := mBb BK1 hb; replace BK2 := mBb BK2 hb; replace HB := mSt HB hb; (try clear hb)))
     repeat (go_quiet (first | (go_at_call 64; (with_reducible refine (dancestudioref01_Compare.calls kj17 (wrap64 ((wrap64 ((wrap64 (a0_0 - a1_0)) * (wrap64 ((wrap64 (a0_3 - a1_3)) - (wrap64 (a0_1 - a1_1)))))) - (wrap64 ((wrap64 (a0_1 - a1_1)) * (wrap64 ((wrap64 (a0_2 - a1_2)) - (wrap64 (a0_0 - a1_0)))))))) (wrap64 ((wrap64 ((wrap64 (a0_0 - a1_0)) * (wrap64 ((wrap64 (a0_3 - a1_3)) - (wrap64 (a0_1 - a1_1)))))) - (wrap64 ((wrap64 (a0_1 - a1_1)) * (wrap64 ((wrap64 (a0_2 - a1_2)) - (wrap64 (a0_0 - a1_0)))))))) (wrap64 ((wrap64 (a0_4 + a1_4)) * (wrap64 (a0_4 + a1_4)))) (wrap64 ((wrap64 ((wrap64 ((wrap64 (a0_2 - a1_2)) - (wrap64 (a0_0 - a1_0)))) * (wrap64 ((wrap64 (a0_2 - a1_2)) - (wrap64 (a0_0 - a1_0)))))) + (wrap64 ((wrap64 ((wrap64 (a0_3 - a1_3)) - (wrap64 (a0_1 - a1_1)))) * (wrap64 ((wrap64 (a0_3 - a1_3)) - (wrap64 (a0_1 - a1_1)))))))) t647 t648 _ A39.out).mono ?_); rintro e w40 ⟨rfl, hb⟩; replace BK1 := mBb BK1 hb; replace BK2 := mBb BK2 hb; replace HB := mSt HB hb; (try clear hb))); try go_wp2_with (first | (go_at_call 64; (with_reducible refine (dancestudioref01_Compare.calls kj17 (wrap64 ((wrap64 ((wrap64 (a0_0 - a1_0)) * (wrap64 ((wrap64 (a0_3 - a1_3)) - (wrap64 (a0_1 - a1_1)))))) - (wrap64 ((wrap64 (a0_1 - a1_1)) * (wrap64 ((wrap64 (a0_2 - a1_2)) - (wrap64 (a0_0 - a1_0)))))))) (wrap64 ((wrap64 ((wrap64 (a0_0 - a1_0)) * (wrap64 ((wrap64 (a0_3 - a1_3)) - (wrap64 (a0_1 - a1_1)))))) - (wrap64 ((wrap64 (a0_1 - a1_1)) * (wrap64 ((wrap64 (a0_2 - a1_2)) - (wrap64 (a0_0 - a1_0)))))))) (wrap64 ((wrap64 (a0_4 + a1_4)) * (wrap64 (a0_4 + a1_4)))) (wrap64 ((wrap64 ((wrap64 ((wrap64 (a0_2 - a1_2)) - (wrap64 (a0_0 - a1_0)))) * (wrap64 ((wrap64 (a0_2 - a1_2)) - (wrap64 (a0_0 - a1_0)))))) + (wrap64 ((wrap64 ((wrap64 (a0_3 - a1_3)) - (wrap64 (a0_1 - a1_1)))) * (wrap64 ((wrap64 (a0_3 - a1_3)) - (wrap64 (a0_1 - a1_1)))))))) t647 t648 _ A39.out).mono ?_); rintro e w40 ⟨rfl, hb⟩; replace BK1 := mBb BK1 hb; replace BK2 := mBb BK2 hb; replace HB := mSt HB hb; (try clear hb))))
     go_ret2
     exact ⟨rfl, HB.out⟩
end Go.Proofs.YtaggccbndmmbhaaDoor.PAll
