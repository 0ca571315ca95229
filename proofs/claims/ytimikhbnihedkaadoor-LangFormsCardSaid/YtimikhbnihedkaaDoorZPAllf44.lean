import Derived.Test.YtimikhbnihedkaaDoorZMC0
namespace Go.Proofs.YtimikhbnihedkaaDoor.PAll
open Go.RowKit Go.Proofs.YtimikhbnihedkaaDoorW.PrintWords Go.Proofs.YtimikhbnihedkaaDoorW.PrintLast Go.Proofs.YtimikhbnihedkaaDoorW.PrintMore
attribute [local go_sem] max2_int min2_int max_two min_two max_three min_three max_four min_four
set_option linter.unusedVariables false
set_option linter.unusedSimpArgs false

/-! ### dancestudioref35_written: function 44 -/
mutual
def dancestudioref35_written.j0 : Nat → List (S43) → ByteArray → Int → Bool → Bool → Int → Option ((List (S43)))
 | 0, _, _, _, _, _, _ => none
 | k + 1, x3, x676000, x676001, x676002, x676003, x676004 => if x676002 = true then (if x3.length < 3518437208883 then (dancestudioref35_written.j1 k (x3 ++ [(⟨3, (⟨#[]⟩ : ByteArray), 0, 1⟩ : S43)]) x676000 x676001 x676002 x676003 x676004) else (none)) else (dancestudioref35_written.j1 k x3 x676000 x676001 x676002 x676003 x676004)
def dancestudioref35_written.j1 : Nat → List (S43) → ByteArray → Int → Bool → Bool → Int → Option ((List (S43)))
 | 0, _, _, _, _, _, _ => none
 | k + 1, x3, x676000, x676001, x676002, x676003, x676004 => if x676003 = true then (if x3.length < 3518437208883 then (dancestudioref35_written.j2 k (x3 ++ [(⟨4, (⟨#[]⟩ : ByteArray), 0, 1⟩ : S43)]) x676000 x676001 x676002 x676003 x676004) else (none)) else (dancestudioref35_written.j2 k x3 x676000 x676001 x676002 x676003 x676004)
def dancestudioref35_written.j2 : Nat → List (S43) → ByteArray → Int → Bool → Bool → Int → Option ((List (S43)))
 | 0, _, _, _, _, _, _ => none
 | k + 1, x3, x676000, x676001, x676002, x676003, x676004 => dancestudioref35_written.l0 k x3 ([] : List Int) x676004 16 x676000 x676001 x676002 x676003 x676004
def dancestudioref35_written.l0 : Nat → List (S43) → List Int → Int → Int → ByteArray → Int → Bool → Bool → Int → Option ((List (S43)))
 | 0, _, _, _, _, _, _, _, _, _ => none
 | k + 1, x3, x4, x5, x6, x676000, x676001, x676002, x676003, x676004 => if x6 > 1 then (dancestudioref35_written.l1 k x3 x4 x5 x6 x676000 x676001 x676002 x676003 x676004) else (dancestudioref35_written.l2 k x3 x4 (wrap64 ((x4.length : Int) - 1)) x676000 x676001 x676002 x676003 x676004)
def dancestudioref35_written.l1 : Nat → List (S43) → List Int → Int → Int → ByteArray → Int → Bool → Bool → Int → Option ((List (S43)))
 | 0, _, _, _, _, _, _, _, _, _ => none
 | k + 1, x3, x4, x5, x6, x676000, x676001, x676002, x676003, x676004 => if x6 = 0 then (none) else (if (Int.tmod x5 x6) = 0 then (if x4.length < 17592186044416 then (dancestudioref35_written.l1 k x3 (x4 ++ [x6]) (wrap64 (Int.tdiv x5 x6)) x6 x676000 x676001 x676002 x676003 x676004) else (none)) else (dancestudioref35_written.l0 k x3 x4 x5 (wrap64 (x6 - 1)) x676000 x676001 x676002 x676003 x676004))
def dancestudioref35_written.l2 : Nat → List (S43) → List Int → Int → ByteArray → Int → Bool → Bool → Int → Option ((List (S43)))
 | 0, _, _, _, _, _, _, _, _ => none
 | k + 1, x3, x4, x7, x676000, x676001, x676002, x676003, x676004 => if x7 ≥ 0 then (if 0 ≤ x7 then (if x7 < (x4.length : Int) then (if x3.length < 3518437208883 then (dancestudioref35_written.l2 k (x3 ++ [(⟨6, (⟨#[]⟩ : ByteArray), rd x4 x7, 1⟩ : S43)]) x4 (wrap64 (x7 - 1)) x676000 x676001 x676002 x676003 x676004) else (none)) else (none)) else (none)) else (if x3.length < 3518437208883 then (some (x3 ++ [(⟨1, x676000, 0, 0⟩ : S43)])) else (none))
end
def dancestudioref35_written.f (k : Nat) (a0_0 : ByteArray) (a0_1 : Int) (a0_2 : Bool) (a0_3 : Bool) (a0_4 : Int) : Option ((List (S43))) := if a0_1 > 0 then (if ([] : List (S43)).length < 3518437208883 then (dancestudioref35_written.j0 k (([] : List (S43)) ++ [(⟨5, (⟨#[]⟩ : ByteArray), a0_1, 1⟩ : S43)]) a0_0 a0_1 a0_2 a0_3 a0_4) else (none)) else (dancestudioref35_written.j0 k ([] : List (S43)) a0_0 a0_1 a0_2 a0_3 a0_4)
set_option maxHeartbeats 8000000 in
set_option maxRecDepth 100000 in
theorem dancestudioref35_written.calls (k : Nat) (a0_0 : ByteArray) (a0_1 : Int) (a0_2 : Bool) (a0_3 : Bool) (a0_4 : Int) (r : List (S43)) (w : World) (h : dancestudioref35_written.f k a0_0 a0_1 a0_2 a0_3 a0_4 = some r) :
  Calls Tryd.prog 44 #[.agg #[.string a0_0, .int .i64 a0_1, .bool a0_2, .bool a0_3, .int .i64 a0_4]] w fun e w' => ∃ v0_ : Value, e = .returned (v0_) ∧ Kd.R k43 43 w' w.heap.size (fun _ => True) v0_ r ∧ Below w.heap.size w w' := by
 have hu72 := Tryd.underlying72
 have hu43 := Tryd.underlying43
 have HB := Aside0.mk (Below.refl w.heap.size w)
 have H := h
 unfold dancestudioref35_written.f at H
 clear h
 have HC2 := Aside0.mk H
 clear H
 go_enter Tryd.func44, Tryd.ntmps44
 go_upto_if 10 with (first | ((with_reducible refine gate_dst (N := 1) rfl ?_); refine box_event rfl (N := 1) rfl (cs := #[.string a0_0, .int .i64 a0_1, .bool a0_2, .bool a0_3, .int .i64 a0_4]) (t := 72) (by first | (go_simp; done) | (go_simp; rfl)) ?_; intro gb1 hg w3 hbox hb; have BK1 := Aside0.mk hbox; have GW1 := mGw HB hg; have GE1 := GW1; replace HB := mSt HB hb; clear hb hbox hg; have hcz4 := blk_cell BK1.out; have hfz4 := blk_frozen BK1.out))
 (try simp only [Act.put, List.setIfInBounds_toArray, List.set_cons_zero, List.set_cons_succ])
 go_cut [3] (fun v3 wc => ∃ (kq : Nat) (x3_1 : List (S43)), Aside0 (dancestudioref35_written.j0 kq x3_1 a0_0 a0_1 a0_2 a0_3 a0_4 = some r) ∧ Aside0 (kq ≤ k) ∧ Aside0 (Kd.R k43 43 wc w.heap.size (fun _ => True) v3 x3_1) ∧ Aside0 (wc.heap[gb1]? = some (.cells #[.string a0_0, .int .i64 a0_1, .bool a0_2, .bool a0_3, .int .i64 a0_4] 72 (0, 0))) ∧ Aside0 (Below w.heap.size w wc))
 case first =>
  have H := HC2.out
  clear HC2
  by_cases c5 : a0_1 > 0
  rotate_left
  ·
   rw [if_neg c5] at H
   have c5b0 := decide_eq_false c5
   clear c5
   (first | rw [c5b0] | (simp only [i64_w, i32_w]; rw [c5b0]) | skip)
   have H' := Aside0.mk H
   clear H
   go_wp2
   go_meet
   case rel => exact ⟨_, (([] : List (S43))), H', ⟨by first | omega | exact Nat.le_refl _⟩, ⟨by first | exact Kd.R_nil _ _ _ _ _ | exact Kd.N_nil _ _ _ _ _ | exact Kd.V_nil _ _ _ _ _ | exact Kd.Q_nil _ _ _ _ _ | exact Kd.S_nil _ _ _ _ _⟩, ⟨BK1.out⟩, ⟨HB.out⟩⟩
  rw [if_pos c5] at H
  have c5b0 := decide_eq_true c5
  clear c5
  (first | rw [c5b0] | (simp only [i64_w, i32_w]; rw [c5b0]) | skip)
  obtain ⟨c6, H⟩ : (([] : List (S43)).length < 3518437208883) ∧ _ := mIf H
  have LMc6 := Aside0.mk c6
  clear c6
  obtain ⟨y676, hy676⟩ : ∃ y_ : List (S43), y_ = (([] : List (S43)) ++ [(⟨5, (⟨#[]⟩ : ByteArray), a0_1, 1⟩ : S43)]) := ⟨_, rfl⟩
  rw [← hy676] at H
  have Ny676 := Aside0.mk hy676
  clear hy676
  have H' := Aside0.mk H
  clear H
  have hcz7 := blk_cell BK1.out; have hfz7 := blk_frozen BK1.out
  go_wp2_with (first | ((with_reducible refine gate_builtin (b := .append) (xs := #[.tmp 11, .tmp 15]) rfl ?_); at_builtin; refine Kd.R_append k43 (w0 := w) w.heap.size rfl (.tmp 11) (.tmp 15) 22 43 (.agg #[(.int .i64 0), (.string ⟨#[]⟩), (.int .i64 0), (.int .i64 0)]) 40 rfl Tryd.underlying22 info43 rfl (by decide) (by omega) (.slice none 0 0) ([] : List (S43)) (⟨5, (⟨#[]⟩ : ByteArray), a0_1, 1⟩ : S43) [.int .i64 5, .string (⟨#[]⟩ : ByteArray), .int .i64 a0_1, .int .i64 1] (fun _ => True) (fun _ => False) rfl rfl ?aP (fun _ hk => hk.elim) ?aF ?aO ?aB ?aS ?aL ?_; (case aP => exact k43_mkM _ _ _ (⟨5, (⟨#[]⟩ : ByteArray), a0_1, 1⟩ : S43)); (case aB => exact HB.out); (case aF => exact (fun _ _ => trivial)); (case aO => exact ((Kd.R_nil _ _ _ _ (fun _ => True)))); (case aS => exact (below_size HB.out)); (case aL => have := LMc6.out; omega); intro v677 w8 ho hb hg hat; rw [← Ny676.out] at ho; replace BK1 := Aside0.mk (blk_grown (g := gb1) (o := .cells #[.string a0_0, .int .i64 a0_1, .bool a0_2, .bool a0_3, .int .i64 a0_4] 72 (0, 0)) BK1.out hg (by simp [Value.ownBlock])); replace HB := Aside0.mk hb; have HO678 := Aside0.mk ho; clear ho hb hg hat))
  go_meet
  case rel => exact ⟨_, (y676), H', ⟨by first | omega | exact Nat.le_refl _⟩, HO678, ⟨BK1.out⟩, ⟨HB.out⟩⟩
 case rest =>
  clear HC2; try clear p2; try clear c4; try clear c5; try clear c5b0; try clear c6; try clear hcz4_0; try clear hcz4_1; try clear hcz4_2; try clear hcz4_3; try clear hcz4_4; try clear hcz7_0; try clear hcz7_1; try clear hcz7_2; try clear hcz7_3; try clear hcz7_4; try clear hfz4_0; try clear hfz4_1; try clear hfz4_2; try clear hfz4_3; try clear hfz4_4; try clear hfz7_0; try clear hfz7_1; try clear hfz7_2; try clear hfz7_3; try clear hfz7_4
  obtain ⟨kq, x3_1, HA, HJ1, HO_3, BK1, HB⟩ := hcut
  cases kq with
  | zero => exact absurd HA.out (by simp [dancestudioref35_written.j0])
  | succ kj1 =>
   have H := HA.out
   clear HA
   simp only [dancestudioref35_written.j0] at H
   have HC9 := Aside0.mk H
   clear H
   have hcz10 := blk_cell BK1.out; have hfz10 := blk_frozen BK1.out
   go_upto_if 18 with (fail)
   go_cut [3] (fun v3 wc => ∃ (kq : Nat) (x3_8 : List (S43)), Aside0 (dancestudioref35_written.j1 kq x3_8 a0_0 a0_1 a0_2 a0_3 a0_4 = some r) ∧ Aside0 (kq ≤ kj1) ∧ Aside0 (Kd.R k43 43 wc w.heap.size (fun _ => True) v3 x3_8) ∧ Aside0 (wc.heap[gb1]? = some (.cells #[.string a0_0, .int .i64 a0_1, .bool a0_2, .bool a0_3, .int .i64 a0_4] 72 (0, 0))) ∧ Aside0 (Below w.heap.size w wc))
   case first =>
    have H := HC9.out
    clear HC9
    by_cases c11 : a0_2 = true
    rotate_left
    ·
     replace c11 := Bool.eq_false_iff.mpr c11
     subst c11
     rw [if_neg (show ¬ (false = true) by decide)] at H
     have H' := Aside0.mk H
     clear H
     go_wp2
     go_meet
     case rel => exact ⟨_, (x3_1), H', ⟨by have := HJ1.out; first | omega | exact Nat.le_refl _⟩, HO_3, ⟨BK1.out⟩, ⟨HB.out⟩⟩
    subst c11
    rw [if_pos rfl] at H
    obtain ⟨c12, H⟩ : (x3_1.length < 3518437208883) ∧ _ := mIf H
    have LMc12 := Aside0.mk c12
    clear c12
    obtain ⟨y679, hy679⟩ : ∃ y_ : List (S43), y_ = (x3_1 ++ [(⟨3, (⟨#[]⟩ : ByteArray), 0, 1⟩ : S43)]) := ⟨_, rfl⟩
    rw [← hy679] at H
    have Ny679 := Aside0.mk hy679
    clear hy679
    have H' := Aside0.mk H
    clear H
    go_wp2_with (first | ((with_reducible refine gate_builtin (b := .append) (xs := #[.tmp 19, .tmp 21]) rfl ?_); at_builtin; refine Kd.R_append k43 (w0 := w) w.heap.size rfl (.tmp 19) (.tmp 21) 22 43 (.agg #[(.int .i64 0), (.string ⟨#[]⟩), (.int .i64 0), (.int .i64 0)]) 40 rfl Tryd.underlying22 info43 rfl (by decide) (by omega) u3 x3_1 (⟨3, (⟨#[]⟩ : ByteArray), 0, 1⟩ : S43) [.int .i64 3, .string (⟨#[]⟩ : ByteArray), .int .i64 0, .int .i64 1] (fun _ => True) (fun _ => False) rfl rfl ?aP (fun _ hk => hk.elim) ?aF ?aO ?aB ?aS ?aL ?_; (case aP => exact k43_mkM _ _ _ (⟨3, (⟨#[]⟩ : ByteArray), 0, 1⟩ : S43)); (case aB => exact HB.out); (case aF => exact (fun _ _ => trivial)); (case aO => exact HO_3.out); (case aS => exact (below_size HB.out)); (case aL => have := LMc12.out; omega); intro v680 w13 ho hb hg hat; rw [← Ny679.out] at ho; replace BK1 := Aside0.mk (blk_grown (g := gb1) (o := .cells #[.string a0_0, .int .i64 a0_1, .bool true, .bool a0_3, .int .i64 a0_4] 72 (0, 0)) BK1.out hg (Kd.R_ne HO_3.out BK1.out (by decide))); replace HB := Aside0.mk hb; have HO681 := Aside0.mk ho; clear HO_3; clear ho hb hg hat))
    go_meet
    case rel => exact ⟨_, (y679), H', ⟨by have := HJ1.out; first | omega | exact Nat.le_refl _⟩, HO681, ⟨BK1.out⟩, ⟨HB.out⟩⟩
   case rest =>
    clear HC9; try clear c1; try clear p2; try clear c4; try clear c5; try clear c5b0; try clear c6; try clear c11; try clear c12; try clear hcz10_0; try clear hcz10_1; try clear hcz10_2; try clear hcz10_3; try clear hcz10_4; try clear hcz4_0; try clear hcz4_1; try clear hcz4_2; try clear hcz4_3; try clear hcz4_4; try clear hcz7_0; try clear hcz7_1; try clear hcz7_2; try clear hcz7_3; try clear hcz7_4; try clear hfz10_0; try clear hfz10_1; try clear hfz10_2; try clear hfz10_3; try clear hfz10_4; try clear hfz4_0; try clear hfz4_1; try clear hfz4_2; try clear hfz4_3; try clear hfz4_4; try clear hfz7_0; try clear hfz7_1; try clear hfz7_2; try clear hfz7_3; try clear hfz7_4
    obtain ⟨kq, x3_8, HA, HJ8, HO_3, BK1, HB⟩ := hcut
    cases kq with
    | zero => exact absurd HA.out (by simp [dancestudioref35_written.j1])
    | succ kj8 =>
     have H := HA.out
     clear HA
     simp only [dancestudioref35_written.j1] at H
     have HC14 := Aside0.mk H
     clear H
     have hcz15 := blk_cell BK1.out; have hfz15 := blk_frozen BK1.out
     go_upto_if 24 with (fail)
     go_cut [3] (fun v3 wc => ∃ (kq : Nat) (x3_13 : List (S43)), Aside0 (dancestudioref35_written.j2 kq x3_13 a0_0 a0_1 a0_2 a0_3 a0_4 = some r) ∧ Aside0 (kq ≤ kj8) ∧ Aside0 (Kd.R k43 43 wc w.heap.size (fun _ => True) v3 x3_13) ∧ Aside0 (wc.heap[gb1]? = some (.cells #[.string a0_0, .int .i64 a0_1, .bool a0_2, .bool a0_3, .int .i64 a0_4] 72 (0, 0))) ∧ Aside0 (Below w.heap.size w wc))
     case first =>
      have H := HC14.out
      clear HC14
      by_cases c16 : a0_3 = true
      rotate_left
      ·
       replace c16 := Bool.eq_false_iff.mpr c16
       subst c16
       rw [if_neg (show ¬ (false = true) by decide)] at H
       have H' := Aside0.mk H
       clear H
       go_wp2
       go_meet
       case rel => exact ⟨_, (x3_8), H', ⟨by have := HJ1.out; have := HJ8.out; first | omega | exact Nat.le_refl _⟩, HO_3, ⟨BK1.out⟩, ⟨HB.out⟩⟩
      subst c16
      rw [if_pos rfl] at H
      obtain ⟨c17, H⟩ : (x3_8.length < 3518437208883) ∧ _ := mIf H
      have LMc17 := Aside0.mk c17
      clear c17
      obtain ⟨y682, hy682⟩ : ∃ y_ : List (S43), y_ = (x3_8 ++ [(⟨4, (⟨#[]⟩ : ByteArray), 0, 1⟩ : S43)]) := ⟨_, rfl⟩
      rw [← hy682] at H
      have Ny682 := Aside0.mk hy682
      clear hy682
      have H' := Aside0.mk H
      clear H
      go_wp2_with (first | ((with_reducible refine gate_builtin (b := .append) (xs := #[.tmp 25, .tmp 27]) rfl ?_); at_builtin; refine Kd.R_append k43 (w0 := w) w.heap.size rfl (.tmp 25) (.tmp 27) 22 43 (.agg #[(.int .i64 0), (.string ⟨#[]⟩), (.int .i64 0), (.int .i64 0)]) 40 rfl Tryd.underlying22 info43 rfl (by decide) (by omega) u3 x3_8 (⟨4, (⟨#[]⟩ : ByteArray), 0, 1⟩ : S43) [.int .i64 4, .string (⟨#[]⟩ : ByteArray), .int .i64 0, .int .i64 1] (fun _ => True) (fun _ => False) rfl rfl ?aP (fun _ hk => hk.elim) ?aF ?aO ?aB ?aS ?aL ?_; (case aP => exact k43_mkM _ _ _ (⟨4, (⟨#[]⟩ : ByteArray), 0, 1⟩ : S43)); (case aB => exact HB.out); (case aF => exact (fun _ _ => trivial)); (case aO => exact HO_3.out); (case aS => exact (below_size HB.out)); (case aL => have := LMc17.out; omega); intro v683 w18 ho hb hg hat; rw [← Ny682.out] at ho; replace BK1 := Aside0.mk (blk_grown (g := gb1) (o := .cells #[.string a0_0, .int .i64 a0_1, .bool a0_2, .bool true, .int .i64 a0_4] 72 (0, 0)) BK1.out hg (Kd.R_ne HO_3.out BK1.out (by decide))); replace HB := Aside0.mk hb; have HO684 := Aside0.mk ho; clear HO_3; clear ho hb hg hat))
      go_meet
      case rel => exact ⟨_, (y682), H', ⟨by have := HJ1.out; have := HJ8.out; first | omega | exact Nat.le_refl _⟩, HO684, ⟨BK1.out⟩, ⟨HB.out⟩⟩
     case rest =>
      clear HC14; try clear c1; try clear p2; try clear c4; try clear c5; try clear c5b0; try clear c6; try clear c11; try clear c12; try clear c16; try clear c17; try clear hcz10_0; try clear hcz10_1; try clear hcz10_2; try clear hcz10_3; try clear hcz10_4; try clear hcz15_0; try clear hcz15_1; try clear hcz15_2; try clear hcz15_3; try clear hcz15_4; try clear hcz4_0; try clear hcz4_1; try clear hcz4_2; try clear hcz4_3; try clear hcz4_4; try clear hcz7_0; try clear hcz7_1; try clear hcz7_2; try clear hcz7_3; try clear hcz7_4; try clear hfz10_0; try clear hfz10_1; try clear hfz10_2; try clear hfz10_3; try clear hfz10_4; try clear hfz15_0; try clear hfz15_1; try clear hfz15_2; try clear hfz15_3; try clear hfz15_4; try clear hfz4_0; try clear hfz4_1; try clear hfz4_2; try clear hfz4_3; try clear hfz4_4; try clear hfz7_0; try clear hfz7_1; try clear hfz7_2; try clear hfz7_3; try clear hfz7_4
      obtain ⟨kq, x3_13, HA, HJ13, HO_3, BK1, HB⟩ := hcut
      cases kq with
      | zero => exact absurd HA.out (by simp [dancestudioref35_written.j2])
      | succ kj13 =>
       have H := HA.out
       clear HA
       simp only [dancestudioref35_written.j2] at H
       have H' := Aside0.mk H
       clear H
       have hcz19 := blk_cell BK1.out; have hfz19 := blk_frozen BK1.out
       go_wp2
       go_loopg [4, 5, 6] kj13 (fun kq v4 v5 v6 w' => ∃ (x4_4 : List Int) (x5_4 : Int) (x6_4 : Int), v5 = .int .i64 x5_4 ∧ v6 = .int .i64 x6_4 ∧ Aside0 (dancestudioref35_written.l0 kq x3_13 x4_4 x5_4 x6_4 a0_0 a0_1 a0_2 a0_3 a0_4 = some r) ∧ Aside0 (kq ≤ kj13) ∧ Aside0 (Kd.R k43 43 w' w.heap.size (fun _ => True) u3 x3_13) ∧ Aside0 (Kd.R (Kd.int .i64) 3 w' w.heap.size (fun _ => True) v4 x4_4) ∧ Aside0 (w'.heap[gb1]? = some (.cells #[.string a0_0, .int .i64 a0_1, .bool a0_2, .bool a0_3, .int .i64 a0_4] 72 (0, 0))) ∧ Aside0 (Below w.heap.size w w'))
       case atStart => exact ⟨(([] : List Int)), (a0_4), (16), rfl, rfl, H', ⟨Nat.le_refl _⟩, HO_3, ⟨by first | exact Kd.R_nil _ _ _ _ _ | exact Kd.N_nil _ _ _ _ _ | exact Kd.V_nil _ _ _ _ _ | exact Kd.Q_nil _ _ _ _ _ | exact Kd.S_nil _ _ _ _ _⟩, ⟨BK1.out⟩, ⟨HB.out⟩⟩
       case round =>
        clear H'
        obtain ⟨x4_4, x5_4, x6_4, rfl, rfl, HA, HK4, HO_3, HO_4, BK1, HB⟩ := hrel
        cases gk with
        | zero => exact absurd HA.out (by simp [dancestudioref35_written.l0])
        | succ k4 =>
         have H := HA.out
         clear HA
         simp only [dancestudioref35_written.l0] at H
         by_cases c20 : x6_4 > 1
         ·
          rw [if_pos c20] at H
          have c20b0 := decide_eq_true c20
          clear c20
          have H' := Aside0.mk H
          clear H
          go_wp2
          go_loopg [4, 5] k4 (fun kq v4 v5 w' => ∃ (x4_5 : List Int) (x5_5 : Int), v5 = .int .i64 x5_5 ∧ Aside0 (dancestudioref35_written.l1 kq x3_13 x4_5 x5_5 x6_4 a0_0 a0_1 a0_2 a0_3 a0_4 = some r) ∧ Aside0 (kq ≤ k4) ∧ Aside0 (Kd.R k43 43 w' w.heap.size (fun _ => True) u3 x3_13) ∧ Aside0 (Kd.R (Kd.int .i64) 3 w' w.heap.size (fun _ => True) v4 x4_5) ∧ Aside0 (w'.heap[gb1]? = some (.cells #[.string a0_0, .int .i64 a0_1, .bool a0_2, .bool a0_3, .int .i64 a0_4] 72 (0, 0))) ∧ Aside0 (Below w.heap.size w w'))
          case atStart => exact ⟨(x4_4), (x5_4), rfl, H', ⟨Nat.le_refl _⟩, HO_3, HO_4, ⟨BK1.out⟩, ⟨HB.out⟩⟩
          case round =>
           clear H' c20b0
           obtain ⟨x4_5, x5_5, rfl, HA, HK5, HO_3, HO_4, BK1, HB⟩ := hrel
           cases gk with
           | zero => exact absurd HA.out (by simp [dancestudioref35_written.l1])
           | succ k5 =>
            have H := HA.out
            clear HA
            simp only [dancestudioref35_written.l1] at H
            obtain ⟨c21, H⟩ : (¬ (x6_4 = 0)) ∧ _ := mIfn H
            have c21b0 := beq_eq_false_iff_ne.mpr c21
            have c21b1 := bne_iff_ne.mpr c21
            by_cases c22 : (Int.tmod x5_5 x6_4) = 0
            rotate_left
            ·
             rw [if_neg c22] at H
             have c22b0 := beq_eq_false_iff_ne.mpr c22
             have c22b1 := bne_iff_ne.mpr c22
             have H' := Aside0.mk H
             clear H
             go_wp2
             go_roundg k5
             case measure => have := HJ1.out; have := HJ8.out; have := HJ13.out; have := HK4.out; have := HK5.out; omega
             case rel => exact ⟨(x4_5), (x5_5), (wrap64 (x6_4 - 1)), rfl, rfl, H', ⟨by have := HJ1.out; have := HJ8.out; have := HJ13.out; have := HK4.out; have := HK5.out; omega⟩, HO_3, HO_4, ⟨BK1.out⟩, ⟨HB.out⟩⟩
            rw [if_pos c22] at H
            have c22b0 := beq_iff_eq.mpr c22
            have c22b1 := bne_eq_false_iff_eq.mpr c22
            clear c22
            obtain ⟨c23, H⟩ : (x4_5.length < 17592186044416) ∧ _ := mIf H
            have LMc23 := Aside0.mk c23
            clear c23
            obtain ⟨y685, hy685⟩ : ∃ y_ : List Int, y_ = (x4_5 ++ [x6_4]) := ⟨_, rfl⟩
            rw [← hy685] at H
            have Ny685 := Aside0.mk hy685
            clear hy685
            have H' := Aside0.mk H
            clear H
            go_wp2_with (first | ((with_reducible refine gate_builtin (b := .append) (xs := #[.tmp 39, .tmp 41]) rfl ?_); at_builtin; refine Kd.R_append (Kd.int .i64) (w0 := w) w.heap.size rfl (.tmp 39) (.tmp 41) 38 3 (.int .i64 0) 8 rfl Tryd.underlying38 info3 rfl (by decide) (by omega) u4 x4_5 x6_4 [.int .i64 x6_4] (fun _ => True) (fun _ => False) rfl rfl ?aP (fun _ hk => hk.elim) ?aF ?aO ?aB ?aS ?aL ?_; (case aP => exact rfl); (case aB => exact HB.out); (case aF => exact (fun _ _ => trivial)); (case aO => exact HO_4.out); (case aS => exact (below_size HB.out)); (case aL => have := LMc23.out; omega); intro v686 w24 ho hb hg hat; rw [← Ny685.out] at ho; replace HO_3 := Aside0.mk (Kd.R_over' HO_3.out (Kd.R_typed HO_4.out) (by decide) hg); replace BK1 := Aside0.mk (blk_grown (g := gb1) (o := .cells #[.string a0_0, .int .i64 a0_1, .bool a0_2, .bool a0_3, .int .i64 a0_4] 72 (0, 0)) BK1.out hg (Kd.R_ne HO_4.out BK1.out (by decide))); replace HB := Aside0.mk hb; have HO687 := Aside0.mk ho; clear HO_4; clear ho hb hg hat))
            go_roundg k5
            case measure => have := HJ1.out; have := HJ8.out; have := HJ13.out; have := HK4.out; have := HK5.out; omega
            case rel => exact ⟨(y685), (wrap64 (Int.tdiv x5_5 x6_4)), rfl, H', ⟨by have := HJ1.out; have := HJ8.out; have := HJ13.out; have := HK4.out; have := HK5.out; omega⟩, HO_3, HO687, ⟨BK1.out⟩, ⟨HB.out⟩⟩
         rw [if_neg c20] at H
         have c20b0 := decide_eq_false c20
         clear c20
         have H' := Aside0.mk H
         clear H
         obtain ⟨Ao25, co25, eo25⟩ := Kd.R_slice HO_4.out
         subst eo25
         go_wp2
         go_loopg [3, 7] k4 (fun kq v3 v7 w' => ∃ (x3_5 : List (S43)) (x7_5 : Int), v7 = .int .i64 x7_5 ∧ Aside0 (dancestudioref35_written.l2 kq x3_5 x4_4 x7_5 a0_0 a0_1 a0_2 a0_3 a0_4 = some r) ∧ Aside0 (kq ≤ k4) ∧ Aside0 (Kd.R k43 43 w' w.heap.size (fun _ => True) v3 x3_5) ∧ Aside0 (Kd.R (Kd.int .i64) 3 w' w.heap.size (fun _ => True) (.slice Ao25 x4_4.length co25) x4_4) ∧ Aside0 (w'.heap[gb1]? = some (.cells #[.string a0_0, .int .i64 a0_1, .bool a0_2, .bool a0_3, .int .i64 a0_4] 72 (0, 0))) ∧ Aside0 (Below w.heap.size w w'))
         case atStart => exact ⟨(x3_13), (wrap64 ((x4_4.length : Int) - 1)), rfl, H', ⟨Nat.le_refl _⟩, HO_3, HO_4, ⟨BK1.out⟩, ⟨HB.out⟩⟩
         case round =>
          clear H' c20b0
          obtain ⟨x3_5, x7_5, rfl, HA, HK5, HO_3, HO_4, BK1, HB⟩ := hrel
          cases gk with
          | zero => exact absurd HA.out (by simp [dancestudioref35_written.l2])
          | succ k5 =>
           have H := HA.out
           clear HA
           simp only [dancestudioref35_written.l2] at H
           by_cases c26 : x7_5 ≥ 0
           rotate_left
           ·
            rw [if_neg c26] at H
            have c26b0 := decide_eq_false c26
            clear c26
            obtain ⟨c31, H⟩ : (x3_5.length < 3518437208883) ∧ _ := mIf H
            have LMc31 := Aside0.mk c31
            clear c31
            obtain ⟨y692, hy692⟩ : ∃ y_ : List (S43), y_ = (x3_5 ++ [(⟨1, a0_0, 0, 0⟩ : S43)]) := ⟨_, rfl⟩
            rw [← hy692] at H
            have Ny692 := Aside0.mk hy692
            clear hy692
            obtain rfl := Option.some.inj H
            have hcz32 := blk_cell BK1.out; have hfz32 := blk_frozen BK1.out
            go_wp2_with (first | ((with_reducible refine gate_builtin (b := .append) (xs := #[.tmp 61, .tmp 65]) rfl ?_); at_builtin; refine Kd.R_append k43 (w0 := w) w.heap.size rfl (.tmp 61) (.tmp 65) 22 43 (.agg #[(.int .i64 0), (.string ⟨#[]⟩), (.int .i64 0), (.int .i64 0)]) 40 rfl Tryd.underlying22 info43 rfl (by decide) (by omega) u3 x3_5 (⟨1, a0_0, 0, 0⟩ : S43) [.int .i64 1, .string a0_0, .int .i64 0, .int .i64 0] (fun _ => True) (fun _ => False) rfl rfl ?aP (fun _ hk => hk.elim) ?aF ?aO ?aB ?aS ?aL ?_; (case aP => exact k43_mkM _ _ _ (⟨1, a0_0, 0, 0⟩ : S43)); (case aB => exact HB.out); (case aF => exact (fun _ _ => trivial)); (case aO => exact HO_3.out); (case aS => exact (below_size HB.out)); (case aL => have := LMc31.out; omega); intro v693 w33 ho hb hg hat; rw [← Ny692.out] at ho; replace HO_4 := Aside0.mk (Kd.R_over' HO_4.out (Kd.R_typed HO_3.out) (by decide) hg); replace BK1 := Aside0.mk (blk_grown (g := gb1) (o := .cells #[.string a0_0, .int .i64 a0_1, .bool a0_2, .bool a0_3, .int .i64 a0_4] 72 (0, 0)) BK1.out hg (Kd.R_ne HO_3.out BK1.out (by decide))); replace HB := Aside0.mk hb; have HO694 := Aside0.mk ho; clear HO_3; clear ho hb hg hat))
            go_ret
            exact ⟨_, rfl, by exact HO694.out, HB.out⟩
           rw [if_pos c26] at H
           have c26b0 := decide_eq_true c26
           clear c26
           obtain ⟨c27, H⟩ : (0 ≤ x7_5) ∧ _ := mIf H
           have c27b0 := decide_eq_true c27
           clear c27
           obtain ⟨c28, H⟩ : (x7_5 < (x4_4.length : Int)) ∧ _ := mIf H
           have c28b0 := decide_eq_true c28
           clear c28
           obtain ⟨c29, H⟩ : (x3_5.length < 3518437208883) ∧ _ := mIf H
           have LMc29 := Aside0.mk c29
           clear c29
           obtain ⟨y689, hy689⟩ : ∃ y_ : List (S43), y_ = (x3_5 ++ [(⟨6, (⟨#[]⟩ : ByteArray), rd x4_4 x7_5, 1⟩ : S43)]) := ⟨_, rfl⟩
           rw [← hy689] at H
           have Ny689 := Aside0.mk hy689
           clear hy689
           have H' := Aside0.mk H
           clear H
           have p688 : 0 ≤ (x7_5 : Int) := of_decide_eq_true (by assumption)
           have q688 : x7_5 < (x4_4.length : Int) := of_decide_eq_true (by assumption)
           obtain ⟨ad688, e688, hx688_0⟩ := Kd.at_int (Kd.R_reads' HO_4.out).2.2 x7_5 p688 q688
           cases e688
           replace p688 := eq_true p688
           replace q688 := eq_true q688
           go_wp2_with (first | ((with_reducible refine gate_builtin (b := .append) (xs := #[.tmp 53, .tmp 59]) rfl ?_); at_builtin; refine Kd.R_append k43 (w0 := w) w.heap.size rfl (.tmp 53) (.tmp 59) 22 43 (.agg #[(.int .i64 0), (.string ⟨#[]⟩), (.int .i64 0), (.int .i64 0)]) 40 rfl Tryd.underlying22 info43 rfl (by decide) (by omega) u3 x3_5 (⟨6, (⟨#[]⟩ : ByteArray), rd x4_4 x7_5, 1⟩ : S43) [.int .i64 6, .string (⟨#[]⟩ : ByteArray), .int .i64 (rd x4_4 x7_5), .int .i64 1] (fun _ => True) (fun _ => False) rfl rfl ?aP (fun _ hk => hk.elim) ?aF ?aO ?aB ?aS ?aL ?_; (case aP => exact k43_mkM _ _ _ (⟨6, (⟨#[]⟩ : ByteArray), rd x4_4 x7_5, 1⟩ : S43)); (case aB => exact HB.out); (case aF => exact (fun _ _ => trivial)); (case aO => exact HO_3.out); (case aS => exact (below_size HB.out)); (case aL => have := LMc29.out; omega); intro v690 w30 ho hb hg hat; rw [← Ny689.out] at ho; replace HO_4 := Aside0.mk (Kd.R_over' HO_4.out (Kd.R_typed HO_3.out) (by decide) hg); replace BK1 := Aside0.mk (blk_grown (g := gb1) (o := .cells #[.string a0_0, .int .i64 a0_1, .bool a0_2, .bool a0_3, .int .i64 a0_4] 72 (0, 0)) BK1.out hg (Kd.R_ne HO_3.out BK1.out (by decide))); replace HB := Aside0.mk hb; have HO691 := Aside0.mk ho; clear HO_3; clear ho hb hg hat))
           go_roundg k5
           case measure => have := HJ1.out; have := HJ8.out; have := HJ13.out; have := HK4.out; have := HK5.out; omega
           case rel => exact ⟨(y689), (wrap64 (x7_5 - 1)), rfl, H', ⟨by have := HJ1.out; have := HJ8.out; have := HJ13.out; have := HK4.out; have := HK5.out; omega⟩, HO691, HO_4, ⟨BK1.out⟩, ⟨HB.out⟩⟩
end Go.Proofs.YtimikhbnihedkaaDoor.PAll
