-- Written by wip/tools/handprint.py: walks of the functions that the law reaches; Lean checks them.
import Derived.Test.YtaggccbndmmbhaaDoorBase
namespace Go.Proofs.YtaggccbndmmbhaaDoor.PAll
open Go.RowKit Go.Proofs.YtaggccbndmmbhaaDoorW.PrintWords Go.Proofs.YtaggccbndmmbhaaDoorW.PrintLast Go.Proofs.YtaggccbndmmbhaaDoorW.PrintMore
attribute [local go_sem] max2_int min2_int max_two min_two max_three min_three max_four min_four   -- for this text's walks alone
set_option linter.unusedVariables false
set_option linter.unusedSimpArgs false

/-! ### assign_solved_add: function 83 -/
mutual
def assign_solved_add.l0 : Nat → List Int → List (List Int) → List Int → List Int → Int → List Int → List Int → List Bool → Int → Int → Option (List Int × List Int × List Int)
 | 0, _, _, _, _, _, _, _, _, _, _ => none
 | k + 1, x0, x1, x3, x4, x6, x7, x8, x9, x36, x37 => if x37 < x36 then (if 0 ≤ x37 then (if x37 < (x8.length : Int) then (assign_solved_add.l0 k x0 x1 x3 x4 x6 x7 (x8.set (x37 : Int).toNat 1152921504606846976) x9 x36 (wrap64 (x37 + 1))) else (none)) else (none)) else (assign_solved_add.l1 k x0 x1 x3 x4 x6 x7 x8 x9 0)
def assign_solved_add.l1 : Nat → List Int → List (List Int) → List Int → List Int → Int → List Int → List Int → List Bool → Int → Option (List Int × List Int × List Int)
 | 0, _, _, _, _, _, _, _, _, _ => none
 | k + 1, x0, x1, x3, x4, x6, x7, x8, x9, x11 => if 0 ≤ x11 then (if x11 < (x9.length : Int) then (if x11 < (x4.length : Int) then (assign_solved_add.l2 k x0 x1 x3 x4 x6 x7 x8 (x9.set (x11 : Int).toNat true) x11 (rd x4 x11) 0 1152921504606846976 1) else (none)) else (none)) else (none)
def assign_solved_add.l2 : Nat → List Int → List (List Int) → List Int → List Int → Int → List Int → List Int → List Bool → Int → Int → Int → Int → Int → Option (List Int × List Int × List Int)
 | 0, _, _, _, _, _, _, _, _, _, _, _, _, _ => none
 | k + 1, x0, x1, x3, x4, x6, x7, x8, x9, x11, x12, x13, x14, x15 => if x15 ≤ x6 then (if 0 ≤ x15 then (if x15 < (x9.length : Int) then (if rdOf false x9 x15 = true then (assign_solved_add.l2 k x0 x1 x3 x4 x6 x7 x8 x9 x11 x12 x13 x14 (wrap64 (x15 + 1))) else (if 0 ≤ (wrap64 (x12 - 1)) then (if (wrap64 (x12 - 1)) < (x1.length : Int) then (if 0 ≤ (wrap64 (x15 - 1)) then (if (wrap64 (x15 - 1)) < ((rd_L2 x1 (wrap64 (x12 - 1))).length : Int) then (if 0 ≤ x12 then (if x12 < (x0.length : Int) then (if x15 < (x3.length : Int) then (if x15 < (x8.length : Int) then (if (wrap64 ((wrap64 ((rd (rd_L2 x1 (wrap64 (x12 - 1))) (wrap64 (x15 - 1))) - (rd x0 x12))) - (rd x3 x15))) < (rd x8 x15) then (if x15 < (x7.length : Int) then (assign_solved_add.j3 k x0 x1 x3 x4 x6 (x7.set (x15 : Int).toNat x11) (x8.set (x15 : Int).toNat (wrap64 ((wrap64 ((rd (rd_L2 x1 (wrap64 (x12 - 1))) (wrap64 (x15 - 1))) - (rd x0 x12))) - (rd x3 x15)))) x9 x11 x12 x13 x14 x15) else (none)) else (assign_solved_add.j3 k x0 x1 x3 x4 x6 x7 x8 x9 x11 x12 x13 x14 x15)) else (none)) else (none)) else (none)) else (none)) else (none)) else (none)) else (none)) else (none))) else (none)) else (none)) else (assign_solved_add.l3 k x0 x1 x3 x4 x6 x7 x8 x9 x13 x14 (wrap64 (x6 + 1)) 0)
def assign_solved_add.j3 : Nat → List Int → List (List Int) → List Int → List Int → Int → List Int → List Int → List Bool → Int → Int → Int → Int → Int → Option (List Int × List Int × List Int)
 | 0, _, _, _, _, _, _, _, _, _, _, _, _, _ => none
 | k + 1, x0, x1, x3, x4, x6, x7, x8, x9, x11, x12, x13, x14, x15 => if 0 ≤ x15 then (if x15 < (x8.length : Int) then (if (rd x8 x15) < x14 then (assign_solved_add.l2 k x0 x1 x3 x4 x6 x7 x8 x9 x11 x12 x15 (rd x8 x15) (wrap64 (x15 + 1))) else (assign_solved_add.l2 k x0 x1 x3 x4 x6 x7 x8 x9 x11 x12 x13 x14 (wrap64 (x15 + 1)))) else (none)) else (none)
def assign_solved_add.l3 : Nat → List Int → List (List Int) → List Int → List Int → Int → List Int → List Int → List Bool → Int → Int → Int → Int → Option (List Int × List Int × List Int)
 | 0, _, _, _, _, _, _, _, _, _, _, _, _ => none
 | k + 1, x0, x1, x3, x4, x6, x7, x8, x9, x13, x14, x114, x115 => if x115 < x114 then (if 0 ≤ x115 then (if x115 < (x9.length : Int) then (if rdOf false x9 x115 = true then (if x115 < (x4.length : Int) then (if 0 ≤ (rd x4 x115) then (if (rd x4 x115) < (x0.length : Int) then (if x115 < (x3.length : Int) then (assign_solved_add.l3 k (x0.set ((rd x4 x115) : Int).toNat (wrap64 ((rd x0 (rd x4 x115)) + x14))) x1 (x3.set (x115 : Int).toNat (wrap64 ((rd x3 x115) - x14))) x4 x6 x7 x8 x9 x13 x14 x114 (wrap64 (x115 + 1))) else (none)) else (none)) else (none)) else (none)) else (if x115 < (x8.length : Int) then (assign_solved_add.l3 k x0 x1 x3 x4 x6 x7 (x8.set (x115 : Int).toNat (wrap64 ((rd x8 x115) - x14))) x9 x13 x14 x114 (wrap64 (x115 + 1))) else (none))) else (none)) else (none)) else (if 0 ≤ x13 then (if x13 < (x4.length : Int) then (if (rd x4 x13) = 0 then (assign_solved_add.l4 k x0 x3 x4 x7 x13) else (assign_solved_add.l1 k x0 x1 x3 x4 x6 x7 x8 x9 x13)) else (none)) else (none))
def assign_solved_add.l4 : Nat → List Int → List Int → List Int → List Int → Int → Option (List Int × List Int × List Int)
 | 0, _, _, _, _, _ => none
 | k + 1, x0, x3, x4, x7, x11 => if x11 = 0 then (some (x0, x3, x4)) else (if 0 ≤ x11 then (if x11 < (x7.length : Int) then (if 0 ≤ (rd x7 x11) then (if (rd x7 x11) < (x4.length : Int) then (if x11 < (x4.length : Int) then (assign_solved_add.l4 k x0 x3 (x4.set (x11 : Int).toNat (rd x4 (rd x7 x11))) x7 (rd x7 x11)) else (none)) else (none)) else (none)) else (none)) else (none))
end
def assign_solved_add.f (k : Nat) (l0 : List Int) (l1 : List (List Int)) (a2 : Int) (l3 : List Int) (l4 : List Int) : Option (List Int × List Int × List Int) := if 0 < (l4.length : Int) then (if 0 ≤ (wrap64 ((l1.length : Int) + 1)) then (if (wrap64 ((l1.length : Int) + 1) : Int).toNat ≤ 35184372088832 then ((some (List.replicate (wrap64 ((l1.length : Int) + 1) : Int).toNat 0 : List Int)).bind fun y149 => (if (wrap64 ((l1.length : Int) + 1) : Int).toNat ≤ 281474976710656 then (assign_solved_add.l0 k l0 l1 l3 (l4.set (0 : Int).toNat a2) (l1.length : Int) (List.replicate (wrap64 ((l1.length : Int) + 1) : Int).toNat 0) y149 (List.replicate (wrap64 ((l1.length : Int) + 1) : Int).toNat false) (y149.length : Int) 0) else (none))) else (none)) else (none)) else (none)
def assign_solved_add.T17 : Bool × List (List Nat × List Nat) := (true, [([], []), ([], []), ([1], [1]), ([0, 2], [0, 2]), ([3], [3]), ([], []), ([5], [5]), ([4, 6], [4, 6]), ([7], [7]), ([], []), ([9], [9]), ([10], [10]), ([11], [11]), ([], []), ([12, 13], [12, 13]), ([14], [14]), ([8, 15], [8, 15]), ([], []), ([17], [17]), ([18], [18]), ([19], [19]), ([], []), ([20, 21], [20, 21]), ([22], [22]), ([16, 23], [16, 23]), ([24, 0, 1, 2, 3, 4, 5, 6, 7, 8, 9, 10, 11, 12, 13, 14, 15, 16, 17, 18, 19, 20, 21, 22, 23, 24], [24])])
def assign_solved_add.B17 : List Nat := [0, 0, 2, 7, 15, 0, 32, 127, 255, 0, 512, 1536, 3584, 0, 15872, 32256, 65535, 0, 131072, 393216, 917504, 0, 4063232, 8257536, 16777215, 33554431]
theorem assign_solved_add.tab17 : rtab .any (opsOf Tryd.f83 17) = assign_solved_add.T17 := by kernel_rfl
theorem assign_solved_add.bits17 : waitsOk assign_solved_add.T17.2 assign_solved_add.B17 = true := by kernel_rfl
def assign_solved_add.T26 : Bool × List (List Nat × List Nat) := (true, [([], []), ([0], [0]), ([1], [1]), ([2], [2]), ([], []), ([4], [4]), ([5], [5]), ([6], [6]), ([], []), ([7, 8], [7, 8]), ([9], [9]), ([3, 10], [3, 10]), ([11], [11]), ([], []), ([12, 13], [12, 13]), ([3, 10, 0, 1, 2, 3, 4, 5, 6, 7, 8, 9, 10, 11, 12, 13, 14], [3, 10]), ([15, 14, 0, 1, 2, 3, 4, 5, 6, 7, 8, 9, 10, 11, 12, 13, 14], [14, 15])])
def assign_solved_add.B26 : List Nat := [0, 1, 3, 7, 0, 16, 48, 112, 0, 496, 1008, 2047, 4095, 0, 16383, 32767, 65535]
theorem assign_solved_add.tab26 : rtab .any (opsOf Tryd.f83 26) = assign_solved_add.T26 := by kernel_rfl
theorem assign_solved_add.bits26 : waitsOk assign_solved_add.T26.2 assign_solved_add.B26 = true := by kernel_rfl
def assign_solved_add.T33 : Bool × List (List Nat × List Nat) := (true, [([], []), ([0], [0]), ([1], [1]), ([2], [2]), ([], []), ([], []), ([5], [5]), ([6], [6]), ([7], [7]), ([], []), ([], []), ([9, 10], [9, 10]), ([11], [11]), ([8, 12], [8, 12]), ([13], [13]), ([3, 4, 0, 1, 2, 3, 4, 5, 6, 7, 8, 9, 10, 11, 12, 13, 14], [3, 4]), ([15, 14, 0, 1, 2, 3, 4, 5, 6, 7, 8, 9, 10, 11, 12, 13, 14], [14, 15])])
def assign_solved_add.B33 : List Nat := [0, 1, 3, 7, 0, 0, 32, 96, 224, 0, 0, 1536, 3584, 8160, 16352, 32767, 65535]
theorem assign_solved_add.tab33 : rtab .any (opsOf Tryd.f83 33) = assign_solved_add.T33 := by kernel_rfl
theorem assign_solved_add.bits33 : waitsOk assign_solved_add.T33.2 assign_solved_add.B33 = true := by kernel_rfl
set_option maxHeartbeats 8000000 in
set_option maxRecDepth 100000 in
theorem assign_solved_add.calls (k : Nat) (P0_ : Nat → Prop) (u9000_ : Value) (l0 : List Int) (A1 : Option Addr) (c1 : Nat) (l1 : List (List Int)) (a2 : Int) (P3_ : Nat → Prop) (u9001_ : Value) (l3 : List Int) (P4_ : Nat → Prop) (u9002_ : Value) (l4 : List Int) (r1 : List Int) (r2 : List Int) (r3 : List Int) (w0 w : World) (hB : Below w0.heap.size w0 w) (ho0 : Kd.R (Kd.int .i64) 3 w w0.heap.size P0_ u9000_ l0) (hp0_3 : ∀ k_, P0_ k_ → ¬ P3_ k_) (hp0_4 : ∀ k_, P0_ k_ → ¬ P4_ k_) (hr1 : ∀ W_, Kept w W_ (fun k_ => P0_ k_ ∨ P3_ k_ ∨ P4_ k_) → Kd.C (Kd.slice 3 (Kd.int .i64)) W_ A1 l1.length l1) (hc1 : l1.length ≤ c1) (ho3 : Kd.R (Kd.int .i64) 3 w w0.heap.size P3_ u9001_ l3) (hp3_0 : ∀ k_, P3_ k_ → ¬ P0_ k_) (hp3_4 : ∀ k_, P3_ k_ → ¬ P4_ k_) (ho4 : Kd.R (Kd.int .i64) 3 w w0.heap.size P4_ u9002_ l4) (hp4_0 : ∀ k_, P4_ k_ → ¬ P0_ k_) (hp4_3 : ∀ k_, P4_ k_ → ¬ P3_ k_) (g : Nat) (hg0 : w.cell? ⟨g, 0, none⟩ = some u9000_) (hg1 : w.cell? ⟨g, 1, none⟩ = some u9001_) (hg2 : w.cell? ⟨g, 2, none⟩ = some u9002_) (hgn : ¬ (P0_ g ∨ P3_ g ∨ P4_ g)) (h : assign_solved_add.f k l0 l1 a2 l3 l4 = some (r1, r2, r3)) :
  Calls Tryd.prog 83 #[.pointer (some ⟨g, 0, none⟩), .slice A1 l1.length c1, .int .i64 a2] w fun e w' => e = .returned (.tuple #[]) ∧ Kd.R (Kd.int .i64) 3 w' w0.heap.size (fun k_ => ((P0_ k_ ∨ P3_ k_ ∨ P4_ k_) ∨ w.heap.size ≤ k_)) u9000_ r1 ∧ Kd.R (Kd.int .i64) 3 w' w0.heap.size (fun k_ => ((P0_ k_ ∨ P3_ k_ ∨ P4_ k_) ∨ w.heap.size ≤ k_)) u9001_ r2 ∧ Kd.R (Kd.int .i64) 3 w' w0.heap.size (fun k_ => ((P0_ k_ ∨ P3_ k_ ∨ P4_ k_) ∨ w.heap.size ≤ k_)) u9002_ r3 ∧ Below w0.heap.size w0 w' ∧ Kept w w' (fun k_ => P0_ k_ ∨ P3_ k_ ∨ P4_ k_) := by
 have HG0 := Aside0.mk hg0
 have HG1 := Aside0.mk hg1
 have HG2 := Aside0.mk hg2
 have HGN := Aside0.mk hgn
 clear hg0 hg1 hg2 hgn
 have HO0 := Aside0.mk (show Kd.R (Kd.int .i64) 3 w w0.heap.size (fun k_ => ((P0_ k_ ∨ P3_ k_ ∨ P4_ k_) ∨ w.heap.size ≤ k_) ∧ some k_ ≠ (u9001_ : Value).ownBlock ∧ some k_ ≠ (u9002_ : Value).ownBlock) u9000_ l0 from Kd.R_mono ho0 (fun k_ hk => ⟨(.inl (.inl hk)), fun e_ => hp0_3 k_ hk (ho3.1 k_ e_.symm), fun e_ => hp0_4 k_ hk (ho4.1 k_ e_.symm)⟩))
 have HR1 := Aside0.mk hr1
 have HC1 := Aside0.mk hc1
 clear hr1 hc1
 have HO3 := Aside0.mk (show Kd.R (Kd.int .i64) 3 w w0.heap.size (fun k_ => ((P0_ k_ ∨ P3_ k_ ∨ P4_ k_) ∨ w.heap.size ≤ k_) ∧ some k_ ≠ (u9000_ : Value).ownBlock ∧ some k_ ≠ (u9002_ : Value).ownBlock) u9001_ l3 from Kd.R_mono ho3 (fun k_ hk => ⟨(.inl (.inr (.inl hk))), fun e_ => hp3_0 k_ hk (ho0.1 k_ e_.symm), fun e_ => hp3_4 k_ hk (ho4.1 k_ e_.symm)⟩))
 have HO4 := Aside0.mk (show Kd.R (Kd.int .i64) 3 w w0.heap.size (fun k_ => ((P0_ k_ ∨ P3_ k_ ∨ P4_ k_) ∨ w.heap.size ≤ k_) ∧ some k_ ≠ (u9000_ : Value).ownBlock ∧ some k_ ≠ (u9001_ : Value).ownBlock) u9002_ l4 from Kd.R_mono ho4 (fun k_ hk => ⟨(.inl (.inr (.inr hk))), fun e_ => hp4_0 k_ hk (ho0.1 k_ e_.symm), fun e_ => hp4_3 k_ hk (ho3.1 k_ e_.symm)⟩))
 have HK := Aside0.mk (Kept.refl w (fun k_ => P0_ k_ ∨ P3_ k_ ∨ P4_ k_))
 have HW0 := Aside0.mk hB.size
 have HB := Aside0.mk hB
 clear hB
 have H := h
 unfold assign_solved_add.f at H
 clear h
 obtain ⟨c6, H⟩ : (0 < (l4.length : Int)) ∧ _ := mIf H
 have c6b0 := decide_eq_true c6
 have c6b1 : decide (0 < l4.length) = true := decide_eq_true (by omega)
 clear c6
 obtain ⟨y145, hy145⟩ : ∃ y_ : List Int, y_ = (l4.set (0 : Int).toNat a2) := ⟨_, rfl⟩
 replace H : (if 0 ≤ (wrap64 ((l1.length : Int) + 1)) then (if (wrap64 ((l1.length : Int) + 1) : Int).toNat ≤ 35184372088832 then ((some (List.replicate (wrap64 ((l1.length : Int) + 1) : Int).toNat 0 : List Int)).bind fun y149 => (if (wrap64 ((l1.length : Int) + 1) : Int).toNat ≤ 281474976710656 then (assign_solved_add.l0 k l0 l1 l3 y145 (l1.length : Int) (List.replicate (wrap64 ((l1.length : Int) + 1) : Int).toNat 0) y149 (List.replicate (wrap64 ((l1.length : Int) + 1) : Int).toNat false) (y149.length : Int) 0) else (none))) else (none)) else (none)) = some (r1, r2, r3) := by first | (rw [hy145]; with_reducible exact H) | (have H2_ := (Option.bind_some _ _).symm.trans H; rw [hy145]; with_reducible exact H2_) | (have H2_ := (Option.bind_some _ _).symm.trans H; with_reducible exact H2_) | with_reducible exact H | (rw [hy145]; exact H) | exact H
 have Ny145 := Aside0.mk hy145
 clear hy145
 obtain ⟨ji8, hji8⟩ : ∃ j_ : Int, (wrap64 ((l1.length : Int) + 1)) = j_ := ⟨_, rfl⟩
 replace H : (if 0 ≤ (ji8) then (if (ji8 : Int).toNat ≤ 35184372088832 then ((some (List.replicate (ji8 : Int).toNat 0 : List Int)).bind fun y149 => (if (ji8 : Int).toNat ≤ 281474976710656 then (assign_solved_add.l0 k l0 l1 l3 y145 (l1.length : Int) (List.replicate (ji8 : Int).toNat 0) y149 (List.replicate (ji8 : Int).toNat false) (y149.length : Int) 0) else (none))) else (none)) else (none)) = some (r1, r2, r3) := by first | (rw [hji8] at H; exact H) | (simp only [hji8] at H ⊢; exact H)
 have hji8w : (IntKind.i64.wrap ((l1.length : Int) + 1)) = ji8 := (i64_w _).trans hji8
 obtain ⟨c9, H⟩ : (0 ≤ (ji8)) ∧ _ := mIf H
 have c9b0 := eq_true c9
 have c9b1 := decide_eq_true c9
 clear c9
 obtain ⟨c10, H⟩ : ((ji8 : Int).toNat ≤ 35184372088832) ∧ _ := mIf H
 have c10b0 := eq_true c10
 have c10b1 := decide_eq_true c10
 clear c10
 obtain ⟨y146, hy146⟩ : ∃ y_ : List Int, y_ = (List.replicate (ji8 : Int).toNat 0) := ⟨_, rfl⟩
 replace H : ((some (List.replicate (ji8 : Int).toNat 0 : List Int)).bind fun y149 => (if (ji8 : Int).toNat ≤ 281474976710656 then (assign_solved_add.l0 k l0 l1 l3 y145 (l1.length : Int) y146 y149 (List.replicate (ji8 : Int).toNat false) (y149.length : Int) 0) else (none))) = some (r1, r2, r3) := by first | (rw [hy146]; with_reducible exact H) | (have H2_ := (Option.bind_some _ _).symm.trans H; rw [hy146]; with_reducible exact H2_) | (have H2_ := (Option.bind_some _ _).symm.trans H; with_reducible exact H2_) | with_reducible exact H | (rw [hy146]; exact H) | exact H
 have Ny146 := Aside0.mk hy146
 clear hy146
 obtain ⟨y149, hy149⟩ : ∃ y_ : List Int, y_ = (List.replicate (ji8 : Int).toNat 0) := ⟨_, rfl⟩
 replace H : (if (ji8 : Int).toNat ≤ 281474976710656 then (assign_solved_add.l0 k l0 l1 l3 y145 (l1.length : Int) y146 y149 (List.replicate (ji8 : Int).toNat false) (y149.length : Int) 0) else (none)) = some (r1, r2, r3) := by first | (rw [hy149]; with_reducible exact H) | (have H2_ := (Option.bind_some _ _).symm.trans H; rw [hy149]; with_reducible exact H2_) | (have H2_ := (Option.bind_some _ _).symm.trans H; with_reducible exact H2_) | with_reducible exact H | (rw [hy149]; exact H) | exact H
 have Ny149 := Aside0.mk hy149
 clear hy149
 obtain ⟨c11, H⟩ : ((ji8 : Int).toNat ≤ 281474976710656) ∧ _ := mIf H
 have c11b0 := eq_true c11
 have c11b1 := decide_eq_true c11
 clear c11
 obtain ⟨y152, hy152⟩ : ∃ y_ : List Bool, y_ = (List.replicate (ji8 : Int).toNat false) := ⟨_, rfl⟩
 rw [← hy152] at H
 have Ny152 := Aside0.mk hy152
 clear hy152
 have H' := Aside0.mk H
 clear H
 have p7 : 0 ≤ (0 : Int) := (by omega)
 have q7 : (0 : Int) < ((l4.length : Int) : Int) := of_decide_eq_true (by assumption)
 have qi7 : (0 < l4.length) = True := eq_true (by omega)
 obtain ⟨go7, co7, eo7, gb1, gl7, cl7, HG7⟩ := Kd.R_form HO4.out (by omega)
 (first | cases eo7 | (injection eo7 with ea_ en_ ec_; (first | subst ea_ | (injection ea_ with ea_; subst ea_)); subst ec_; clear en_))
 have GB7 := Aside0.mk gb1
 have GG7 := Aside0.mk HG7
 clear gb1 gl7 HG7
 have HMgo7 := Aside0.mk (show ((P0_ go7 ∨ P3_ go7 ∨ P4_ go7) ∨ w.heap.size ≤ go7) from (HO4.out.1 _ rfl).1)
 obtain ⟨hx7_0, hf7_0⟩ := Kd.R_celln 0 HO4.out (0 : Int) p7 q7
 (try rw [show ((0 : Int)).toNat = 0 from rfl] at hx7_0)
 (try simp only [Nat.reduceMul, Nat.zero_mul, Nat.zero_add, Nat.reduceAdd] at hx7_0)
 (try rw [show ((0 : Int)).toNat = 0 from rfl] at hf7_0)
 (try simp only [Nat.reduceMul, Nat.zero_mul, Nat.zero_add, Nat.reduceAdd] at hf7_0)
 replace p7 := eq_true p7
 replace q7 := eq_true q7
 have HP12 := Kd.R_putg HO4.out (0 : Int) a2
 go_enter Tryd.func83, Tryd.ntmps83
 have hq5_0 := cell_kept HG0.out HK.out HGN.out
 have hq5_1 := cell_kept HG1.out HK.out HGN.out
 have hq5_2 := cell_kept HG2.out HK.out HGN.out
 iterate 3 ((try go_wp2_with (first | ((with_reducible refine gate_store (t := 3) (p := 25) rfl ?_); refine store_event (t := 3) (p := 25) (v := ?vo_w13) (w1 := (w.setCell ⟨go7, (0 : Int).toNat, none⟩ (.int .i64 a2))) ?hg ?ho ?hn ?hr ?_; (case ho => rfl); (case hg => rfl); (case hn => rfl); (case hr => first | (go_simp; done) | (go_simp; rfl)); intro w13 hw; have hg : w.grownBy w13 (some go7) := (by rw [hw]; exact HP12.2); have hp_ : Kd.R (Kd.int .i64) 3 w13 w0.heap.size (fun k_ => ((P0_ k_ ∨ P3_ k_ ∨ P4_ k_) ∨ w.heap.size ≤ k_) ∧ some k_ ≠ (u9000_ : Value).ownBlock ∧ some k_ ≠ (u9001_ : Value).ownBlock) (.slice (some ⟨go7, 0, none⟩) l4.length co7) y145 := (by rw [hw, Ny145.out]; exact HP12.1); clear HP12; have n0_ := Aside0.mk (Kd.R_after (v := (.slice (some ⟨go7, 0, none⟩) l4.length co7)) (v1 := (.slice (some ⟨go7, 0, none⟩) l4.length co7)) (ok := (fun k_ => ((P0_ k_ ∨ P3_ k_ ∨ P4_ k_) ∨ w.heap.size ≤ k_) ∧ some k_ ≠ (u9001_ : Value).ownBlock)) (by exact Kd.R_mono HO0.out (fun _ hk => ⟨⟨hk.1, hk.2.1⟩, hk.2.2⟩)) hg (.inl rfl)); have n1_ := Aside0.mk (Kd.R_after (v := (.slice (some ⟨go7, 0, none⟩) l4.length co7)) (v1 := (.slice (some ⟨go7, 0, none⟩) l4.length co7)) (ok := (fun k_ => ((P0_ k_ ∨ P3_ k_ ∨ P4_ k_) ∨ w.heap.size ≤ k_) ∧ some k_ ≠ (u9000_ : Value).ownBlock)) (by exact Kd.R_mono HO3.out (fun _ hk => ⟨⟨hk.1, hk.2.1⟩, hk.2.2⟩)) hg (.inl rfl)); have n2_ := Aside0.mk (hp_); have n3_ := Aside0.mk ((by rw [hw]; exact below_set (HB.out) GB7.out : Below w0.heap.size w0 w13)); have n4_ := Aside0.mk (Kept.of_grown (S := (fun k_ => P0_ k_ ∨ P3_ k_ ∨ P4_ k_)) hg (by repeat (first | (with_reducible first | exact HK.out | apply Kept.alloc | apply Kept.drewN | apply Kept.drew) | exact HK.out)) (fun k_ e_ => (HO4.out.1 k_ e_).1)); clear HO0; clear HO3; clear HO4; clear HB; clear HK; have HO0 := n0_; have HO3 := n1_; have HO4 := n2_; have HB := n3_; have HK := n4_; have hq1_0 := cell_kept HG0.out HK.out HGN.out; have hq1_1 := cell_kept HG1.out HK.out HGN.out; have hq1_2 := cell_kept HG2.out HK.out HGN.out; clear n0_ n1_ n2_ n3_ n4_; clear hg hw hp_) | ((with_reducible refine gate_dst (N := 28) rfl ?_); refine Kd.R_make (Kd.int .i64) _ 3 rfl (N := 28) rfl 29 _ _ rfl ji8 rfl rfl Tryd.underlying29 (.int .i64 0) 8 info3 rfl (by decide) (by omega) 0 (ok := fun _ => True) (okp := fun _ => True) rfl (fun _ hk => hk) trivial (of_decide_eq_true (by assumption)) (Nat.le_trans (Nat.mul_le_mul_right _ (of_decide_eq_true (by assumption) : ji8.toNat ≤ 35184372088832)) (by omega)) (Below.refl _ _) (Nat.le_refl _) ?_; intro v147 w14 ho15 hb hg_ hnew_; clear hg_ hnew_; (first | rw [← Ny146.out] at ho15 | (simp only [Int.reduceToNat] at ho15; rw [← Ny146.out] at ho15)); have n0_ := Aside0.mk (Kd.R_elder' HO0.out (Kd.R_base ho15) hb); have n1_ := Aside0.mk (Kd.R_elder' HO3.out (Kd.R_base ho15) hb); have n2_ := Aside0.mk (Kd.R_elder' HO4.out (Kd.R_base ho15) hb); have n3_ := Aside0.mk (Kd.R_lower (Kd.R_new' (Kd.R_new' (Kd.R_new' (Kd.R_newM (M := fun k_ => ((P0_ k_ ∨ P3_ k_ ∨ P4_ k_) ∨ w.heap.size ≤ k_)) ho15 (by first | exact HK.out.1 | exact (show Kept w _ (fun k_ => P0_ k_ ∨ P3_ k_ ∨ P4_ k_) from by repeat (first | (with_reducible first | exact HK.out | apply Kept.alloc | apply Kept.drewN | apply Kept.drew) | exact HK.out)).1) (fun k_ h_ => .inr h_)) (Kd.R_lt HO0.out)) (Kd.R_lt HO3.out)) (Kd.R_lt HO4.out)) (below_size HB.out)); have n4_ := Aside0.mk (Kept.below (S := (fun k_ => P0_ k_ ∨ P3_ k_ ∨ P4_ k_)) (by repeat (first | (with_reducible first | exact HK.out | apply Kept.alloc | apply Kept.drewN | apply Kept.drew) | exact HK.out)) hb); have n5_ := mSt HB hb; clear HO0; clear HO3; clear HO4; clear HK; clear HB; have HO0 := n0_; have HO3 := n1_; have HO4 := n2_; have HO148 := n3_; have HK := n4_; have hq2_0 := cell_kept HG0.out HK.out HGN.out; have hq2_1 := cell_kept HG1.out HK.out HGN.out; have hq2_2 := cell_kept HG2.out HK.out HGN.out; have HB := n5_; clear n0_ n1_ n2_ n3_ n4_ n5_; clear hb ho15) | ((with_reducible refine gate_dst (N := 31) rfl ?_); refine Kd.R_make (Kd.int .i64) _ 3 rfl (N := 31) rfl 29 _ _ rfl ji8 rfl rfl Tryd.underlying29 (.int .i64 0) 8 info3 rfl (by decide) (by omega) 0 (ok := fun _ => True) (okp := fun _ => True) rfl (fun _ hk => hk) trivial (of_decide_eq_true (by assumption)) (Nat.le_trans (Nat.mul_le_mul_right _ (of_decide_eq_true (by assumption) : ji8.toNat ≤ 35184372088832)) (by omega)) (Below.refl _ _) (Nat.le_refl _) ?_; intro v150 w16 ho17 hb hg_ hnew_; clear hg_ hnew_; (first | rw [← Ny149.out] at ho17 | (simp only [Int.reduceToNat] at ho17; rw [← Ny149.out] at ho17)); have n0_ := Aside0.mk (Kd.R_elder' HO0.out (Kd.R_base ho17) hb); have n1_ := Aside0.mk (Kd.R_elder' HO3.out (Kd.R_base ho17) hb); have n2_ := Aside0.mk (Kd.R_elder' HO4.out (Kd.R_base ho17) hb); have n3_ := Aside0.mk (Kd.R_elder' HO148.out (Kd.R_base ho17) hb); have n4_ := Aside0.mk (Kd.R_lower (Kd.R_new' (Kd.R_new' (Kd.R_new' (Kd.R_new' (Kd.R_newM (M := fun k_ => ((P0_ k_ ∨ P3_ k_ ∨ P4_ k_) ∨ w.heap.size ≤ k_)) ho17 (by first | exact HK.out.1 | exact (show Kept w _ (fun k_ => P0_ k_ ∨ P3_ k_ ∨ P4_ k_) from by repeat (first | (with_reducible first | exact HK.out | apply Kept.alloc | apply Kept.drewN | apply Kept.drew) | exact HK.out)).1) (fun k_ h_ => .inr h_)) (Kd.R_lt HO0.out)) (Kd.R_lt HO3.out)) (Kd.R_lt HO4.out)) (Kd.R_lt HO148.out)) (below_size HB.out)); have n5_ := Aside0.mk (Kept.below (S := (fun k_ => P0_ k_ ∨ P3_ k_ ∨ P4_ k_)) (by repeat (first | (with_reducible first | exact HK.out | apply Kept.alloc | apply Kept.drewN | apply Kept.drew) | exact HK.out)) hb); have n6_ := mSt HB hb; clear HO0; clear HO3; clear HO4; clear HO148; clear HK; clear HB; have HO0 := n0_; have HO3 := n1_; have HO4 := n2_; have HO148 := n3_; have HO151 := n4_; have HK := n5_; have hq3_0 := cell_kept HG0.out HK.out HGN.out; have hq3_1 := cell_kept HG1.out HK.out HGN.out; have hq3_2 := cell_kept HG2.out HK.out HGN.out; have HB := n6_; clear n0_ n1_ n2_ n3_ n4_ n5_ n6_; clear hb ho17) | ((with_reducible refine gate_dst (N := 34) rfl ?_); refine Kd.R_make Kd.bool _ 4 rfl (N := 34) rfl 48 _ _ rfl ji8 rfl rfl Tryd.underlying48 (.bool false) 1 info4 rfl (by decide) (by omega) false (ok := fun _ => True) (okp := fun _ => True) rfl (fun _ hk => hk) trivial (of_decide_eq_true (by assumption)) (Nat.le_trans (Nat.mul_le_mul_right _ (of_decide_eq_true (by assumption) : ji8.toNat ≤ 281474976710656)) (by omega)) (Below.refl _ _) (Nat.le_refl _) ?_; intro v153 w18 ho19 hb hg_ hnew_; clear hg_ hnew_; (first | rw [← Ny152.out] at ho19 | (simp only [Int.reduceToNat] at ho19; rw [← Ny152.out] at ho19)); have n0_ := Aside0.mk (Kd.R_below HO0.out hb); have n1_ := Aside0.mk (Kd.R_below HO3.out hb); have n2_ := Aside0.mk (Kd.R_below HO4.out hb); have n3_ := Aside0.mk (Kd.R_below HO148.out hb); have n4_ := Aside0.mk (Kd.R_below HO151.out hb); have n5_ := Aside0.mk (Kd.R_lower (Kd.R_newM (M := fun k_ => ((P0_ k_ ∨ P3_ k_ ∨ P4_ k_) ∨ w.heap.size ≤ k_)) ho19 (by first | exact HK.out.1 | exact (show Kept w _ (fun k_ => P0_ k_ ∨ P3_ k_ ∨ P4_ k_) from by repeat (first | (with_reducible first | exact HK.out | apply Kept.alloc | apply Kept.drewN | apply Kept.drew) | exact HK.out)).1) (fun k_ h_ => .inr h_)) (below_size HB.out)); have n6_ := Aside0.mk (Kept.below (S := (fun k_ => P0_ k_ ∨ P3_ k_ ∨ P4_ k_)) (by repeat (first | (with_reducible first | exact HK.out | apply Kept.alloc | apply Kept.drewN | apply Kept.drew) | exact HK.out)) hb); have n7_ := mSt HB hb; clear HO0; clear HO3; clear HO4; clear HO148; clear HO151; clear HK; clear HB; have HO0 := n0_; have HO3 := n1_; have HO4 := n2_; have HO148 := n3_; have HO151 := n4_; have HO154 := n5_; have HK := n6_; have hq4_0 := cell_kept HG0.out HK.out HGN.out; have hq4_1 := cell_kept HG1.out HK.out HGN.out; have hq4_2 := cell_kept HG2.out HK.out HGN.out; have HB := n7_; clear n0_ n1_ n2_ n3_ n4_ n5_ n6_ n7_; clear hb ho19; obtain ⟨Ao20, co20, eo20⟩ := Kd.R_slice HO151.out; subst eo20))); (try go_step3); have hq15_0 := cell_kept HG0.out HK.out HGN.out; have hq15_1 := cell_kept HG1.out HK.out HGN.out; have hq15_2 := cell_kept HG2.out HK.out HGN.out)
 try go_step3
 go_loopg [37] k (fun kq v37 w' => ∃ (x8_1 : List Int) (x37_1 : Int), v37 = .int .i64 x37_1 ∧ Aside0 (assign_solved_add.l0 kq l0 l1 l3 y145 (l1.length : Int) y146 x8_1 y152 (y149.length : Int) x37_1 = some (r1, r2, r3)) ∧ Aside0 (kq ≤ k) ∧ Aside0 (Kd.R (Kd.int .i64) 3 w' w0.heap.size (fun k_ => ((P0_ k_ ∨ P3_ k_ ∨ P4_ k_) ∨ w.heap.size ≤ k_) ∧ some k_ ≠ (u9001_ : Value).ownBlock ∧ some k_ ≠ ((.slice (some ⟨go7, 0, none⟩) l4.length co7) : Value).ownBlock ∧ some k_ ≠ (v147 : Value).ownBlock ∧ some k_ ≠ ((.slice Ao20 y149.length co20) : Value).ownBlock) u9000_ l0) ∧ Aside0 (Kd.R (Kd.int .i64) 3 w' w0.heap.size (fun k_ => ((P0_ k_ ∨ P3_ k_ ∨ P4_ k_) ∨ w.heap.size ≤ k_) ∧ some k_ ≠ (u9000_ : Value).ownBlock ∧ some k_ ≠ ((.slice (some ⟨go7, 0, none⟩) l4.length co7) : Value).ownBlock ∧ some k_ ≠ (v147 : Value).ownBlock ∧ some k_ ≠ ((.slice Ao20 y149.length co20) : Value).ownBlock) u9001_ l3) ∧ Aside0 (Kd.R (Kd.int .i64) 3 w' w0.heap.size (fun k_ => ((P0_ k_ ∨ P3_ k_ ∨ P4_ k_) ∨ w.heap.size ≤ k_) ∧ some k_ ≠ (u9000_ : Value).ownBlock ∧ some k_ ≠ (u9001_ : Value).ownBlock ∧ some k_ ≠ (v147 : Value).ownBlock ∧ some k_ ≠ ((.slice Ao20 y149.length co20) : Value).ownBlock) (.slice (some ⟨go7, 0, none⟩) l4.length co7) y145) ∧ Aside0 (Kd.R (Kd.int .i64) 3 w' w0.heap.size (fun k_ => ((P0_ k_ ∨ P3_ k_ ∨ P4_ k_) ∨ w.heap.size ≤ k_) ∧ some k_ ≠ (u9000_ : Value).ownBlock ∧ some k_ ≠ (u9001_ : Value).ownBlock ∧ some k_ ≠ ((.slice (some ⟨go7, 0, none⟩) l4.length co7) : Value).ownBlock ∧ some k_ ≠ ((.slice Ao20 y149.length co20) : Value).ownBlock) v147 y146) ∧ Aside0 (Kd.R (Kd.int .i64) 3 w' w0.heap.size (fun k_ => ((P0_ k_ ∨ P3_ k_ ∨ P4_ k_) ∨ w.heap.size ≤ k_) ∧ some k_ ≠ (u9000_ : Value).ownBlock ∧ some k_ ≠ (u9001_ : Value).ownBlock ∧ some k_ ≠ ((.slice (some ⟨go7, 0, none⟩) l4.length co7) : Value).ownBlock ∧ some k_ ≠ (v147 : Value).ownBlock) (.slice Ao20 y149.length co20) x8_1) ∧ Aside0 (Kd.R Kd.bool 4 w' w0.heap.size (fun k_ => ((P0_ k_ ∨ P3_ k_ ∨ P4_ k_) ∨ w.heap.size ≤ k_)) v153 y152) ∧ Aside0 (Kept w w' (fun k_ => P0_ k_ ∨ P3_ k_ ∨ P4_ k_)) ∧ Aside0 (Below w0.heap.size w0 w'))
 case atStart => exact ⟨(y149), (0), rfl, H', ⟨Nat.le_refl _⟩, ⟨Kd.R_mono HO0.out (fun _ hk => ⟨hk.1.1.1.1, ⟨hk.1.1.1.2, ⟨hk.1.1.2, ⟨hk.1.2, hk.2⟩⟩⟩⟩)⟩, ⟨Kd.R_mono HO3.out (fun _ hk => ⟨hk.1.1.1.1, ⟨hk.1.1.1.2, ⟨hk.1.1.2, ⟨hk.1.2, hk.2⟩⟩⟩⟩)⟩, ⟨Kd.R_mono HO4.out (fun _ hk => ⟨hk.1.1.1, ⟨hk.1.1.2.1, ⟨hk.1.1.2.2, ⟨hk.1.2, hk.2⟩⟩⟩⟩)⟩, ⟨Kd.R_mono HO148.out (fun _ hk => ⟨hk.1.1.1.1.1, ⟨hk.1.1.1.2, ⟨hk.1.1.2, ⟨hk.1.2, hk.2⟩⟩⟩⟩)⟩, ⟨Kd.R_mono HO151.out (fun _ hk => ⟨hk.1.1.1.1.1, ⟨hk.1.1.1.2, ⟨hk.1.1.2, ⟨hk.1.2, hk.2⟩⟩⟩⟩)⟩, ⟨Kd.R_mono HO154.out (fun _ hk => hk.1)⟩, HK, ⟨HB.out⟩⟩
 case round =>
  clear H'
  clear c6b0 c6b1 p7 q7 qi7 c9b0 c9b1 c10b0 c10b1 c11b0 c11b1 hx7_0
  obtain ⟨x8_1, x37_1, rfl, HA, HK1, HO_0, HO_3, HO_4, HO_7, HO_8, HO_9, HK, HB⟩ := hrel
  have hl4_1 := (Kd.R_reads' HO_4.out).1
  rw [hl4_1] at HO_4
  (try simp only [hl4_1])
  (try simp only [hl4_1] at HO_0)
  (try simp only [hl4_1] at HO_3)
  (try simp only [hl4_1] at HO_7)
  (try simp only [hl4_1] at HO_8)
  (try simp only [hl4_1] at HO_9)
  have hl8_1 := (Kd.R_reads' HO_8.out).1
  rw [hl8_1] at HO_8
  (try simp only [hl8_1])
  (try simp only [hl8_1] at HO_0)
  (try simp only [hl8_1] at HO_3)
  (try simp only [hl8_1] at HO_4)
  (try simp only [hl8_1] at HO_7)
  (try simp only [hl8_1] at HO_9)
  cases gk with
  | zero => exact absurd HA.out (by simp [assign_solved_add.l0])
  | succ k1 =>
   have H := HA.out
   clear HA
   simp only [assign_solved_add.l0] at H
   by_cases c21 : x37_1 < (y149.length : Int)
   ·
    rw [if_pos c21] at H
    have c21b0 := decide_eq_true c21
    (try simp only [hl4_1] at c21b0)
    (try simp only [hl8_1] at c21b0)
    clear c21
    obtain ⟨c22, H⟩ : (0 ≤ x37_1) ∧ _ := mIf H
    have c22b0 := decide_eq_true c22
    clear c22
    obtain ⟨c23, H⟩ : (x37_1 < (x8_1.length : Int)) ∧ _ := mIf H
    have c23b0 := decide_eq_true c23
    (try simp only [hl4_1] at c23b0)
    (try simp only [hl8_1] at c23b0)
    clear c23
    obtain ⟨y155, hy155⟩ : ∃ y_ : List Int, y_ = (x8_1.set (x37_1 : Int).toNat 1152921504606846976) := ⟨_, rfl⟩
    rw [← hy155] at H
    have Ny155 := Aside0.mk hy155
    clear hy155
    have H' := Aside0.mk H
    clear H
    have p24 : 0 ≤ (x37_1 : Int) := of_decide_eq_true (by assumption)
    have q24 : (x37_1 : Int) < ((x8_1.length : Int) : Int) := of_decide_eq_true (by assumption)
    obtain ⟨go24, co24, eo24, gb2, gl24, cl24, HG24⟩ := Kd.R_form HO_8.out (by omega)
    (first | cases eo24 | (injection eo24 with ea_ en_ ec_; (first | subst ea_ | (injection ea_ with ea_; subst ea_)); subst ec_; clear en_))
    have GB24 := Aside0.mk gb2
    have GG24 := Aside0.mk HG24
    clear gb2 gl24 HG24
    have HMgo24 := Aside0.mk (show ((P0_ go24 ∨ P3_ go24 ∨ P4_ go24) ∨ w.heap.size ≤ go24) from (HO_8.out.1 _ rfl).1)
    obtain ⟨hx24_0, hf24_0⟩ := Kd.R_celln 0 HO_8.out (x37_1 : Int) p24 q24
    replace p24 := eq_true p24
    replace q24 := eq_true q24
    have HP25 := Kd.R_putg HO_8.out (x37_1 : Int) 1152921504606846976
    have hq17_0 := cell_kept HG0.out HK.out HGN.out
    have hq17_1 := cell_kept HG1.out HK.out HGN.out
    have hq17_2 := cell_kept HG2.out HK.out HGN.out
    go_wp2_with (first | ((with_reducible refine gate_store (t := 3) (p := 42) rfl ?_); refine store_event (t := 3) (p := 42) (v := ?vo_w26) (w1 := (wr.setCell ⟨go24, (x37_1 : Int).toNat, none⟩ (.int .i64 1152921504606846976))) ?hg ?ho ?hn ?hr ?_; (case ho => rfl); (case hg => rfl); (case hn => rfl); (case hr => first | (go_simp; done) | (go_simp; rfl)); intro w26 hw; have hg : wr.grownBy w26 (some go24) := (by rw [hw]; exact HP25.2); have hp_ : Kd.R (Kd.int .i64) 3 w26 w0.heap.size (fun k_ => ((P0_ k_ ∨ P3_ k_ ∨ P4_ k_) ∨ w.heap.size ≤ k_) ∧ some k_ ≠ (u9000_ : Value).ownBlock ∧ some k_ ≠ (u9001_ : Value).ownBlock ∧ some k_ ≠ (.slice (some ⟨go7, 0, none⟩) y145.length co7 : Value).ownBlock ∧ some k_ ≠ (v147 : Value).ownBlock) (.slice (some ⟨go24, 0, none⟩) x8_1.length co20) y155 := (by rw [hw, Ny155.out]; exact HP25.1); clear HP25; have n0_ := Aside0.mk (Kd.R_after (v := (.slice (some ⟨go24, 0, none⟩) x8_1.length co20)) (v1 := (.slice (some ⟨go24, 0, none⟩) x8_1.length co20)) (ok := (fun k_ => ((P0_ k_ ∨ P3_ k_ ∨ P4_ k_) ∨ w.heap.size ≤ k_) ∧ some k_ ≠ (u9001_ : Value).ownBlock ∧ some k_ ≠ (.slice (some ⟨go7, 0, none⟩) y145.length co7 : Value).ownBlock ∧ some k_ ≠ (v147 : Value).ownBlock)) (by exact Kd.R_mono HO_0.out (fun _ hk => ⟨⟨hk.1, ⟨hk.2.1, ⟨hk.2.2.1, hk.2.2.2.1⟩⟩⟩, hk.2.2.2.2⟩)) hg (.inl rfl)); have n1_ := Aside0.mk (Kd.R_after (v := (.slice (some ⟨go24, 0, none⟩) x8_1.length co20)) (v1 := (.slice (some ⟨go24, 0, none⟩) x8_1.length co20)) (ok := (fun k_ => ((P0_ k_ ∨ P3_ k_ ∨ P4_ k_) ∨ w.heap.size ≤ k_) ∧ some k_ ≠ (u9000_ : Value).ownBlock ∧ some k_ ≠ (.slice (some ⟨go7, 0, none⟩) y145.length co7 : Value).ownBlock ∧ some k_ ≠ (v147 : Value).ownBlock)) (by exact Kd.R_mono HO_3.out (fun _ hk => ⟨⟨hk.1, ⟨hk.2.1, ⟨hk.2.2.1, hk.2.2.2.1⟩⟩⟩, hk.2.2.2.2⟩)) hg (.inl rfl)); have n2_ := Aside0.mk (Kd.R_after (v := (.slice (some ⟨go24, 0, none⟩) x8_1.length co20)) (v1 := (.slice (some ⟨go24, 0, none⟩) x8_1.length co20)) (ok := (fun k_ => ((P0_ k_ ∨ P3_ k_ ∨ P4_ k_) ∨ w.heap.size ≤ k_) ∧ some k_ ≠ (u9000_ : Value).ownBlock ∧ some k_ ≠ (u9001_ : Value).ownBlock ∧ some k_ ≠ (v147 : Value).ownBlock)) (by exact Kd.R_mono HO_4.out (fun _ hk => ⟨⟨hk.1, ⟨hk.2.1, ⟨hk.2.2.1, hk.2.2.2.1⟩⟩⟩, hk.2.2.2.2⟩)) hg (.inl rfl)); have n3_ := Aside0.mk (Kd.R_after (v := (.slice (some ⟨go24, 0, none⟩) x8_1.length co20)) (v1 := (.slice (some ⟨go24, 0, none⟩) x8_1.length co20)) (ok := (fun k_ => ((P0_ k_ ∨ P3_ k_ ∨ P4_ k_) ∨ w.heap.size ≤ k_) ∧ some k_ ≠ (u9000_ : Value).ownBlock ∧ some k_ ≠ (u9001_ : Value).ownBlock ∧ some k_ ≠ (.slice (some ⟨go7, 0, none⟩) y145.length co7 : Value).ownBlock)) (by exact Kd.R_mono HO_7.out (fun _ hk => ⟨⟨hk.1, ⟨hk.2.1, ⟨hk.2.2.1, hk.2.2.2.1⟩⟩⟩, hk.2.2.2.2⟩)) hg (.inl rfl)); have n4_ := Aside0.mk (hp_); have n5_ := Aside0.mk (Kd.R_over' (v := (.slice (some ⟨go24, 0, none⟩) x8_1.length co20)) HO_9.out (Kd.R_typed HO_8.out) (by decide) hg); have n6_ := Aside0.mk ((by rw [hw]; exact below_set (HB.out) GB24.out : Below w0.heap.size w0 w26)); have n7_ := Aside0.mk (Kept.of_grown (S := (fun k_ => P0_ k_ ∨ P3_ k_ ∨ P4_ k_)) hg (by repeat (first | (with_reducible first | exact HK.out | apply Kept.alloc | apply Kept.drewN | apply Kept.drew) | exact HK.out)) (fun k_ e_ => (HO_8.out.1 k_ e_).1)); clear HO_0; clear HO_3; clear HO_4; clear HO_7; clear HO_8; clear HO_9; clear HB; clear HK; have HO_0 := n0_; have HO_3 := n1_; have HO_4 := n2_; have HO_7 := n3_; have HO_8 := n4_; have HO_9 := n5_; have HB := n6_; have HK := n7_; have hq16_0 := cell_kept HG0.out HK.out HGN.out; have hq16_1 := cell_kept HG1.out HK.out HGN.out; have hq16_2 := cell_kept HG2.out HK.out HGN.out; clear n0_ n1_ n2_ n3_ n4_ n5_ n6_ n7_; clear hg hw hp_))
    (try simp only [← hl4_1, ← hl8_1])
    go_roundg k1
    case measure => have := HK1.out; omega
    case rel => exact ⟨(y155), (wrap64 (x37_1 + 1)), rfl, H', ⟨by have := HK1.out; omega⟩, ⟨Kd.R_mono HO_0.out (fun _ hk => ⟨hk.1.1, ⟨hk.1.2.1, ⟨hk.1.2.2.1, ⟨hk.1.2.2.2, hk.2⟩⟩⟩⟩)⟩, ⟨Kd.R_mono HO_3.out (fun _ hk => ⟨hk.1.1, ⟨hk.1.2.1, ⟨hk.1.2.2.1, ⟨hk.1.2.2.2, hk.2⟩⟩⟩⟩)⟩, ⟨by (try simp only [hl4_1, hl8_1]); exact Kd.R_mono HO_4.out (fun _ hk => ⟨hk.1.1, ⟨hk.1.2.1, ⟨hk.1.2.2.1, ⟨hk.1.2.2.2, hk.2⟩⟩⟩⟩)⟩, ⟨Kd.R_mono HO_7.out (fun _ hk => ⟨hk.1.1, ⟨hk.1.2.1, ⟨hk.1.2.2.1, ⟨hk.1.2.2.2, hk.2⟩⟩⟩⟩)⟩, ⟨by (try simp only [hl4_1, hl8_1]); exact rO HO_8⟩, HO_9, HK, ⟨HB.out⟩⟩
   rw [if_neg c21] at H
   have c21b0 := decide_eq_false c21
   (try simp only [hl4_1] at c21b0)
   (try simp only [hl8_1] at c21b0)
   clear c21
   have H' := Aside0.mk H
   clear H
   have hq18_0 := cell_kept HG0.out HK.out HGN.out
   have hq18_1 := cell_kept HG1.out HK.out HGN.out
   have hq18_2 := cell_kept HG2.out HK.out HGN.out
   go_wp2
   try go_step3
   have hq19_0 := cell_kept HG0.out HK.out HGN.out
   have hq19_1 := cell_kept HG1.out HK.out HGN.out
   have hq19_2 := cell_kept HG2.out HK.out HGN.out
   try go_wp2
   try go_step3
   go_loopg [11] k1 (fun kq v11 w' => ∃ (x0_2 : List Int) (x3_2 : List Int) (x7_2 : List Int) (x8_2 : List Int) (x9_2 : List Bool) (x11_2 : Int), v11 = .int .i64 x11_2 ∧ Aside0 (assign_solved_add.l1 kq x0_2 l1 x3_2 y145 (l1.length : Int) x7_2 x8_2 x9_2 x11_2 = some (r1, r2, r3)) ∧ Aside0 (kq ≤ k1) ∧ Aside0 (Kd.R (Kd.int .i64) 3 w' w0.heap.size (fun k_ => ((P0_ k_ ∨ P3_ k_ ∨ P4_ k_) ∨ w.heap.size ≤ k_) ∧ some k_ ≠ (u9001_ : Value).ownBlock ∧ some k_ ≠ ((.slice (some ⟨go7, 0, none⟩) y145.length co7) : Value).ownBlock ∧ some k_ ≠ (v147 : Value).ownBlock ∧ some k_ ≠ ((.slice Ao20 x8_1.length co20) : Value).ownBlock) u9000_ x0_2) ∧ Aside0 (Kd.R (Kd.int .i64) 3 w' w0.heap.size (fun k_ => ((P0_ k_ ∨ P3_ k_ ∨ P4_ k_) ∨ w.heap.size ≤ k_) ∧ some k_ ≠ (u9000_ : Value).ownBlock ∧ some k_ ≠ ((.slice (some ⟨go7, 0, none⟩) y145.length co7) : Value).ownBlock ∧ some k_ ≠ (v147 : Value).ownBlock ∧ some k_ ≠ ((.slice Ao20 x8_1.length co20) : Value).ownBlock) u9001_ x3_2) ∧ Aside0 (Kd.R (Kd.int .i64) 3 w' w0.heap.size (fun k_ => ((P0_ k_ ∨ P3_ k_ ∨ P4_ k_) ∨ w.heap.size ≤ k_) ∧ some k_ ≠ (u9000_ : Value).ownBlock ∧ some k_ ≠ (u9001_ : Value).ownBlock ∧ some k_ ≠ (v147 : Value).ownBlock ∧ some k_ ≠ ((.slice Ao20 x8_1.length co20) : Value).ownBlock) (.slice (some ⟨go7, 0, none⟩) y145.length co7) y145) ∧ Aside0 (Kd.R (Kd.int .i64) 3 w' w0.heap.size (fun k_ => ((P0_ k_ ∨ P3_ k_ ∨ P4_ k_) ∨ w.heap.size ≤ k_) ∧ some k_ ≠ (u9000_ : Value).ownBlock ∧ some k_ ≠ (u9001_ : Value).ownBlock ∧ some k_ ≠ ((.slice (some ⟨go7, 0, none⟩) y145.length co7) : Value).ownBlock ∧ some k_ ≠ ((.slice Ao20 x8_1.length co20) : Value).ownBlock) v147 x7_2) ∧ Aside0 (Kd.R (Kd.int .i64) 3 w' w0.heap.size (fun k_ => ((P0_ k_ ∨ P3_ k_ ∨ P4_ k_) ∨ w.heap.size ≤ k_) ∧ some k_ ≠ (u9000_ : Value).ownBlock ∧ some k_ ≠ (u9001_ : Value).ownBlock ∧ some k_ ≠ ((.slice (some ⟨go7, 0, none⟩) y145.length co7) : Value).ownBlock ∧ some k_ ≠ (v147 : Value).ownBlock) (.slice Ao20 x8_1.length co20) x8_2) ∧ Aside0 (Kd.R Kd.bool 4 w' w0.heap.size (fun k_ => ((P0_ k_ ∨ P3_ k_ ∨ P4_ k_) ∨ w.heap.size ≤ k_)) v153 x9_2) ∧ Aside0 (Kept w w' (fun k_ => P0_ k_ ∨ P3_ k_ ∨ P4_ k_)) ∧ Aside0 (Below w0.heap.size w0 w'))
   case atStart => exact ⟨(l0), (l3), (y146), (x8_1), (y152), (0), rfl, H', ⟨Nat.le_refl _⟩, HO_0, HO_3, HO_4, HO_7, HO_8, HO_9, HK, ⟨HB.out⟩⟩
   case round =>
    clear H'
    clear c21b0
    obtain ⟨x0_2, x3_2, x7_2, x8_2, x9_2, x11_2, rfl, HA, HK2, HO_0, HO_3, HO_4, HO_7, HO_8, HO_9, HK, HB⟩ := hrel
    have hl8_2 := (Kd.R_reads' HO_8.out).1
    rw [hl8_2] at HO_8
    (try simp only [hl8_2])
    (try simp only [hl8_2] at HO_0)
    (try simp only [hl8_2] at HO_3)
    (try simp only [hl8_2] at HO_4)
    (try simp only [hl8_2] at HO_7)
    (try simp only [hl8_2] at HO_9)
    cases gk with
    | zero => exact absurd HA.out (by simp [assign_solved_add.l1])
    | succ k2 =>
     have H := HA.out
     clear HA
     simp only [assign_solved_add.l1] at H
     obtain ⟨c27, H⟩ : (0 ≤ x11_2) ∧ _ := mIf H
     have c27b0 := decide_eq_true c27
     clear c27
     obtain ⟨c28, H⟩ : (x11_2 < (x9_2.length : Int)) ∧ _ := mIf H
     have c28b0 := decide_eq_true c28
     (try simp only [hl4_1] at c28b0)
     (try simp only [hl8_1] at c28b0)
     (try simp only [hl8_2] at c28b0)
     clear c28
     obtain ⟨y156, hy156⟩ : ∃ y_ : List Bool, y_ = (x9_2.set (x11_2 : Int).toNat true) := ⟨_, rfl⟩
     rw [← hy156] at H
     have Ny156 := Aside0.mk hy156
     clear hy156
     obtain ⟨c30, H⟩ : (x11_2 < (y145.length : Int)) ∧ _ := mIf H
     have c30b0 := decide_eq_true c30
     (try simp only [hl4_1] at c30b0)
     (try simp only [hl8_1] at c30b0)
     (try simp only [hl8_2] at c30b0)
     clear c30
     have H' := Aside0.mk H
     clear H
     have p29 : 0 ≤ (x11_2 : Int) := of_decide_eq_true (by assumption)
     have q29 : (x11_2 : Int) < ((x9_2.length : Int) : Int) := of_decide_eq_true (by assumption)
     obtain ⟨go29, co29, eo29, gb3, gl29, cl29, HG29⟩ := Kd.R_form HO_9.out (by omega)
     (first | cases eo29 | (injection eo29 with ea_ en_ ec_; (first | subst ea_ | (injection ea_ with ea_; subst ea_)); subst ec_; clear en_))
     have GB29 := Aside0.mk gb3
     have GG29 := Aside0.mk HG29
     clear gb3 gl29 HG29
     have HMgo29 := Aside0.mk (show ((P0_ go29 ∨ P3_ go29 ∨ P4_ go29) ∨ w.heap.size ≤ go29) from (HO_9.out.1 _ rfl))
     obtain ⟨hx29_0, hf29_0⟩ := Kd.R_celln false HO_9.out (x11_2 : Int) p29 q29
     replace p29 := eq_true p29
     replace q29 := eq_true q29
     have HP31 := Kd.R_putg HO_9.out (x11_2 : Int) true
     have hq21_0 := cell_kept HG0.out HK.out HGN.out
     have hq21_1 := cell_kept HG1.out HK.out HGN.out
     have hq21_2 := cell_kept HG2.out HK.out HGN.out
     iterate 2 ((try go_wp2_with (first | ((with_reducible refine gate_store (t := 4) (p := 46) rfl ?_); refine store_event (t := 4) (p := 46) (v := ?vo_w32) (w1 := (wr.setCell ⟨go29, (x11_2 : Int).toNat, none⟩ (.bool true))) ?hg ?ho ?hn ?hr ?_; (case ho => rfl); (case hg => rfl); (case hn => rfl); (case hr => first | (go_simp; done) | (go_simp; rfl)); intro w32 hw; have hg : wr.grownBy w32 (some go29) := (by rw [hw]; exact HP31.2); have hp_ : Kd.R Kd.bool 4 w32 w0.heap.size (fun k_ => ((P0_ k_ ∨ P3_ k_ ∨ P4_ k_) ∨ w.heap.size ≤ k_)) (.slice (some ⟨go29, 0, none⟩) x9_2.length co29) y156 := (by rw [hw, Ny156.out]; exact HP31.1); clear HP31; have n0_ := Aside0.mk (Kd.R_over' (v := (.slice (some ⟨go29, 0, none⟩) x9_2.length co29)) HO_0.out (Kd.R_typed HO_9.out) (by decide) hg); have n1_ := Aside0.mk (Kd.R_over' (v := (.slice (some ⟨go29, 0, none⟩) x9_2.length co29)) HO_3.out (Kd.R_typed HO_9.out) (by decide) hg); have n2_ := Aside0.mk (Kd.R_over' (v := (.slice (some ⟨go29, 0, none⟩) x9_2.length co29)) HO_4.out (Kd.R_typed HO_9.out) (by decide) hg); have n3_ := Aside0.mk (Kd.R_over' (v := (.slice (some ⟨go29, 0, none⟩) x9_2.length co29)) HO_7.out (Kd.R_typed HO_9.out) (by decide) hg); have n4_ := Aside0.mk (Kd.R_over' (v := (.slice (some ⟨go29, 0, none⟩) x9_2.length co29)) HO_8.out (Kd.R_typed HO_9.out) (by decide) hg); have n5_ := Aside0.mk (hp_); have n6_ := Aside0.mk ((by rw [hw]; exact below_set (HB.out) GB29.out : Below w0.heap.size w0 w32)); have n7_ := Aside0.mk (Kept.of_grown (S := (fun k_ => P0_ k_ ∨ P3_ k_ ∨ P4_ k_)) hg (by repeat (first | (with_reducible first | exact HK.out | apply Kept.alloc | apply Kept.drewN | apply Kept.drew) | exact HK.out)) (fun k_ e_ => (HO_9.out.1 k_ e_))); clear HO_0; clear HO_3; clear HO_4; clear HO_7; clear HO_8; clear HO_9; clear HB; clear HK; have HO_0 := n0_; have HO_3 := n1_; have HO_4 := n2_; have HO_7 := n3_; have HO_8 := n4_; have HO_9 := n5_; have HB := n6_; have HK := n7_; have hq20_0 := cell_kept HG0.out HK.out HGN.out; have hq20_1 := cell_kept HG1.out HK.out HGN.out; have hq20_2 := cell_kept HG2.out HK.out HGN.out; clear n0_ n1_ n2_ n3_ n4_ n5_ n6_ n7_; clear hg hw hp_; have p157 : 0 ≤ (x11_2 : Int) := of_decide_eq_true (by assumption); have q157 : x11_2 < (y145.length : Int) := of_decide_eq_true (by assumption); obtain ⟨ad157, e157, hx157_0⟩ := Kd.at_int (Kd.R_reads' HO_4.out).2.2 x11_2 p157 q157; obtain rfl : (⟨go7, 0, none⟩ : Addr) = ad157 := (by injection e157); (first | simp only [add_plain] at hx157_0 | simp only [add_at] at hx157_0 | simp only [Addr.add, Nat.zero_add] at hx157_0 | skip); replace p157 := eq_true p157; replace q157 := eq_true q157))); (try go_step3); have hq23_0 := cell_kept HG0.out HK.out HGN.out; have hq23_1 := cell_kept HG1.out HK.out HGN.out; have hq23_2 := cell_kept HG2.out HK.out HGN.out)
     try go_step3
     go_loopg [13, 14, 15] k2 (fun kq v13 v14 v15 w' => ∃ (x7_3 : List Int) (x8_3 : List Int) (x13_3 : Int) (x14_3 : Int) (x15_3 : Int), v13 = .int .i64 x13_3 ∧ v14 = .int .i64 x14_3 ∧ v15 = .int .i64 x15_3 ∧ Aside0 (assign_solved_add.l2 kq x0_2 l1 x3_2 y145 (l1.length : Int) x7_3 x8_3 y156 x11_2 (rd y145 x11_2) x13_3 x14_3 x15_3 = some (r1, r2, r3)) ∧ Aside0 (kq ≤ k2) ∧ Aside0 (Kd.R (Kd.int .i64) 3 w' w0.heap.size (fun k_ => ((P0_ k_ ∨ P3_ k_ ∨ P4_ k_) ∨ w.heap.size ≤ k_) ∧ some k_ ≠ (u9001_ : Value).ownBlock ∧ some k_ ≠ ((.slice (some ⟨go7, 0, none⟩) y145.length co7) : Value).ownBlock ∧ some k_ ≠ (v147 : Value).ownBlock ∧ some k_ ≠ ((.slice Ao20 x8_2.length co20) : Value).ownBlock) u9000_ x0_2) ∧ Aside0 (Kd.R (Kd.int .i64) 3 w' w0.heap.size (fun k_ => ((P0_ k_ ∨ P3_ k_ ∨ P4_ k_) ∨ w.heap.size ≤ k_) ∧ some k_ ≠ (u9000_ : Value).ownBlock ∧ some k_ ≠ ((.slice (some ⟨go7, 0, none⟩) y145.length co7) : Value).ownBlock ∧ some k_ ≠ (v147 : Value).ownBlock ∧ some k_ ≠ ((.slice Ao20 x8_2.length co20) : Value).ownBlock) u9001_ x3_2) ∧ Aside0 (Kd.R (Kd.int .i64) 3 w' w0.heap.size (fun k_ => ((P0_ k_ ∨ P3_ k_ ∨ P4_ k_) ∨ w.heap.size ≤ k_) ∧ some k_ ≠ (u9000_ : Value).ownBlock ∧ some k_ ≠ (u9001_ : Value).ownBlock ∧ some k_ ≠ (v147 : Value).ownBlock ∧ some k_ ≠ ((.slice Ao20 x8_2.length co20) : Value).ownBlock) (.slice (some ⟨go7, 0, none⟩) y145.length co7) y145) ∧ Aside0 (Kd.R (Kd.int .i64) 3 w' w0.heap.size (fun k_ => ((P0_ k_ ∨ P3_ k_ ∨ P4_ k_) ∨ w.heap.size ≤ k_) ∧ some k_ ≠ (u9000_ : Value).ownBlock ∧ some k_ ≠ (u9001_ : Value).ownBlock ∧ some k_ ≠ ((.slice (some ⟨go7, 0, none⟩) y145.length co7) : Value).ownBlock ∧ some k_ ≠ ((.slice Ao20 x8_2.length co20) : Value).ownBlock) v147 x7_3) ∧ Aside0 (Kd.R (Kd.int .i64) 3 w' w0.heap.size (fun k_ => ((P0_ k_ ∨ P3_ k_ ∨ P4_ k_) ∨ w.heap.size ≤ k_) ∧ some k_ ≠ (u9000_ : Value).ownBlock ∧ some k_ ≠ (u9001_ : Value).ownBlock ∧ some k_ ≠ ((.slice (some ⟨go7, 0, none⟩) y145.length co7) : Value).ownBlock ∧ some k_ ≠ (v147 : Value).ownBlock) (.slice Ao20 x8_2.length co20) x8_3) ∧ Aside0 (Kd.R Kd.bool 4 w' w0.heap.size (fun k_ => ((P0_ k_ ∨ P3_ k_ ∨ P4_ k_) ∨ w.heap.size ≤ k_)) (.slice (some ⟨go29, 0, none⟩) x9_2.length co29) y156) ∧ Aside0 (Kept w w' (fun k_ => P0_ k_ ∨ P3_ k_ ∨ P4_ k_)) ∧ Aside0 (Below w0.heap.size w0 w'))
     case atStart => exact ⟨(x7_2), (x8_2), (0), (1152921504606846976), (1), rfl, rfl, rfl, H', ⟨Nat.le_refl _⟩, HO_0, HO_3, HO_4, HO_7, HO_8, HO_9, HK, ⟨HB.out⟩⟩
     case round =>
      clear H'
      clear c27b0 c28b0 p29 q29 c30b0 hx157_0 hx29_0 p157 q157
      obtain ⟨x7_3, x8_3, x13_3, x14_3, x15_3, rfl, rfl, rfl, HA, HK3, HO_0, HO_3, HO_4, HO_7, HO_8, HO_9, HK, HB⟩ := hrel
      have hl8_3 := (Kd.R_reads' HO_8.out).1
      rw [hl8_3] at HO_8
      (try simp only [hl8_3])
      (try simp only [hl8_3] at HO_0)
      (try simp only [hl8_3] at HO_3)
      (try simp only [hl8_3] at HO_4)
      (try simp only [hl8_3] at HO_7)
      (try simp only [hl8_3] at HO_9)
      have hl9_3 := (Kd.R_reads' HO_9.out).1
      rw [hl9_3] at HO_9
      (try simp only [hl9_3])
      (try simp only [hl9_3] at HO_0)
      (try simp only [hl9_3] at HO_3)
      (try simp only [hl9_3] at HO_4)
      (try simp only [hl9_3] at HO_7)
      (try simp only [hl9_3] at HO_8)
      cases gk with
      | zero => exact absurd HA.out (by simp [assign_solved_add.l2])
      | succ k3 =>
       have H := HA.out
       clear HA
       simp only [assign_solved_add.l2] at H
       by_cases c33 : x15_3 ≤ (l1.length : Int)
       ·
        rw [if_pos c33] at H
        have c33b0 := decide_eq_true c33
        (try simp only [hl4_1] at c33b0)
        (try simp only [hl8_1] at c33b0)
        (try simp only [hl8_2] at c33b0)
        (try simp only [hl8_3] at c33b0)
        (try simp only [hl9_3] at c33b0)
        clear c33
        obtain ⟨c34, H⟩ : (0 ≤ x15_3) ∧ _ := mIf H
        have c34b0 := decide_eq_true c34
        clear c34
        obtain ⟨c35, H⟩ : (x15_3 < (y156.length : Int)) ∧ _ := mIf H
        have c35b0 := decide_eq_true c35
        (try simp only [hl4_1] at c35b0)
        (try simp only [hl8_1] at c35b0)
        (try simp only [hl8_2] at c35b0)
        (try simp only [hl8_3] at c35b0)
        (try simp only [hl9_3] at c35b0)
        clear c35
        obtain ⟨bq36, hbq36⟩ : ∃ b_ : Bool, b_ = (rdOf false y156 x15_3) := ⟨_, rfl⟩
        replace H : (if bq36 = true then (assign_solved_add.l2 k3 x0_2 l1 x3_2 y145 (l1.length : Int) x7_3 x8_3 y156 x11_2 (rd y145 x11_2) x13_3 x14_3 (wrap64 (x15_3 + 1))) else (if 0 ≤ (wrap64 ((rd y145 x11_2) - 1)) then (if (wrap64 ((rd y145 x11_2) - 1)) < (l1.length : Int) then (if 0 ≤ (wrap64 (x15_3 - 1)) then (if (wrap64 (x15_3 - 1)) < ((rd_L2 l1 (wrap64 ((rd y145 x11_2) - 1))).length : Int) then (if 0 ≤ (rd y145 x11_2) then (if (rd y145 x11_2) < (x0_2.length : Int) then (if x15_3 < (x3_2.length : Int) then (if x15_3 < (x8_3.length : Int) then (if (wrap64 ((wrap64 ((rd (rd_L2 l1 (wrap64 ((rd y145 x11_2) - 1))) (wrap64 (x15_3 - 1))) - (rd x0_2 (rd y145 x11_2)))) - (rd x3_2 x15_3))) < (rd x8_3 x15_3) then (if x15_3 < (x7_3.length : Int) then (assign_solved_add.j3 k3 x0_2 l1 x3_2 y145 (l1.length : Int) (x7_3.set (x15_3 : Int).toNat x11_2) (x8_3.set (x15_3 : Int).toNat (wrap64 ((wrap64 ((rd (rd_L2 l1 (wrap64 ((rd y145 x11_2) - 1))) (wrap64 (x15_3 - 1))) - (rd x0_2 (rd y145 x11_2)))) - (rd x3_2 x15_3)))) y156 x11_2 (rd y145 x11_2) x13_3 x14_3 x15_3) else (none)) else (assign_solved_add.j3 k3 x0_2 l1 x3_2 y145 (l1.length : Int) x7_3 x8_3 y156 x11_2 (rd y145 x11_2) x13_3 x14_3 x15_3)) else (none)) else (none)) else (none)) else (none)) else (none)) else (none)) else (none)) else (none))) = some (r1, r2, r3) := by rw [← hbq36] at H; exact H
        have Nbq36 := Aside0.mk hbq36
        clear hbq36
        by_cases c37 : bq36 = true
        ·
         subst c37
         rw [if_pos rfl] at H
         have H' := Aside0.mk H
         clear H
         have p158 : 0 ≤ (x15_3 : Int) := of_decide_eq_true (by assumption)
         have q158 : x15_3 < (y156.length : Int) := of_decide_eq_true (by assumption)
         obtain ⟨ad158, e158, hx158_0⟩ := Kd.at_bool (Kd.R_reads' HO_9.out).2.2 x15_3 p158 q158
         (try rw [← Nbq36.out] at hx158_0)
         obtain rfl : (⟨go29, 0, none⟩ : Addr) = ad158 := (by injection e158)
         (first | simp only [add_plain] at hx158_0 | simp only [add_at] at hx158_0 | simp only [Addr.add, Nat.zero_add] at hx158_0 | skip)
         replace p158 := eq_true p158
         replace q158 := eq_true q158
         have hq24_0 := cell_kept HG0.out HK.out HGN.out
         have hq24_1 := cell_kept HG1.out HK.out HGN.out
         have hq24_2 := cell_kept HG2.out HK.out HGN.out
         go_wp2
         (try simp only [← hl8_3, ← hl9_3])
         go_roundg k3
         case measure => have := HK1.out; have := HK2.out; have := HK3.out; omega
         case rel => exact ⟨(x7_3), (x8_3), (x13_3), (x14_3), (wrap64 (x15_3 + 1)), rfl, rfl, rfl, H', ⟨by have := HK1.out; have := HK2.out; have := HK3.out; omega⟩, ⟨by (try simp only [hl4_1, hl8_1, hl8_2, hl8_3, hl9_3]); exact rO HO_0⟩, ⟨by (try simp only [hl4_1, hl8_1, hl8_2, hl8_3, hl9_3]); exact rO HO_3⟩, ⟨by (try simp only [hl4_1, hl8_1, hl8_2, hl8_3, hl9_3]); exact rO HO_4⟩, ⟨by (try simp only [hl4_1, hl8_1, hl8_2, hl8_3, hl9_3]); exact rO HO_7⟩, ⟨by (try simp only [hl4_1, hl8_1, hl8_2, hl8_3, hl9_3]); exact rO HO_8⟩, ⟨by (try simp only [hl4_1, hl8_1, hl8_2, hl8_3, hl9_3]); exact rO HO_9⟩, HK, ⟨HB.out⟩⟩
        replace c37 := Bool.eq_false_iff.mpr c37
        subst c37
        rw [if_neg (show ¬ (false = true) by decide)] at H
        obtain ⟨ji38, hji38⟩ : ∃ j_ : Int, (wrap64 ((rd y145 x11_2) - 1)) = j_ := ⟨_, rfl⟩
        replace H : (if 0 ≤ (ji38) then (if (ji38) < (l1.length : Int) then (if 0 ≤ (wrap64 (x15_3 - 1)) then (if (wrap64 (x15_3 - 1)) < ((rd_L2 l1 (ji38)).length : Int) then (if 0 ≤ (rd y145 x11_2) then (if (rd y145 x11_2) < (x0_2.length : Int) then (if x15_3 < (x3_2.length : Int) then (if x15_3 < (x8_3.length : Int) then (if (wrap64 ((wrap64 ((rd (rd_L2 l1 (ji38)) (wrap64 (x15_3 - 1))) - (rd x0_2 (rd y145 x11_2)))) - (rd x3_2 x15_3))) < (rd x8_3 x15_3) then (if x15_3 < (x7_3.length : Int) then (assign_solved_add.j3 k3 x0_2 l1 x3_2 y145 (l1.length : Int) (x7_3.set (x15_3 : Int).toNat x11_2) (x8_3.set (x15_3 : Int).toNat (wrap64 ((wrap64 ((rd (rd_L2 l1 (ji38)) (wrap64 (x15_3 - 1))) - (rd x0_2 (rd y145 x11_2)))) - (rd x3_2 x15_3)))) y156 x11_2 (rd y145 x11_2) x13_3 x14_3 x15_3) else (none)) else (assign_solved_add.j3 k3 x0_2 l1 x3_2 y145 (l1.length : Int) x7_3 x8_3 y156 x11_2 (rd y145 x11_2) x13_3 x14_3 x15_3)) else (none)) else (none)) else (none)) else (none)) else (none)) else (none)) else (none)) else (none)) = some (r1, r2, r3) := by first | (rw [hji38] at H; exact H) | (simp only [hji38] at H ⊢; exact H)
        have hji38w : (IntKind.i64.wrap ((rd y145 x11_2) - 1)) = ji38 := (i64_w _).trans hji38
        obtain ⟨c39, H⟩ : (0 ≤ (ji38)) ∧ _ := mIf H
        have c39b0 := decide_eq_true c39
        clear c39
        obtain ⟨c40, H⟩ : ((ji38) < (l1.length : Int)) ∧ _ := mIf H
        have c40b0 := decide_eq_true c40
        (try simp only [hl4_1] at c40b0)
        (try simp only [hl8_1] at c40b0)
        (try simp only [hl8_2] at c40b0)
        (try simp only [hl8_3] at c40b0)
        (try simp only [hl9_3] at c40b0)
        clear c40
        obtain ⟨ji41, hji41⟩ : ∃ j_ : Int, (wrap64 (x15_3 - 1)) = j_ := ⟨_, rfl⟩
        replace H : (if 0 ≤ (ji41) then (if (ji41) < ((rd_L2 l1 (ji38)).length : Int) then (if 0 ≤ (rd y145 x11_2) then (if (rd y145 x11_2) < (x0_2.length : Int) then (if x15_3 < (x3_2.length : Int) then (if x15_3 < (x8_3.length : Int) then (if (wrap64 ((wrap64 ((rd (rd_L2 l1 (ji38)) (ji41)) - (rd x0_2 (rd y145 x11_2)))) - (rd x3_2 x15_3))) < (rd x8_3 x15_3) then (if x15_3 < (x7_3.length : Int) then (assign_solved_add.j3 k3 x0_2 l1 x3_2 y145 (l1.length : Int) (x7_3.set (x15_3 : Int).toNat x11_2) (x8_3.set (x15_3 : Int).toNat (wrap64 ((wrap64 ((rd (rd_L2 l1 (ji38)) (ji41)) - (rd x0_2 (rd y145 x11_2)))) - (rd x3_2 x15_3)))) y156 x11_2 (rd y145 x11_2) x13_3 x14_3 x15_3) else (none)) else (assign_solved_add.j3 k3 x0_2 l1 x3_2 y145 (l1.length : Int) x7_3 x8_3 y156 x11_2 (rd y145 x11_2) x13_3 x14_3 x15_3)) else (none)) else (none)) else (none)) else (none)) else (none)) else (none)) = some (r1, r2, r3) := by first | (rw [hji41] at H; exact H) | (simp only [hji41] at H ⊢; exact H)
        have hji41w : (IntKind.i64.wrap (x15_3 - 1)) = ji41 := (i64_w _).trans hji41
        obtain ⟨c42, H⟩ : (0 ≤ (ji41)) ∧ _ := mIf H
        have c42b0 := decide_eq_true c42
        clear c42
        obtain ⟨c43, H⟩ : ((ji41) < ((rd_L2 l1 (ji38)).length : Int)) ∧ _ := mIf H
        have c43b0 := decide_eq_true c43
        (try simp only [hl4_1] at c43b0)
        (try simp only [hl8_1] at c43b0)
        (try simp only [hl8_2] at c43b0)
        (try simp only [hl8_3] at c43b0)
        (try simp only [hl9_3] at c43b0)
        clear c43
        obtain ⟨c44, H⟩ : (0 ≤ (rd y145 x11_2)) ∧ _ := mIf H
        have c44b0 := decide_eq_true c44
        clear c44
        obtain ⟨c45, H⟩ : ((rd y145 x11_2) < (x0_2.length : Int)) ∧ _ := mIf H
        have c45b0 := decide_eq_true c45
        (try simp only [hl4_1] at c45b0)
        (try simp only [hl8_1] at c45b0)
        (try simp only [hl8_2] at c45b0)
        (try simp only [hl8_3] at c45b0)
        (try simp only [hl9_3] at c45b0)
        clear c45
        obtain ⟨c46, H⟩ : (x15_3 < (x3_2.length : Int)) ∧ _ := mIf H
        have c46b0 := decide_eq_true c46
        (try simp only [hl4_1] at c46b0)
        (try simp only [hl8_1] at c46b0)
        (try simp only [hl8_2] at c46b0)
        (try simp only [hl8_3] at c46b0)
        (try simp only [hl9_3] at c46b0)
        clear c46
        obtain ⟨c47, H⟩ : (x15_3 < (x8_3.length : Int)) ∧ _ := mIf H
        have c47b0 := decide_eq_true c47
        (try simp only [hl4_1] at c47b0)
        (try simp only [hl8_1] at c47b0)
        (try simp only [hl8_2] at c47b0)
        (try simp only [hl8_3] at c47b0)
        (try simp only [hl9_3] at c47b0)
        clear c47
        have HC48 := Aside0.mk H
        clear H
        have p158 : 0 ≤ (x15_3 : Int) := of_decide_eq_true (by assumption)
        have q158 : x15_3 < (y156.length : Int) := of_decide_eq_true (by assumption)
        obtain ⟨ad158, e158, hx158_0⟩ := Kd.at_bool (Kd.R_reads' HO_9.out).2.2 x15_3 p158 q158
        (try rw [← Nbq36.out] at hx158_0)
        obtain rfl : (⟨go29, 0, none⟩ : Addr) = ad158 := (by injection e158)
        (first | simp only [add_plain] at hx158_0 | simp only [add_at] at hx158_0 | simp only [Addr.add, Nat.zero_add] at hx158_0 | skip)
        replace p158 := eq_true p158
        replace q158 := eq_true q158
        have hq25_0 := cell_kept HG0.out HK.out HGN.out
        have hq25_1 := cell_kept HG1.out HK.out HGN.out
        have hq25_2 := cell_kept HG2.out HK.out HGN.out
        try go_wp2
        have n0_ := Aside0.mk (Kd.R_drew HO_0.out)
        have n1_ := Aside0.mk (Kd.R_drew HO_3.out)
        have n2_ := Aside0.mk (Kd.R_drew HO_4.out)
        have n3_ := Aside0.mk (Kd.R_drew HO_7.out)
        have n4_ := Aside0.mk (Kd.R_drew HO_8.out)
        have n5_ := Aside0.mk (Kd.R_drew HO_9.out)
        have n6_ := Aside0.mk (Kept.drew HK.out)
        have n7_ := Aside0.mk (below_drew1 HB.out)
        clear HO_0; clear HO_3; clear HO_4; clear HO_7; clear HO_8; clear HO_9; clear HK; clear HB
        have HO_0 := n0_
        have HO_3 := n1_
        have HO_4 := n2_
        have HO_7 := n3_
        have HO_8 := n4_
        have HO_9 := n5_
        have HK := n6_
        have hq26_0 := cell_kept HG0.out HK.out HGN.out
        have hq26_1 := cell_kept HG1.out HK.out HGN.out
        have hq26_2 := cell_kept HG2.out HK.out HGN.out
        have HB := n7_
        clear n0_ n1_ n2_ n3_ n4_ n5_ n6_ n7_
        have p159 : 0 ≤ ((ji38) : Int) := of_decide_eq_true (by assumption)
        have q159 : (ji38) < (l1.length : Int) := of_decide_eq_true (by assumption)
        obtain ⟨ad159, A159_0, c159_0, e159, hx159_0, hl159_0, hi159_0⟩ := at_L2 (Kd.C_kept_now HR1.out HK.out) (ji38) p159 q159
        have hw159_0 := hx159_0
        cases e159
        have HR159_0 := Aside0.mk hi159_0
        have HC159_0 := Aside0.mk hl159_0
        clear hi159_0 hl159_0
        replace p159 := eq_true p159
        replace q159 := eq_true q159
        have p160 : 0 ≤ ((ji41) : Int) := of_decide_eq_true (by assumption)
        have q160 : (ji41) < ((rd_L2 l1 (ji38)).length : Int) := of_decide_eq_true (by assumption)
        obtain ⟨ad160, e160, hx160_0⟩ := Kd.at_int (by repeat (first | (with_reducible exact HR159_0.out) | (with_reducible refine Kd.C_alloc ?_ _) | (with_reducible refine Kd.C_drewN ?_ _) | (with_reducible refine Kd.C_drew ?_) | exact HR159_0.out)) (ji41) p160 q160
        cases e160
        replace p160 := eq_true p160
        replace q160 := eq_true q160
        obtain ⟨Ao50, co50, eo50⟩ := Kd.R_slice HO_0.out
        subst eo50
        have p161 : 0 ≤ ((rd y145 x11_2) : Int) := of_decide_eq_true (by assumption)
        have q161 : (rd y145 x11_2) < (x0_2.length : Int) := of_decide_eq_true (by assumption)
        obtain ⟨ad161, e161, hx161_0⟩ := Kd.at_int (Kd.R_reads' HO_0.out).2.2 (rd y145 x11_2) p161 q161
        cases e161
        replace p161 := eq_true p161
        replace q161 := eq_true q161
        obtain ⟨Ao51, co51, eo51⟩ := Kd.R_slice HO_3.out
        subst eo51
        have p162 : 0 ≤ (x15_3 : Int) := of_decide_eq_true (by assumption)
        have q162 : x15_3 < (x3_2.length : Int) := of_decide_eq_true (by assumption)
        obtain ⟨ad162, e162, hx162_0⟩ := Kd.at_int (Kd.R_reads' HO_3.out).2.2 x15_3 p162 q162
        cases e162
        replace p162 := eq_true p162
        replace q162 := eq_true q162
        have hq27_0 := cell_kept HG0.out HK.out HGN.out
        have hq27_1 := cell_kept HG1.out HK.out HGN.out
        have hq27_2 := cell_kept HG2.out HK.out HGN.out
        refine start_ (n := 26) (S := fun w' => w'.cell? (ad159.add ((ji38)).toNat) = some (.slice (some ad160) (rd_L2 l1 (ji38)).length c159_0) ∧ w'.cell? (ad160.add ((ji41)).toNat) = some (.int .i64 (rd (rd_L2 l1 (ji38)) (ji41))) ∧ w'.cell? (ad161.add ((rd y145 x11_2)).toNat) = some (.int .i64 (rd x0_2 (rd y145 x11_2))) ∧ w'.cell? (ad162.add (x15_3).toNat) = some (.int .i64 (rd x3_2 x15_3)) ∧ w'.cell? ⟨g, 0, none⟩ = _ ∧ w'.cell? ⟨g, 1, none⟩ = _ ∧ w'.cell? ⟨g, 2, none⟩ = _) (ds := []) #[false, false, false, false, false, false, false, false, false, false, false, false, false, false, false, false, false, false, false, false, false, false, false, false, false, false] (by kernel_rfl) rfl rfl ⟨hx159_0, hx160_0, hx161_0, hx162_0, hq27_0, hq27_1, hq27_2⟩ (fun hHeld => ?_); refine with_tabW assign_solved_add.tab17 assign_solved_add.bits17 (fun HT_ HW_ => ?_)
        generalize wr.drew = w49 at HO_0 HO_3 HO_4 HO_7 HO_8 HO_9 HK HB HR159_0 hx159_0 hx160_0 hx161_0 hx162_0 hHeld hq27_0 hq27_1 hq27_2 ⊢
        refine pM 0 63 HT_ ?_
        refine pM 1 64 HT_ ?_
        refine pM 2 65 HT_ ?_
        refine pM 3 66 HT_ ?_
        refine pM 5 68 HT_ ?_
        refine pM 6 69 HT_ ?_
        refine pM 9 72 HT_ ?_
        refine pM 10 73 HT_ ?_
        refine pM 11 74 HT_ ?_
        refine tM 12 75 rfl HT_ HW_ (by rintro w' ⟨s0, s1, s2, s3, sq0, sq1, sq2⟩; go_simp; with_reducible rfl) hHeld ?_
        refine pM 13 76 HT_ ?_
        refine pM 14 77 HT_ ?_
        refine pM 17 80 HT_ ?_
        refine pM 18 81 HT_ ?_
        refine pM 19 82 HT_ ?_
        refine tM 20 83 rfl HT_ HW_ (by rintro w' ⟨s0, s1, s2, s3, sq0, sq1, sq2⟩; go_simp; with_reducible rfl) hHeld ?_
        refine pM 21 84 HT_ ?_
        refine pM 22 85 HT_ ?_
        refine tM 4 67 rfl HT_ HW_ (by rintro w' ⟨s0, s1, s2, s3, sq0, sq1, sq2⟩; go_simp; with_reducible rfl) hHeld ?_
        refine pM 7 70 HT_ ?_
        refine tM 8 71 rfl HT_ HW_ (by rintro w' ⟨s0, s1, s2, s3, sq0, sq1, sq2⟩; go_simp; with_reducible rfl) hHeld ?_
        refine tM 15 78 rfl HT_ HW_ (by rintro w' ⟨s0, s1, s2, s3, sq0, sq1, sq2⟩; go_simp; with_reducible rfl) hHeld ?_
        refine pM 16 79 HT_ ?_
        refine tM 23 86 rfl HT_ HW_ (by rintro w' ⟨s0, s1, s2, s3, sq0, sq1, sq2⟩; go_simp; with_reducible rfl) hHeld ?_
        refine pM 24 87 HT_ ?_
        refine pM 25 16 HT_ ?_
        refine done_ (done_of HT_.out (by kernel_rfl)) ?_
        have p163 : 0 ≤ (x15_3 : Int) := of_decide_eq_true (by assumption)
        have q163 : x15_3 < (x8_3.length : Int) := of_decide_eq_true (by assumption)
        obtain ⟨ad163, e163, hx163_0⟩ := Kd.at_int (Kd.R_reads' HO_8.out).2.2 x15_3 p163 q163
        cases e163
        replace p163 := eq_true p163
        replace q163 := eq_true q163
        have hq28_0 := cell_kept HG0.out HK.out HGN.out
        have hq28_1 := cell_kept HG1.out HK.out HGN.out
        have hq28_2 := cell_kept HG2.out HK.out HGN.out
        go_upto_if 93 with (fail)
        go_cut [] (fun wc => ∃ (kq : Nat) (x7_47 : List Int) (x8_47 : List Int), Aside0 (assign_solved_add.j3 kq x0_2 l1 x3_2 y145 (l1.length : Int) x7_47 x8_47 y156 x11_2 (rd y145 x11_2) x13_3 x14_3 x15_3 = some (r1, r2, r3)) ∧ Aside0 (kq ≤ k3) ∧ Aside0 (Kd.R (Kd.int .i64) 3 wc w0.heap.size (fun k_ => ((P0_ k_ ∨ P3_ k_ ∨ P4_ k_) ∨ w.heap.size ≤ k_) ∧ some k_ ≠ ((.slice (some ad162) x3_2.length co51) : Value).ownBlock ∧ some k_ ≠ ((.slice (some ⟨go7, 0, none⟩) y145.length co7) : Value).ownBlock ∧ some k_ ≠ (v147 : Value).ownBlock ∧ some k_ ≠ ((.slice (some ad163) x8_3.length co20) : Value).ownBlock) (.slice (some ad161) x0_2.length co50) x0_2) ∧ Aside0 (Kd.R (Kd.int .i64) 3 wc w0.heap.size (fun k_ => ((P0_ k_ ∨ P3_ k_ ∨ P4_ k_) ∨ w.heap.size ≤ k_) ∧ some k_ ≠ ((.slice (some ad161) x0_2.length co50) : Value).ownBlock ∧ some k_ ≠ ((.slice (some ⟨go7, 0, none⟩) y145.length co7) : Value).ownBlock ∧ some k_ ≠ (v147 : Value).ownBlock ∧ some k_ ≠ ((.slice (some ad163) x8_3.length co20) : Value).ownBlock) (.slice (some ad162) x3_2.length co51) x3_2) ∧ Aside0 (Kd.R (Kd.int .i64) 3 wc w0.heap.size (fun k_ => ((P0_ k_ ∨ P3_ k_ ∨ P4_ k_) ∨ w.heap.size ≤ k_) ∧ some k_ ≠ ((.slice (some ad161) x0_2.length co50) : Value).ownBlock ∧ some k_ ≠ ((.slice (some ad162) x3_2.length co51) : Value).ownBlock ∧ some k_ ≠ (v147 : Value).ownBlock ∧ some k_ ≠ ((.slice (some ad163) x8_3.length co20) : Value).ownBlock) (.slice (some ⟨go7, 0, none⟩) y145.length co7) y145) ∧ Aside0 (Kd.R (Kd.int .i64) 3 wc w0.heap.size (fun k_ => ((P0_ k_ ∨ P3_ k_ ∨ P4_ k_) ∨ w.heap.size ≤ k_) ∧ some k_ ≠ ((.slice (some ad161) x0_2.length co50) : Value).ownBlock ∧ some k_ ≠ ((.slice (some ad162) x3_2.length co51) : Value).ownBlock ∧ some k_ ≠ ((.slice (some ⟨go7, 0, none⟩) y145.length co7) : Value).ownBlock ∧ some k_ ≠ ((.slice (some ad163) x8_3.length co20) : Value).ownBlock) v147 x7_47) ∧ Aside0 (Kd.R (Kd.int .i64) 3 wc w0.heap.size (fun k_ => ((P0_ k_ ∨ P3_ k_ ∨ P4_ k_) ∨ w.heap.size ≤ k_) ∧ some k_ ≠ ((.slice (some ad161) x0_2.length co50) : Value).ownBlock ∧ some k_ ≠ ((.slice (some ad162) x3_2.length co51) : Value).ownBlock ∧ some k_ ≠ ((.slice (some ⟨go7, 0, none⟩) y145.length co7) : Value).ownBlock ∧ some k_ ≠ (v147 : Value).ownBlock) (.slice (some ad163) x8_3.length co20) x8_47) ∧ Aside0 (Kd.R Kd.bool 4 wc w0.heap.size (fun k_ => ((P0_ k_ ∨ P3_ k_ ∨ P4_ k_) ∨ w.heap.size ≤ k_)) (.slice (some ⟨go29, 0, none⟩) y156.length co29) y156) ∧ Aside0 (Kept w wc (fun k_ => P0_ k_ ∨ P3_ k_ ∨ P4_ k_)) ∧ Aside0 (Below w0.heap.size w0 wc))
        case first =>
         have H := HC48.out
         clear HC48
         by_cases c52 : (wrap64 ((wrap64 ((rd (rd_L2 l1 (ji38)) (ji41)) - (rd x0_2 (rd y145 x11_2)))) - (rd x3_2 x15_3))) < (rd x8_3 x15_3)
         rotate_left
         ·
          rw [if_neg c52] at H
          have c52b0 := decide_eq_false c52
          (try simp only [hji8] at c52b0)
          (try simp only [hji38] at c52b0)
          (try simp only [hji41] at c52b0)
          clear c52
          (first | rw [c52b0] | (simp only [i64_w, i32_w]; rw [c52b0]) | skip)
          have H' := Aside0.mk H
          clear H
          have hq32_0 := cell_kept HG0.out HK.out HGN.out
          have hq32_1 := cell_kept HG1.out HK.out HGN.out
          have hq32_2 := cell_kept HG2.out HK.out HGN.out
          go_wp2
          go_meet
          case rel => exact ⟨_, (x7_3), (x8_3), H', ⟨by have := HK1.out; have := HK2.out; have := HK3.out; first | omega | exact Nat.le_refl _⟩, HO_0, HO_3, HO_4, HO_7, HO_8, HO_9, HK, ⟨HB.out⟩⟩
         rw [if_pos c52] at H
         have c52b0 := decide_eq_true c52
         (try simp only [hji8] at c52b0)
         (try simp only [hji38] at c52b0)
         (try simp only [hji41] at c52b0)
         clear c52
         (first | rw [c52b0] | (simp only [i64_w, i32_w]; rw [c52b0]) | skip)
         obtain ⟨y164, hy164⟩ : ∃ y_ : List Int, y_ = (x8_3.set (x15_3 : Int).toNat (wrap64 ((wrap64 ((rd (rd_L2 l1 (ji38)) (ji41)) - (rd x0_2 (rd y145 x11_2)))) - (rd x3_2 x15_3)))) := ⟨_, rfl⟩
         rw [← hy164] at H
         have Ny164 := Aside0.mk hy164
         clear hy164
         obtain ⟨c54, H⟩ : (x15_3 < (x7_3.length : Int)) ∧ _ := mIf H
         have c54b0 := decide_eq_true c54
         (try simp only [hl4_1] at c54b0)
         (try simp only [hl8_1] at c54b0)
         (try simp only [hl8_2] at c54b0)
         (try simp only [hl8_3] at c54b0)
         (try simp only [hl9_3] at c54b0)
         clear c54
         obtain ⟨y165, hy165⟩ : ∃ y_ : List Int, y_ = (x7_3.set (x15_3 : Int).toNat x11_2) := ⟨_, rfl⟩
         rw [← hy165] at H
         have Ny165 := Aside0.mk hy165
         clear hy165
         have H' := Aside0.mk H
         clear H
         have p53 : 0 ≤ (x15_3 : Int) := of_decide_eq_true (by assumption)
         have q53 : (x15_3 : Int) < ((x8_3.length : Int) : Int) := of_decide_eq_true (by assumption)
         obtain ⟨go53, co53, eo53, gb4, gl53, cl53, HG53⟩ := Kd.R_form HO_8.out (by omega)
         (first | cases eo53 | (injection eo53 with ea_ en_ ec_; (first | subst ea_ | (injection ea_ with ea_; subst ea_)); subst ec_; clear en_))
         have GB53 := Aside0.mk gb4
         have GG53 := Aside0.mk HG53
         clear gb4 gl53 HG53
         have HMgo53 := Aside0.mk (show ((P0_ go53 ∨ P3_ go53 ∨ P4_ go53) ∨ w.heap.size ≤ go53) from (HO_8.out.1 _ rfl).1)
         (first | simp only [add_plain] at hx163_0 | skip)
         obtain ⟨hx53_0, hf53_0⟩ := Kd.R_celln 0 HO_8.out (x15_3 : Int) p53 q53
         replace p53 := eq_true p53
         replace q53 := eq_true q53
         have HP56 := Kd.R_putg HO_8.out (x15_3 : Int) (wrap64 ((wrap64 ((rd (rd_L2 l1 (ji38)) (ji41)) - (rd x0_2 (rd y145 x11_2)))) - (rd x3_2 x15_3)))
         have hq31_0 := cell_kept HG0.out HK.out HGN.out
         have hq31_1 := cell_kept HG1.out HK.out HGN.out
         have hq31_2 := cell_kept HG2.out HK.out HGN.out
         go_wp2_with (first | ((with_reducible refine gate_store (t := 3) (p := 100) rfl ?_); refine store_event (t := 3) (p := 100) (v := ?vo_w57) (w1 := (w49.setCell ⟨go53, (x15_3 : Int).toNat, none⟩ (.int .i64 (wrap64 ((wrap64 ((rd (rd_L2 l1 (ji38)) (ji41)) - (rd x0_2 (rd y145 x11_2)))) - (rd x3_2 x15_3)))))) ?hg ?ho ?hn ?hr ?_; (case ho => rfl); (case hg => rfl); (case hn => rfl); (case hr => first | (go_simp; done) | (go_simp; rfl)); intro w57 hw; have hg : w49.grownBy w57 (some go53) := (by rw [hw]; exact HP56.2); have hp_ : Kd.R (Kd.int .i64) 3 w57 w0.heap.size (fun k_ => ((P0_ k_ ∨ P3_ k_ ∨ P4_ k_) ∨ w.heap.size ≤ k_) ∧ some k_ ≠ (.slice (some ad161) x0_2.length co50 : Value).ownBlock ∧ some k_ ≠ (.slice (some ad162) x3_2.length co51 : Value).ownBlock ∧ some k_ ≠ (.slice (some ⟨go7, 0, none⟩) y145.length co7 : Value).ownBlock ∧ some k_ ≠ (v147 : Value).ownBlock) (.slice (some ⟨go53, 0, none⟩) x8_3.length co20) y164 := (by rw [hw, Ny164.out]; exact HP56.1); clear HP56; have n0_ := Aside0.mk (Kd.R_after (v := (.slice (some ⟨go53, 0, none⟩) x8_3.length co20)) (v1 := (.slice (some ⟨go53, 0, none⟩) x8_3.length co20)) (ok := (fun k_ => ((P0_ k_ ∨ P3_ k_ ∨ P4_ k_) ∨ w.heap.size ≤ k_) ∧ some k_ ≠ (.slice (some ad162) x3_2.length co51 : Value).ownBlock ∧ some k_ ≠ (.slice (some ⟨go7, 0, none⟩) y145.length co7 : Value).ownBlock ∧ some k_ ≠ (v147 : Value).ownBlock)) (by exact Kd.R_mono HO_0.out (fun _ hk => ⟨⟨hk.1, ⟨hk.2.1, ⟨hk.2.2.1, hk.2.2.2.1⟩⟩⟩, hk.2.2.2.2⟩)) hg (.inl rfl)); have n1_ := Aside0.mk (Kd.R_after (v := (.slice (some ⟨go53, 0, none⟩) x8_3.length co20)) (v1 := (.slice (some ⟨go53, 0, none⟩) x8_3.length co20)) (ok := (fun k_ => ((P0_ k_ ∨ P3_ k_ ∨ P4_ k_) ∨ w.heap.size ≤ k_) ∧ some k_ ≠ (.slice (some ad161) x0_2.length co50 : Value).ownBlock ∧ some k_ ≠ (.slice (some ⟨go7, 0, none⟩) y145.length co7 : Value).ownBlock ∧ some k_ ≠ (v147 : Value).ownBlock)) (by exact Kd.R_mono HO_3.out (fun _ hk => ⟨⟨hk.1, ⟨hk.2.1, ⟨hk.2.2.1, hk.2.2.2.1⟩⟩⟩, hk.2.2.2.2⟩)) hg (.inl rfl)); have n2_ := Aside0.mk (Kd.R_after (v := (.slice (some ⟨go53, 0, none⟩) x8_3.length co20)) (v1 := (.slice (some ⟨go53, 0, none⟩) x8_3.length co20)) (ok := (fun k_ => ((P0_ k_ ∨ P3_ k_ ∨ P4_ k_) ∨ w.heap.size ≤ k_) ∧ some k_ ≠ (.slice (some ad161) x0_2.length co50 : Value).ownBlock ∧ some k_ ≠ (.slice (some ad162) x3_2.length co51 : Value).ownBlock ∧ some k_ ≠ (v147 : Value).ownBlock)) (by exact Kd.R_mono HO_4.out (fun _ hk => ⟨⟨hk.1, ⟨hk.2.1, ⟨hk.2.2.1, hk.2.2.2.1⟩⟩⟩, hk.2.2.2.2⟩)) hg (.inl rfl)); have n3_ := Aside0.mk (Kd.R_after (v := (.slice (some ⟨go53, 0, none⟩) x8_3.length co20)) (v1 := (.slice (some ⟨go53, 0, none⟩) x8_3.length co20)) (ok := (fun k_ => ((P0_ k_ ∨ P3_ k_ ∨ P4_ k_) ∨ w.heap.size ≤ k_) ∧ some k_ ≠ (.slice (some ad161) x0_2.length co50 : Value).ownBlock ∧ some k_ ≠ (.slice (some ad162) x3_2.length co51 : Value).ownBlock ∧ some k_ ≠ (.slice (some ⟨go7, 0, none⟩) y145.length co7 : Value).ownBlock)) (by exact Kd.R_mono HO_7.out (fun _ hk => ⟨⟨hk.1, ⟨hk.2.1, ⟨hk.2.2.1, hk.2.2.2.1⟩⟩⟩, hk.2.2.2.2⟩)) hg (.inl rfl)); have n4_ := Aside0.mk (hp_); have n5_ := Aside0.mk (Kd.R_over' (v := (.slice (some ⟨go53, 0, none⟩) x8_3.length co20)) HO_9.out (Kd.R_typed HO_8.out) (by decide) hg); have n6_ := Aside0.mk ((by rw [hw]; exact below_set (HB.out) GB53.out : Below w0.heap.size w0 w57)); have n7_ := Aside0.mk (Kept.of_grown (S := (fun k_ => P0_ k_ ∨ P3_ k_ ∨ P4_ k_)) hg (by repeat (first | (with_reducible first | exact HK.out | apply Kept.alloc | apply Kept.drewN | apply Kept.drew) | exact HK.out)) (fun k_ e_ => (HO_8.out.1 k_ e_).1)); clear HO_0; clear HO_3; clear HO_4; clear HO_7; clear HO_8; clear HO_9; clear HB; clear HK; have HO_0 := n0_; have HO_3 := n1_; have HO_4 := n2_; have HO_7 := n3_; have HO_8 := n4_; have HO_9 := n5_; have HB := n6_; have HK := n7_; have hq29_0 := cell_kept HG0.out HK.out HGN.out; have hq29_1 := cell_kept HG1.out HK.out HGN.out; have hq29_2 := cell_kept HG2.out HK.out HGN.out; clear n0_ n1_ n2_ n3_ n4_ n5_ n6_ n7_; clear hg hw hp_; have p55 : 0 ≤ (x15_3 : Int) := of_decide_eq_true (by assumption); have q55 : (x15_3 : Int) < ((x7_3.length : Int) : Int) := of_decide_eq_true (by assumption); obtain ⟨go55, co55, eo55, gb5, gl55, cl55, HG55⟩ := Kd.R_form HO_7.out (by omega); (first | cases eo55 | (injection eo55 with ea_ en_ ec_; (first | subst ea_ | (injection ea_ with ea_; subst ea_)); subst ec_; clear en_)); have GB55 := Aside0.mk gb5; have GG55 := Aside0.mk HG55; clear gb5 gl55 HG55; have HMgo55 := Aside0.mk (show ((P0_ go55 ∨ P3_ go55 ∨ P4_ go55) ∨ w.heap.size ≤ go55) from (HO_7.out.1 _ rfl).1.1); obtain ⟨hx55_0, hf55_0⟩ := Kd.R_celln 0 HO_7.out (x15_3 : Int) p55 q55; replace p55 := eq_true p55; replace q55 := eq_true q55; have n_ := Aside0.mk (Kd.R_mono (ok' := (fun k_ => ((P0_ k_ ∨ P3_ k_ ∨ P4_ k_) ∨ w.heap.size ≤ k_) ∧ some k_ ≠ (.slice (some ad161) x0_2.length co50 : Value).ownBlock ∧ some k_ ≠ (.slice (some ad162) x3_2.length co51 : Value).ownBlock ∧ some k_ ≠ (.slice (some ⟨go7, 0, none⟩) y145.length co7 : Value).ownBlock ∧ some k_ ≠ (.slice (some ⟨go53, 0, none⟩) x8_3.length co20 : Value).ownBlock)) HO_7.out (fun k_ hk => ⟨hk.1.1, ⟨hk.1.2.1, ⟨hk.1.2.2.1, ⟨hk.1.2.2.2, hk.2⟩⟩⟩⟩)); clear HO_7; have HO_7 := n_; clear n_; obtain ⟨hy58_, hz58_⟩ := Kd.R_celln 0 HO_7.out (x15_3 : Int) (of_decide_eq_true (by assumption)) (of_decide_eq_true (by assumption)); have HP58 := Kd.R_putg HO_7.out (x15_3 : Int) x11_2) | ((with_reducible refine gate_store (t := 3) (p := 101) rfl ?_); refine store_event (t := 3) (p := 101) (v := ?vo_w59) (w1 := (w57.setCell ⟨go55, (x15_3 : Int).toNat, none⟩ (.int .i64 x11_2))) ?hg ?ho ?hn ?hr ?_; (case ho => rfl); (case hg => rfl); (case hn => rfl); (case hr => first | (go_simp; done) | (go_simp; rfl)); intro w59 hw; have hg : w57.grownBy w59 (some go55) := (by rw [hw]; exact HP58.2); have hp_ : Kd.R (Kd.int .i64) 3 w59 w0.heap.size (fun k_ => ((P0_ k_ ∨ P3_ k_ ∨ P4_ k_) ∨ w.heap.size ≤ k_) ∧ some k_ ≠ (.slice (some ad161) x0_2.length co50 : Value).ownBlock ∧ some k_ ≠ (.slice (some ad162) x3_2.length co51 : Value).ownBlock ∧ some k_ ≠ (.slice (some ⟨go7, 0, none⟩) y145.length co7 : Value).ownBlock ∧ some k_ ≠ (.slice (some ⟨go53, 0, none⟩) x8_3.length co20 : Value).ownBlock) (.slice (some ⟨go55, 0, none⟩) x7_3.length co55) y165 := (by rw [hw, Ny165.out]; exact HP58.1); clear HP58; have n0_ := Aside0.mk (Kd.R_after (v := (.slice (some ⟨go55, 0, none⟩) x7_3.length co55)) (v1 := (.slice (some ⟨go55, 0, none⟩) x7_3.length co55)) (ok := (fun k_ => ((P0_ k_ ∨ P3_ k_ ∨ P4_ k_) ∨ w.heap.size ≤ k_) ∧ some k_ ≠ (.slice (some ad162) x3_2.length co51 : Value).ownBlock ∧ some k_ ≠ (.slice (some ⟨go7, 0, none⟩) y145.length co7 : Value).ownBlock ∧ some k_ ≠ (.slice (some ⟨go53, 0, none⟩) x8_3.length co20 : Value).ownBlock)) (by exact Kd.R_mono HO_0.out (fun _ hk => ⟨⟨hk.1.1, ⟨hk.1.2.1, ⟨hk.1.2.2.1, hk.2⟩⟩⟩, hk.1.2.2.2⟩)) hg (.inl rfl)); have n1_ := Aside0.mk (Kd.R_after (v := (.slice (some ⟨go55, 0, none⟩) x7_3.length co55)) (v1 := (.slice (some ⟨go55, 0, none⟩) x7_3.length co55)) (ok := (fun k_ => ((P0_ k_ ∨ P3_ k_ ∨ P4_ k_) ∨ w.heap.size ≤ k_) ∧ some k_ ≠ (.slice (some ad161) x0_2.length co50 : Value).ownBlock ∧ some k_ ≠ (.slice (some ⟨go7, 0, none⟩) y145.length co7 : Value).ownBlock ∧ some k_ ≠ (.slice (some ⟨go53, 0, none⟩) x8_3.length co20 : Value).ownBlock)) (by exact Kd.R_mono HO_3.out (fun _ hk => ⟨⟨hk.1.1, ⟨hk.1.2.1, ⟨hk.1.2.2.1, hk.2⟩⟩⟩, hk.1.2.2.2⟩)) hg (.inl rfl)); have n2_ := Aside0.mk (Kd.R_after (v := (.slice (some ⟨go55, 0, none⟩) x7_3.length co55)) (v1 := (.slice (some ⟨go55, 0, none⟩) x7_3.length co55)) (ok := (fun k_ => ((P0_ k_ ∨ P3_ k_ ∨ P4_ k_) ∨ w.heap.size ≤ k_) ∧ some k_ ≠ (.slice (some ad161) x0_2.length co50 : Value).ownBlock ∧ some k_ ≠ (.slice (some ad162) x3_2.length co51 : Value).ownBlock ∧ some k_ ≠ (.slice (some ⟨go53, 0, none⟩) x8_3.length co20 : Value).ownBlock)) (by exact Kd.R_mono HO_4.out (fun _ hk => ⟨⟨hk.1.1, ⟨hk.1.2.1, ⟨hk.1.2.2.1, hk.2⟩⟩⟩, hk.1.2.2.2⟩)) hg (.inl rfl)); have n3_ := Aside0.mk (hp_); have n4_ := Aside0.mk (Kd.R_after (v := (.slice (some ⟨go55, 0, none⟩) x7_3.length co55)) (v1 := (.slice (some ⟨go55, 0, none⟩) x7_3.length co55)) (ok := (fun k_ => ((P0_ k_ ∨ P3_ k_ ∨ P4_ k_) ∨ w.heap.size ≤ k_) ∧ some k_ ≠ (.slice (some ad161) x0_2.length co50 : Value).ownBlock ∧ some k_ ≠ (.slice (some ad162) x3_2.length co51 : Value).ownBlock ∧ some k_ ≠ (.slice (some ⟨go7, 0, none⟩) y145.length co7 : Value).ownBlock)) (by exact Kd.R_mono HO_8.out (fun _ hk => ⟨⟨hk.1, ⟨hk.2.1, ⟨hk.2.2.1, hk.2.2.2.1⟩⟩⟩, hk.2.2.2.2⟩)) hg (.inl rfl)); have n5_ := Aside0.mk (Kd.R_over' (v := (.slice (some ⟨go55, 0, none⟩) x7_3.length co55)) HO_9.out (Kd.R_typed HO_7.out) (by decide) hg); have n6_ := Aside0.mk ((by rw [hw]; exact below_set (HB.out) GB55.out : Below w0.heap.size w0 w59)); have n7_ := Aside0.mk (Kept.of_grown (S := (fun k_ => P0_ k_ ∨ P3_ k_ ∨ P4_ k_)) hg (by repeat (first | (with_reducible first | exact HK.out | apply Kept.alloc | apply Kept.drewN | apply Kept.drew) | exact HK.out)) (fun k_ e_ => (HO_7.out.1 k_ e_).1)); clear HO_0; clear HO_3; clear HO_4; clear HO_7; clear HO_8; clear HO_9; clear HB; clear HK; have HO_0 := n0_; have HO_3 := n1_; have HO_4 := n2_; have HO_7 := n3_; have HO_8 := n4_; have HO_9 := n5_; have HB := n6_; have HK := n7_; have hq30_0 := cell_kept HG0.out HK.out HGN.out; have hq30_1 := cell_kept HG1.out HK.out HGN.out; have hq30_2 := cell_kept HG2.out HK.out HGN.out; clear n0_ n1_ n2_ n3_ n4_ n5_ n6_ n7_; clear hg hw hp_))
         go_meet
         case rel => exact ⟨_, (y165), (y164), H', ⟨by have := HK1.out; have := HK2.out; have := HK3.out; first | omega | exact Nat.le_refl _⟩, ⟨Kd.R_mono HO_0.out (fun _ hk => ⟨hk.1.1, ⟨hk.1.2.1, ⟨hk.1.2.2.1, ⟨hk.2, hk.1.2.2.2⟩⟩⟩⟩)⟩, ⟨Kd.R_mono HO_3.out (fun _ hk => ⟨hk.1.1, ⟨hk.1.2.1, ⟨hk.1.2.2.1, ⟨hk.2, hk.1.2.2.2⟩⟩⟩⟩)⟩, ⟨Kd.R_mono HO_4.out (fun _ hk => ⟨hk.1.1, ⟨hk.1.2.1, ⟨hk.1.2.2.1, ⟨hk.2, hk.1.2.2.2⟩⟩⟩⟩)⟩, HO_7, ⟨Kd.R_mono HO_8.out (fun _ hk => ⟨hk.1.1, ⟨hk.1.2.1, ⟨hk.1.2.2.1, ⟨hk.1.2.2.2, hk.2⟩⟩⟩⟩)⟩, HO_9, HK, ⟨HB.out⟩⟩
        case rest =>
         clear HC48; try clear c1; try clear p1; try clear q1; try clear hx1; try clear c2; try clear p2; try clear q2; try clear hx2; try clear c3; try clear p3; try clear q3; try clear c4; try clear p4; try clear c5; try clear p5; try clear q5; try clear hx5; try clear hf5; try clear c6; try clear c6b0; try clear c6b1; try clear p6; try clear p7; try clear q7; try clear hx7; try clear qi7; try clear hf7; try clear c8; try clear c9; try clear c9b0; try clear c9b1; try clear c10; try clear c10b0; try clear c10b1; try clear c11; try clear c11b0; try clear c11b1; try clear c15; try clear p15; try clear q15; try clear hx15; try clear p16; try clear q16; try clear hx16; try clear c21; try clear c21b0; try clear c22; try clear c22b0; try clear c23; try clear c23b0; try clear p24; try clear q24; try clear hx24; try clear hf24; try clear c27; try clear c27b0; try clear c28; try clear c28b0; try clear p29; try clear q29; try clear hx29; try clear hf29; try clear c30; try clear c30b0; try clear c33; try clear c33b0; try clear c34; try clear c34b0; try clear c35; try clear c35b0; try clear q36; try clear c37; try clear c39; try clear c39b0; try clear c40; try clear c40b0; try clear c42; try clear c42b0; try clear c43; try clear c43b0; try clear c44; try clear c44b0; try clear c45; try clear c45b0; try clear c46; try clear c46b0; try clear c47; try clear c47b0; try clear c52; try clear c52b0; try clear p53; try clear q53; try clear hx53; try clear hf53; try clear c54; try clear c54b0; try clear p55; try clear q55; try clear hx55; try clear hf55; try clear hx157_0; try clear hx158_0; try clear hx159_0; try clear hx160_0; try clear hx161_0; try clear hx162_0; try clear hx163_0; try clear hx24_0; try clear hx29_0; try clear hx53_0; try clear hx55_0; try clear hx7_0; try clear p157; try clear p158; try clear p159; try clear p160; try clear p161; try clear p162; try clear p163; try clear q157; try clear q158; try clear q159; try clear q160; try clear q161; try clear q162; try clear q163
         obtain ⟨kq, x7_47, x8_47, HA, HJ47, HO_0, HO_3, HO_4, HO_7, HO_8, HO_9, HK, HB⟩ := hcut
         have hl8_47 := (Kd.R_reads' HO_8.out).1
         rw [hl8_47] at HO_8
         (try simp only [hl8_47])
         (try simp only [hl8_47] at HO_0)
         (try simp only [hl8_47] at HO_3)
         (try simp only [hl8_47] at HO_4)
         (try simp only [hl8_47] at HO_7)
         (try simp only [hl8_47] at HO_9)
         cases kq with
         | zero => exact absurd HA.out (by simp [assign_solved_add.j3])
         | succ kj47 =>
          have H := HA.out
          clear HA
          simp only [assign_solved_add.j3] at H
          obtain ⟨c60, H⟩ : (0 ≤ x15_3) ∧ _ := mIf H
          have c60b0 := decide_eq_true c60
          clear c60
          obtain ⟨c61, H⟩ : (x15_3 < (x8_47.length : Int)) ∧ _ := mIf H
          have c61b0 := decide_eq_true c61
          (try simp only [hl4_1] at c61b0)
          (try simp only [hl8_1] at c61b0)
          (try simp only [hl8_2] at c61b0)
          (try simp only [hl8_3] at c61b0)
          (try simp only [hl9_3] at c61b0)
          (try simp only [hl8_47] at c61b0)
          clear c61
          by_cases c62 : (rd x8_47 x15_3) < x14_3
          rotate_left
          ·
           rw [if_neg c62] at H
           have c62b0 := decide_eq_false c62
           clear c62
           have H' := Aside0.mk H
           clear H
           have p166 : 0 ≤ (x15_3 : Int) := of_decide_eq_true (by assumption)
           have q166 : x15_3 < (x8_47.length : Int) := of_decide_eq_true (by assumption)
           obtain ⟨ad166, e166, hx166_0⟩ := Kd.at_int (Kd.R_reads' HO_8.out).2.2 x15_3 p166 q166
           obtain rfl : ad163 = ad166 := (by injection e166)
           replace p166 := eq_true p166
           replace q166 := eq_true q166
           have hq34_0 := cell_kept HG0.out HK.out HGN.out
           have hq34_1 := cell_kept HG1.out HK.out HGN.out
           have hq34_2 := cell_kept HG2.out HK.out HGN.out
           go_wp2
           (try simp only [← hl8_3, ← hl9_3, ← hl8_47])
           go_roundg kj47
           case measure => have := HK1.out; have := HK2.out; have := HK3.out; have := HJ47.out; omega
           case rel => exact ⟨(x7_47), (x8_47), (x13_3), (x14_3), (wrap64 (x15_3 + 1)), rfl, rfl, rfl, H', ⟨by have := HK1.out; have := HK2.out; have := HK3.out; have := HJ47.out; omega⟩, HO_0, HO_3, HO_4, HO_7, ⟨by (try simp only [hl4_1, hl8_1, hl8_2, hl8_3, hl9_3, hl8_47]); exact rO HO_8⟩, ⟨by (try simp only [hl4_1, hl8_1, hl8_2, hl8_3, hl9_3, hl8_47]); exact rO HO_9⟩, HK, ⟨HB.out⟩⟩
          rw [if_pos c62] at H
          have c62b0 := decide_eq_true c62
          clear c62
          have H' := Aside0.mk H
          clear H
          have p166 : 0 ≤ (x15_3 : Int) := of_decide_eq_true (by assumption)
          have q166 : x15_3 < (x8_47.length : Int) := of_decide_eq_true (by assumption)
          obtain ⟨ad166, e166, hx166_0⟩ := Kd.at_int (Kd.R_reads' HO_8.out).2.2 x15_3 p166 q166
          obtain rfl : ad163 = ad166 := (by injection e166)
          replace p166 := eq_true p166
          replace q166 := eq_true q166
          have p167 : 0 ≤ (x15_3 : Int) := of_decide_eq_true (by assumption)
          have q167 : x15_3 < (x8_47.length : Int) := of_decide_eq_true (by assumption)
          obtain ⟨ad167, e167, hx167_0⟩ := Kd.at_int (Kd.R_reads' HO_8.out).2.2 x15_3 p167 q167
          obtain rfl : ad163 = ad167 := (by injection e167)
          replace p167 := eq_true p167
          replace q167 := eq_true q167
          have hq33_0 := cell_kept HG0.out HK.out HGN.out
          have hq33_1 := cell_kept HG1.out HK.out HGN.out
          have hq33_2 := cell_kept HG2.out HK.out HGN.out
          go_wp2
          (try simp only [← hl8_3, ← hl9_3, ← hl8_47])
          go_roundg kj47
          case measure => have := HK1.out; have := HK2.out; have := HK3.out; have := HJ47.out; omega
          case rel => exact ⟨(x7_47), (x8_47), (x15_3), (rd x8_47 x15_3), (wrap64 (x15_3 + 1)), rfl, rfl, rfl, H', ⟨by have := HK1.out; have := HK2.out; have := HK3.out; have := HJ47.out; omega⟩, HO_0, HO_3, HO_4, HO_7, ⟨by (try simp only [hl4_1, hl8_1, hl8_2, hl8_3, hl9_3, hl8_47]); exact rO HO_8⟩, ⟨by (try simp only [hl4_1, hl8_1, hl8_2, hl8_3, hl9_3, hl8_47]); exact rO HO_9⟩, HK, ⟨HB.out⟩⟩
       rw [if_neg c33] at H
       have c33b0 := decide_eq_false c33
       (try simp only [hl4_1] at c33b0)
       (try simp only [hl8_1] at c33b0)
       (try simp only [hl8_2] at c33b0)
       (try simp only [hl8_3] at c33b0)
       (try simp only [hl9_3] at c33b0)
       clear c33
       have H' := Aside0.mk H
       clear H
       have hq35_0 := cell_kept HG0.out HK.out HGN.out
       have hq35_1 := cell_kept HG1.out HK.out HGN.out
       have hq35_2 := cell_kept HG2.out HK.out HGN.out
       go_wp2
       try go_step3
       have hq36_0 := cell_kept HG0.out HK.out HGN.out
       have hq36_1 := cell_kept HG1.out HK.out HGN.out
       have hq36_2 := cell_kept HG2.out HK.out HGN.out
       try go_wp2
       try go_step3
       go_loopg [115] k3 (fun kq v115 w' => ∃ (x0_4 : List Int) (x3_4 : List Int) (x8_4 : List Int) (x115_4 : Int), v115 = .int .i64 x115_4 ∧ Aside0 (assign_solved_add.l3 kq x0_4 l1 x3_4 y145 (l1.length : Int) x7_3 x8_4 y156 x13_3 x14_3 (wrap64 ((l1.length : Int) + 1)) x115_4 = some (r1, r2, r3)) ∧ Aside0 (kq ≤ k3) ∧ Aside0 (Kd.R (Kd.int .i64) 3 w' w0.heap.size (fun k_ => ((P0_ k_ ∨ P3_ k_ ∨ P4_ k_) ∨ w.heap.size ≤ k_) ∧ some k_ ≠ (u9001_ : Value).ownBlock ∧ some k_ ≠ ((.slice (some ⟨go7, 0, none⟩) y145.length co7) : Value).ownBlock ∧ some k_ ≠ (v147 : Value).ownBlock ∧ some k_ ≠ ((.slice Ao20 x8_3.length co20) : Value).ownBlock) u9000_ x0_4) ∧ Aside0 (Kd.R (Kd.int .i64) 3 w' w0.heap.size (fun k_ => ((P0_ k_ ∨ P3_ k_ ∨ P4_ k_) ∨ w.heap.size ≤ k_) ∧ some k_ ≠ (u9000_ : Value).ownBlock ∧ some k_ ≠ ((.slice (some ⟨go7, 0, none⟩) y145.length co7) : Value).ownBlock ∧ some k_ ≠ (v147 : Value).ownBlock ∧ some k_ ≠ ((.slice Ao20 x8_3.length co20) : Value).ownBlock) u9001_ x3_4) ∧ Aside0 (Kd.R (Kd.int .i64) 3 w' w0.heap.size (fun k_ => ((P0_ k_ ∨ P3_ k_ ∨ P4_ k_) ∨ w.heap.size ≤ k_) ∧ some k_ ≠ (u9000_ : Value).ownBlock ∧ some k_ ≠ (u9001_ : Value).ownBlock ∧ some k_ ≠ (v147 : Value).ownBlock ∧ some k_ ≠ ((.slice Ao20 x8_3.length co20) : Value).ownBlock) (.slice (some ⟨go7, 0, none⟩) y145.length co7) y145) ∧ Aside0 (Kd.R (Kd.int .i64) 3 w' w0.heap.size (fun k_ => ((P0_ k_ ∨ P3_ k_ ∨ P4_ k_) ∨ w.heap.size ≤ k_) ∧ some k_ ≠ (u9000_ : Value).ownBlock ∧ some k_ ≠ (u9001_ : Value).ownBlock ∧ some k_ ≠ ((.slice (some ⟨go7, 0, none⟩) y145.length co7) : Value).ownBlock ∧ some k_ ≠ ((.slice Ao20 x8_3.length co20) : Value).ownBlock) v147 x7_3) ∧ Aside0 (Kd.R (Kd.int .i64) 3 w' w0.heap.size (fun k_ => ((P0_ k_ ∨ P3_ k_ ∨ P4_ k_) ∨ w.heap.size ≤ k_) ∧ some k_ ≠ (u9000_ : Value).ownBlock ∧ some k_ ≠ (u9001_ : Value).ownBlock ∧ some k_ ≠ ((.slice (some ⟨go7, 0, none⟩) y145.length co7) : Value).ownBlock ∧ some k_ ≠ (v147 : Value).ownBlock) (.slice Ao20 x8_3.length co20) x8_4) ∧ Aside0 (Kd.R Kd.bool 4 w' w0.heap.size (fun k_ => ((P0_ k_ ∨ P3_ k_ ∨ P4_ k_) ∨ w.heap.size ≤ k_)) (.slice (some ⟨go29, 0, none⟩) y156.length co29) y156) ∧ Aside0 (Kept w w' (fun k_ => P0_ k_ ∨ P3_ k_ ∨ P4_ k_)) ∧ Aside0 (Below w0.heap.size w0 w'))
       case atStart => exact ⟨(x0_2), (x3_2), (x8_3), (0), rfl, H', ⟨Nat.le_refl _⟩, HO_0, HO_3, HO_4, HO_7, HO_8, HO_9, HK, ⟨HB.out⟩⟩
       case round =>
        clear H'
        clear c33b0
        obtain ⟨x0_4, x3_4, x8_4, x115_4, rfl, HA, HK4, HO_0, HO_3, HO_4, HO_7, HO_8, HO_9, HK, HB⟩ := hrel
        have hl8_4 := (Kd.R_reads' HO_8.out).1
        rw [hl8_4] at HO_8
        (try simp only [hl8_4])
        (try simp only [hl8_4] at HO_0)
        (try simp only [hl8_4] at HO_3)
        (try simp only [hl8_4] at HO_4)
        (try simp only [hl8_4] at HO_7)
        (try simp only [hl8_4] at HO_9)
        cases gk with
        | zero => exact absurd HA.out (by simp [assign_solved_add.l3])
        | succ k4 =>
         have H := HA.out
         clear HA
         simp only [assign_solved_add.l3] at H
         by_cases c63 : x115_4 < (wrap64 ((l1.length : Int) + 1))
         rotate_left
         ·
          rw [if_neg c63] at H
          have c63b0 := decide_eq_false c63
          (try simp only [hl4_1] at c63b0)
          (try simp only [hl8_1] at c63b0)
          (try simp only [hl8_2] at c63b0)
          (try simp only [hl8_3] at c63b0)
          (try simp only [hl9_3] at c63b0)
          (try simp only [hl8_4] at c63b0)
          (try simp only [hji8] at c63b0)
          clear c63
          obtain ⟨c85, H⟩ : (0 ≤ x13_3) ∧ _ := mIf H
          have c85b0 := decide_eq_true c85
          clear c85
          obtain ⟨c86, H⟩ : (x13_3 < (y145.length : Int)) ∧ _ := mIf H
          have c86b0 := decide_eq_true c86
          (try simp only [hl4_1] at c86b0)
          (try simp only [hl8_1] at c86b0)
          (try simp only [hl8_2] at c86b0)
          (try simp only [hl8_3] at c86b0)
          (try simp only [hl9_3] at c86b0)
          (try simp only [hl8_4] at c86b0)
          clear c86
          by_cases c87 : (rd y145 x13_3) = 0
          rotate_left
          ·
           rw [if_neg c87] at H
           have c87b0 := beq_eq_false_iff_ne.mpr c87
           have c87b1 := bne_iff_ne.mpr c87
           have H' := Aside0.mk H
           clear H
           have p176 : 0 ≤ (x13_3 : Int) := of_decide_eq_true (by assumption)
           have q176 : x13_3 < (y145.length : Int) := of_decide_eq_true (by assumption)
           obtain ⟨ad176, e176, hx176_0⟩ := Kd.at_int (Kd.R_reads' HO_4.out).2.2 x13_3 p176 q176
           obtain rfl : (⟨go7, 0, none⟩ : Addr) = ad176 := (by injection e176)
           (first | simp only [add_plain] at hx176_0 | simp only [add_at] at hx176_0 | simp only [Addr.add, Nat.zero_add] at hx176_0 | skip)
           replace p176 := eq_true p176
           replace q176 := eq_true q176
           have hq52_0 := cell_kept HG0.out HK.out HGN.out
           have hq52_1 := cell_kept HG1.out HK.out HGN.out
           have hq52_2 := cell_kept HG2.out HK.out HGN.out
           go_wp2
           (try simp only [← hl8_2, ← hl8_3, ← hl9_3, ← hl8_4])
           go_roundg k4
           case measure => have := HK1.out; have := HK2.out; have := HK3.out; have := HK4.out; omega
           case rel => exact ⟨(x0_4), (x3_4), (x7_3), (x8_4), (y156), (x13_3), rfl, H', ⟨by have := HK1.out; have := HK2.out; have := HK3.out; have := HK4.out; omega⟩, ⟨by (try simp only [hl4_1, hl8_1, hl8_2, hl8_3, hl9_3, hl8_4]); exact rO HO_0⟩, ⟨by (try simp only [hl4_1, hl8_1, hl8_2, hl8_3, hl9_3, hl8_4]); exact rO HO_3⟩, ⟨by (try simp only [hl4_1, hl8_1, hl8_2, hl8_3, hl9_3, hl8_4]); exact rO HO_4⟩, ⟨by (try simp only [hl4_1, hl8_1, hl8_2, hl8_3, hl9_3, hl8_4]); exact rO HO_7⟩, ⟨by (try simp only [hl4_1, hl8_1, hl8_2, hl8_3, hl9_3, hl8_4]); exact rO HO_8⟩, ⟨by (try simp only [hl4_1, hl8_1, hl8_2, hl8_3, hl9_3, hl8_4]); exact rO HO_9⟩, HK, ⟨HB.out⟩⟩
          rw [if_pos c87] at H
          have c87b0 := beq_iff_eq.mpr c87
          have c87b1 := bne_eq_false_iff_eq.mpr c87
          clear c87
          have H' := Aside0.mk H
          clear H
          have p176 : 0 ≤ (x13_3 : Int) := of_decide_eq_true (by assumption)
          have q176 : x13_3 < (y145.length : Int) := of_decide_eq_true (by assumption)
          obtain ⟨ad176, e176, hx176_0⟩ := Kd.at_int (Kd.R_reads' HO_4.out).2.2 x13_3 p176 q176
          obtain rfl : (⟨go7, 0, none⟩ : Addr) = ad176 := (by injection e176)
          (first | simp only [add_plain] at hx176_0 | simp only [add_at] at hx176_0 | simp only [Addr.add, Nat.zero_add] at hx176_0 | skip)
          replace p176 := eq_true p176
          replace q176 := eq_true q176
          have hq45_0 := cell_kept HG0.out HK.out HGN.out
          have hq45_1 := cell_kept HG1.out HK.out HGN.out
          have hq45_2 := cell_kept HG2.out HK.out HGN.out
          go_wp2
          try go_step3
          have hq46_0 := cell_kept HG0.out HK.out HGN.out
          have hq46_1 := cell_kept HG1.out HK.out HGN.out
          have hq46_2 := cell_kept HG2.out HK.out HGN.out
          try go_wp2
          try go_step3
          go_loopg [11] k4 (fun kq v11 w' => ∃ (x4_5 : List Int) (x11_5 : Int), v11 = .int .i64 x11_5 ∧ Aside0 (assign_solved_add.l4 kq x0_4 x3_4 x4_5 x7_3 x11_5 = some (r1, r2, r3)) ∧ Aside0 (kq ≤ k4) ∧ Aside0 (Kd.R (Kd.int .i64) 3 w' w0.heap.size (fun k_ => ((P0_ k_ ∨ P3_ k_ ∨ P4_ k_) ∨ w.heap.size ≤ k_) ∧ some k_ ≠ (u9001_ : Value).ownBlock ∧ some k_ ≠ ((.slice (some ⟨go7, 0, none⟩) y145.length co7) : Value).ownBlock ∧ some k_ ≠ (v147 : Value).ownBlock) u9000_ x0_4) ∧ Aside0 (Kd.R (Kd.int .i64) 3 w' w0.heap.size (fun k_ => ((P0_ k_ ∨ P3_ k_ ∨ P4_ k_) ∨ w.heap.size ≤ k_) ∧ some k_ ≠ (u9000_ : Value).ownBlock ∧ some k_ ≠ ((.slice (some ⟨go7, 0, none⟩) y145.length co7) : Value).ownBlock ∧ some k_ ≠ (v147 : Value).ownBlock) u9001_ x3_4) ∧ Aside0 (Kd.R (Kd.int .i64) 3 w' w0.heap.size (fun k_ => ((P0_ k_ ∨ P3_ k_ ∨ P4_ k_) ∨ w.heap.size ≤ k_) ∧ some k_ ≠ (u9000_ : Value).ownBlock ∧ some k_ ≠ (u9001_ : Value).ownBlock ∧ some k_ ≠ (v147 : Value).ownBlock) (.slice (some ⟨go7, 0, none⟩) y145.length co7) x4_5) ∧ Aside0 (Kd.R (Kd.int .i64) 3 w' w0.heap.size (fun k_ => ((P0_ k_ ∨ P3_ k_ ∨ P4_ k_) ∨ w.heap.size ≤ k_) ∧ some k_ ≠ (u9000_ : Value).ownBlock ∧ some k_ ≠ (u9001_ : Value).ownBlock ∧ some k_ ≠ ((.slice (some ⟨go7, 0, none⟩) y145.length co7) : Value).ownBlock) v147 x7_3) ∧ Aside0 (Kept w w' (fun k_ => P0_ k_ ∨ P3_ k_ ∨ P4_ k_)) ∧ Aside0 (Below w0.heap.size w0 w'))
          case atStart => exact ⟨(y145), (x13_3), rfl, H', ⟨Nat.le_refl _⟩, ⟨Kd.R_mono HO_0.out (fun _ hk => ⟨hk.1, ⟨hk.2.1, ⟨hk.2.2.1, hk.2.2.2.1⟩⟩⟩)⟩, ⟨Kd.R_mono HO_3.out (fun _ hk => ⟨hk.1, ⟨hk.2.1, ⟨hk.2.2.1, hk.2.2.2.1⟩⟩⟩)⟩, ⟨Kd.R_mono HO_4.out (fun _ hk => ⟨hk.1, ⟨hk.2.1, ⟨hk.2.2.1, hk.2.2.2.1⟩⟩⟩)⟩, ⟨Kd.R_mono HO_7.out (fun _ hk => ⟨hk.1, ⟨hk.2.1, ⟨hk.2.2.1, hk.2.2.2.1⟩⟩⟩)⟩, HK, ⟨HB.out⟩⟩
          case round =>
           clear H'
           clear c63b0 c85b0 c86b0 c87b0 c87b1 hx176_0 p176 q176
           obtain ⟨x4_5, x11_5, rfl, HA, HK5, HO_0, HO_3, HO_4, HO_7, HK, HB⟩ := hrel
           have hl4_5 := (Kd.R_reads' HO_4.out).1
           rw [hl4_5] at HO_4
           (try simp only [hl4_5])
           (try simp only [hl4_5] at HO_0)
           (try simp only [hl4_5] at HO_3)
           (try simp only [hl4_5] at HO_7)
           cases gk with
           | zero => exact absurd HA.out (by simp [assign_solved_add.l4])
           | succ k5 =>
            have H := HA.out
            clear HA
            simp only [assign_solved_add.l4] at H
            by_cases c88 : x11_5 = 0
            ·
             rw [if_pos c88] at H
             have c88b0 := beq_iff_eq.mpr c88
             have c88b1 := bne_eq_false_iff_eq.mpr c88
             clear c88
             simp only [Option.some.injEq, Prod.mk.injEq] at H
             obtain ⟨rfl, rfl, rfl⟩ := H
             have hq47_0 := cell_kept HG0.out HK.out HGN.out
             have hq47_1 := cell_kept HG1.out HK.out HGN.out
             have hq47_2 := cell_kept HG2.out HK.out HGN.out
             go_wp2
             try simp only [Exit.inBlock, Exit.then, Exit.noGoto_normal, Exit.noGoto_ret, Exit.noGoto_exit]
             first | go_end0 | ((try simp only [Exit.inBlock, Exit.then]); refine bodyPost_ret (results_none rfl _ _ _) rfl ?_)
             exact ⟨by first | rfl | (simp [errW_none, errW_some] <;> rfl) | (simp only [← hji8]; first | rfl | (simp [errW_none, errW_some] <;> rfl)) | (simp [*, errW_none, errW_some] <;> rfl), (by first | exact (by exact Kd.R_mono HO_0.out (fun _ hk => hk.1)) | (simp only [hl4_1, hl8_1, hl8_2, hl8_3, hl9_3, hl8_4, hl4_5]; exact (by exact Kd.R_mono HO_0.out (fun _ hk => hk.1)))), (by first | exact (by exact Kd.R_mono HO_3.out (fun _ hk => hk.1)) | (simp only [hl4_1, hl8_1, hl8_2, hl8_3, hl9_3, hl8_4, hl4_5]; exact (by exact Kd.R_mono HO_3.out (fun _ hk => hk.1)))), (by first | exact (by exact Kd.R_mono HO_4.out (fun _ hk => hk.1)) | (simp only [hl4_1, hl8_1, hl8_2, hl8_3, hl9_3, hl8_4, hl4_5]; exact (by exact Kd.R_mono HO_4.out (fun _ hk => hk.1)))), by repeat (first | (with_reducible first | exact HB.out | apply below_alloc | apply pw_below_drewN | apply below_drew1) | exact HB.out), by repeat (first | (with_reducible first | exact HK.out | apply Kept.alloc | apply Kept.drewN | apply Kept.drew) | exact HK.out)⟩
            rw [if_neg c88] at H
            have c88b0 := beq_eq_false_iff_ne.mpr c88
            have c88b1 := bne_iff_ne.mpr c88
            obtain ⟨c89, H⟩ : (0 ≤ x11_5) ∧ _ := mIf H
            have c89b0 := decide_eq_true c89
            clear c89
            obtain ⟨c90, H⟩ : (x11_5 < (x7_3.length : Int)) ∧ _ := mIf H
            have c90b0 := decide_eq_true c90
            (try simp only [hl4_1] at c90b0)
            (try simp only [hl8_1] at c90b0)
            (try simp only [hl8_2] at c90b0)
            (try simp only [hl8_3] at c90b0)
            (try simp only [hl9_3] at c90b0)
            (try simp only [hl8_4] at c90b0)
            (try simp only [hl4_5] at c90b0)
            clear c90
            obtain ⟨c91, H⟩ : (0 ≤ (rd x7_3 x11_5)) ∧ _ := mIf H
            have c91b0 := decide_eq_true c91
            clear c91
            obtain ⟨c92, H⟩ : ((rd x7_3 x11_5) < (x4_5.length : Int)) ∧ _ := mIf H
            have c92b0 := decide_eq_true c92
            (try simp only [hl4_1] at c92b0)
            (try simp only [hl8_1] at c92b0)
            (try simp only [hl8_2] at c92b0)
            (try simp only [hl8_3] at c92b0)
            (try simp only [hl9_3] at c92b0)
            (try simp only [hl8_4] at c92b0)
            (try simp only [hl4_5] at c92b0)
            clear c92
            obtain ⟨c93, H⟩ : (x11_5 < (x4_5.length : Int)) ∧ _ := mIf H
            have c93b0 := decide_eq_true c93
            (try simp only [hl4_1] at c93b0)
            (try simp only [hl8_1] at c93b0)
            (try simp only [hl8_2] at c93b0)
            (try simp only [hl8_3] at c93b0)
            (try simp only [hl9_3] at c93b0)
            (try simp only [hl8_4] at c93b0)
            (try simp only [hl4_5] at c93b0)
            clear c93
            obtain ⟨y179, hy179⟩ : ∃ y_ : List Int, y_ = (x4_5.set (x11_5 : Int).toNat (rd x4_5 (rd x7_3 x11_5))) := ⟨_, rfl⟩
            rw [← hy179] at H
            have Ny179 := Aside0.mk hy179
            clear hy179
            have H' := Aside0.mk H
            clear H
            have hq48_0 := cell_kept HG0.out HK.out HGN.out
            have hq48_1 := cell_kept HG1.out HK.out HGN.out
            have hq48_2 := cell_kept HG2.out HK.out HGN.out
            try go_wp2
            have n0_ := Aside0.mk (Kd.R_drew HO_0.out)
            have n1_ := Aside0.mk (Kd.R_drew HO_3.out)
            have n2_ := Aside0.mk (Kd.R_drew HO_4.out)
            have n3_ := Aside0.mk (Kd.R_drew HO_7.out)
            have n4_ := Aside0.mk (Kept.drew HK.out)
            have n5_ := Aside0.mk (below_drew1 HB.out)
            clear HO_0; clear HO_3; clear HO_4; clear HO_7; clear HK; clear HB
            have HO_0 := n0_
            have HO_3 := n1_
            have HO_4 := n2_
            have HO_7 := n3_
            have HK := n4_
            have hq49_0 := cell_kept HG0.out HK.out HGN.out
            have hq49_1 := cell_kept HG1.out HK.out HGN.out
            have hq49_2 := cell_kept HG2.out HK.out HGN.out
            have HB := n5_
            clear n0_ n1_ n2_ n3_ n4_ n5_
            obtain ⟨Ao96, co96, eo96⟩ := Kd.R_slice HO_7.out
            subst eo96
            have p177 : 0 ≤ (x11_5 : Int) := of_decide_eq_true (by assumption)
            have q177 : x11_5 < (x7_3.length : Int) := of_decide_eq_true (by assumption)
            obtain ⟨ad177, e177, hx177_0⟩ := Kd.at_int (Kd.R_reads' HO_7.out).2.2 x11_5 p177 q177
            cases e177
            replace p177 := eq_true p177
            replace q177 := eq_true q177
            have p178 : 0 ≤ ((rd x7_3 x11_5) : Int) := of_decide_eq_true (by assumption)
            have q178 : (rd x7_3 x11_5) < (x4_5.length : Int) := of_decide_eq_true (by assumption)
            obtain ⟨ad178, e178, hx178_0⟩ := Kd.at_int (Kd.R_reads' HO_4.out).2.2 (rd x7_3 x11_5) p178 q178
            obtain rfl : (⟨go7, 0, none⟩ : Addr) = ad178 := (by injection e178)
            (first | simp only [add_plain] at hx178_0 | simp only [add_at] at hx178_0 | simp only [Addr.add, Nat.zero_add] at hx178_0 | skip)
            replace p178 := eq_true p178
            replace q178 := eq_true q178
            have p94 : 0 ≤ (x11_5 : Int) := of_decide_eq_true (by assumption)
            have q94 : (x11_5 : Int) < ((x4_5.length : Int) : Int) := of_decide_eq_true (by assumption)
            obtain ⟨hx94_0, hf94_0⟩ := Kd.R_celln 0 HO_4.out (x11_5 : Int) p94 q94
            replace p94 := eq_true p94
            replace q94 := eq_true q94
            have HP97 := Kd.R_putn HO_4.out (x11_5 : Int) (rd x4_5 (rd x7_3 x11_5))
            rw [← Ny179.out] at HP97
            have HQ97 := Aside0.mk HP97
            clear HP97
            have hq50_0 := cell_kept HG0.out HK.out HGN.out
            have hq50_1 := cell_kept HG1.out HK.out HGN.out
            have hq50_2 := cell_kept HG2.out HK.out HGN.out
            refine start_ (n := 17) (S := fun w' => w'.cell? (ad177.add (x11_5).toNat) = some (.int .i64 (rd x7_3 x11_5)) ∧ w'.cell? ⟨go7, ((rd x7_3 x11_5)).toNat, none⟩ = some (.int .i64 (rd x4_5 (rd x7_3 x11_5))) ∧ w'.cell? ⟨g, 0, none⟩ = _ ∧ w'.cell? ⟨g, 1, none⟩ = _ ∧ w'.cell? ⟨g, 2, none⟩ = _) (ds := [16]) #[false, false, false, false, false, false, false, false, false, false, false, false, false, false, false, false, false] (by kernel_rfl) rfl rfl ⟨hx177_0, hx178_0, hq50_0, hq50_1, hq50_2⟩ (fun hHeld => ?_); refine with_tabW assign_solved_add.tab33 assign_solved_add.bits33 (fun HT_ HW_ => ?_)
            generalize wr.drew = w95 at HO_0 HO_3 HO_4 HO_7 HK HB HQ97 hf94_0 hx177_0 hx178_0 hx94_0 hHeld hq50_0 hq50_1 hq50_2 ⊢
            refine pM 0 167 HT_ ?_
            refine pM 1 168 HT_ ?_
            refine pM 2 169 HT_ ?_
            refine tM 3 170 rfl HT_ HW_ (by rintro w' ⟨s0, s1, sq0, sq1, sq2⟩; go_simp; with_reducible rfl) hHeld ?_
            refine pM 4 171 HT_ ?_
            refine pM 5 172 HT_ ?_
            refine pM 6 173 HT_ ?_
            refine pM 7 174 HT_ ?_
            refine tM 8 175 rfl HT_ HW_ (by rintro w' ⟨s0, s1, sq0, sq1, sq2⟩; go_simp; with_reducible rfl) hHeld ?_
            refine pM 9 176 HT_ ?_
            refine pM 10 177 HT_ ?_
            refine pM 11 178 HT_ ?_
            refine tM 12 179 rfl HT_ HW_ (by rintro w' ⟨s0, s1, sq0, sq1, sq2⟩; go_simp; with_reducible rfl) hHeld ?_
            refine pM 13 180 HT_ ?_
            refine tM 14 181 rfl HT_ HW_ (by rintro w' ⟨s0, s1, sq0, sq1, sq2⟩; go_simp; with_reducible rfl) hHeld ?_
            refine pM 15 182 HT_ ?_
            refine last_ (i := 16) (N := none) #[true, true, true, true, true, true, true, true, true, true, true, true, true, true, true, true, true] rfl rfl (one_of HT_.out (by kernel_rfl)) (by decide) (fun K hK => ?_)
            refine skip_ (w1 := ?_) (by rfl) rfl ?_ ?_
            rotate_left
            ·
             go_simp
             rfl
            refine hK.out _ _ ?_
            clear hK K
            refine done_ (done_of HT_.out (by kernel_rfl)) ?_
            have hn_ : ad177.block ≠ go7 := fun e_ => (HO_7.out.1 ad177.block rfl).2.2.2 (by rw [e_]; rfl)
            have hz_ := (cell_far (p := ⟨go7, (x11_5 : Int).toNat, none⟩) (by first | (rw [add_block]; exact hn_) | exact hn_) (.int .i64 (rd x4_5 (rd x7_3 x11_5)))).trans hx177_0
            have hq51_0 := cell_kept HG0.out HK.out HGN.out
            have hq51_1 := cell_kept HG1.out HK.out HGN.out
            have hq51_2 := cell_kept HG2.out HK.out HGN.out
            try go_wp2
            (try simp only [← hl4_5])
            go_roundg k5
            case measure => have := HK1.out; have := HK2.out; have := HK3.out; have := HK4.out; have := HK5.out; omega
            case rel => exact ⟨(y179), (rd x7_3 x11_5), rfl, H', ⟨by have := HK1.out; have := HK2.out; have := HK3.out; have := HK4.out; have := HK5.out; omega⟩, ⟨by (try simp only [hl4_1, hl8_1, hl8_2, hl8_3, hl9_3, hl8_4, hl4_5]); exact Kd.R_mono (Kd.R_far (p := ⟨go7, (x11_5 : Int).toNat, none⟩) (Kd.R_mono HO_0.out (fun k_ hk => (⟨hk, fun e_ => hk.2.2.1 (by rw [e_]; rfl)⟩ : _ ∧ k_ ≠ go7))) (fun _ hk => hk.2) (.int .i64 (rd x4_5 (rd x7_3 x11_5)))) (fun _ hk => ⟨hk.1.1, ⟨hk.1.2.1, ⟨hk.1.2.2.1, hk.1.2.2.2⟩⟩⟩)⟩, ⟨by (try simp only [hl4_1, hl8_1, hl8_2, hl8_3, hl9_3, hl8_4, hl4_5]); exact Kd.R_mono (Kd.R_far (p := ⟨go7, (x11_5 : Int).toNat, none⟩) (Kd.R_mono HO_3.out (fun k_ hk => (⟨hk, fun e_ => hk.2.2.1 (by rw [e_]; rfl)⟩ : _ ∧ k_ ≠ go7))) (fun _ hk => hk.2) (.int .i64 (rd x4_5 (rd x7_3 x11_5)))) (fun _ hk => ⟨hk.1.1, ⟨hk.1.2.1, ⟨hk.1.2.2.1, hk.1.2.2.2⟩⟩⟩)⟩, ⟨by (try simp only [hl4_1, hl8_1, hl8_2, hl8_3, hl9_3, hl8_4, hl4_5]); exact rO HQ97⟩, ⟨by (try simp only [hl4_1, hl8_1, hl8_2, hl8_3, hl9_3, hl8_4, hl4_5]); exact Kd.R_mono (Kd.R_far (p := ⟨go7, (x11_5 : Int).toNat, none⟩) (Kd.R_mono HO_7.out (fun k_ hk => (⟨hk, fun e_ => hk.2.2.2 (by rw [e_]; rfl)⟩ : _ ∧ k_ ≠ go7))) (fun _ hk => hk.2) (.int .i64 (rd x4_5 (rd x7_3 x11_5)))) (fun _ hk => ⟨hk.1.1, ⟨hk.1.2.1, ⟨hk.1.2.2.1, hk.1.2.2.2⟩⟩⟩)⟩, ⟨by repeat (first | (with_reducible first | exact HK.out | apply Kept.alloc | apply Kept.drewN | apply Kept.drew | refine Kept.setCell ?_ HMgo7.out _) | exact HK.out)⟩, ⟨hO HB⟩⟩
         rw [if_pos c63] at H
         have c63b0 := decide_eq_true c63
         (try simp only [hl4_1] at c63b0)
         (try simp only [hl8_1] at c63b0)
         (try simp only [hl8_2] at c63b0)
         (try simp only [hl8_3] at c63b0)
         (try simp only [hl9_3] at c63b0)
         (try simp only [hl8_4] at c63b0)
         (try simp only [hji8] at c63b0)
         clear c63
         obtain ⟨c64, H⟩ : (0 ≤ x115_4) ∧ _ := mIf H
         have c64b0 := decide_eq_true c64
         clear c64
         obtain ⟨c65, H⟩ : (x115_4 < (y156.length : Int)) ∧ _ := mIf H
         have c65b0 := decide_eq_true c65
         (try simp only [hl4_1] at c65b0)
         (try simp only [hl8_1] at c65b0)
         (try simp only [hl8_2] at c65b0)
         (try simp only [hl8_3] at c65b0)
         (try simp only [hl9_3] at c65b0)
         (try simp only [hl8_4] at c65b0)
         clear c65
         obtain ⟨bq66, hbq66⟩ : ∃ b_ : Bool, b_ = (rdOf false y156 x115_4) := ⟨_, rfl⟩
         replace H : (if bq66 = true then (if x115_4 < (y145.length : Int) then (if 0 ≤ (rd y145 x115_4) then (if (rd y145 x115_4) < (x0_4.length : Int) then (if x115_4 < (x3_4.length : Int) then (assign_solved_add.l3 k4 (x0_4.set ((rd y145 x115_4) : Int).toNat (wrap64 ((rd x0_4 (rd y145 x115_4)) + x14_3))) l1 (x3_4.set (x115_4 : Int).toNat (wrap64 ((rd x3_4 x115_4) - x14_3))) y145 (l1.length : Int) x7_3 x8_4 y156 x13_3 x14_3 (wrap64 ((l1.length : Int) + 1)) (wrap64 (x115_4 + 1))) else (none)) else (none)) else (none)) else (none)) else (if x115_4 < (x8_4.length : Int) then (assign_solved_add.l3 k4 x0_4 l1 x3_4 y145 (l1.length : Int) x7_3 (x8_4.set (x115_4 : Int).toNat (wrap64 ((rd x8_4 x115_4) - x14_3))) y156 x13_3 x14_3 (wrap64 ((l1.length : Int) + 1)) (wrap64 (x115_4 + 1))) else (none))) = some (r1, r2, r3) := by rw [← hbq66] at H; exact H
         have Nbq66 := Aside0.mk hbq66
         clear hbq66
         by_cases c67 : bq66 = true
         rotate_left
         ·
          replace c67 := Bool.eq_false_iff.mpr c67
          subst c67
          rw [if_neg (show ¬ (false = true) by decide)] at H
          obtain ⟨c81, H⟩ : (x115_4 < (x8_4.length : Int)) ∧ _ := mIf H
          have c81b0 := decide_eq_true c81
          (try simp only [hl4_1] at c81b0)
          (try simp only [hl8_1] at c81b0)
          (try simp only [hl8_2] at c81b0)
          (try simp only [hl8_3] at c81b0)
          (try simp only [hl9_3] at c81b0)
          (try simp only [hl8_4] at c81b0)
          clear c81
          obtain ⟨y175, hy175⟩ : ∃ y_ : List Int, y_ = (x8_4.set (x115_4 : Int).toNat (wrap64 ((rd x8_4 x115_4) - x14_3))) := ⟨_, rfl⟩
          rw [← hy175] at H
          have Ny175 := Aside0.mk hy175
          clear hy175
          have H' := Aside0.mk H
          clear H
          have p168 : 0 ≤ (x115_4 : Int) := of_decide_eq_true (by assumption)
          have q168 : x115_4 < (y156.length : Int) := of_decide_eq_true (by assumption)
          obtain ⟨ad168, e168, hx168_0⟩ := Kd.at_bool (Kd.R_reads' HO_9.out).2.2 x115_4 p168 q168
          (try rw [← Nbq66.out] at hx168_0)
          obtain rfl : (⟨go29, 0, none⟩ : Addr) = ad168 := (by injection e168)
          (first | simp only [add_plain] at hx168_0 | simp only [add_at] at hx168_0 | simp only [Addr.add, Nat.zero_add] at hx168_0 | skip)
          replace p168 := eq_true p168
          replace q168 := eq_true q168
          have p174 : 0 ≤ (x115_4 : Int) := of_decide_eq_true (by assumption)
          have q174 : x115_4 < (x8_4.length : Int) := of_decide_eq_true (by assumption)
          obtain ⟨ad174, e174, hx174_0⟩ := Kd.at_int (Kd.R_reads' HO_8.out).2.2 x115_4 p174 q174
          cases e174
          replace p174 := eq_true p174
          replace q174 := eq_true q174
          have p82 : 0 ≤ (x115_4 : Int) := of_decide_eq_true (by assumption)
          have q82 : (x115_4 : Int) < ((x8_4.length : Int) : Int) := of_decide_eq_true (by assumption)
          obtain ⟨go82, co82, eo82, gb8, gl82, cl82, HG82⟩ := Kd.R_form HO_8.out (by omega)
          (first | cases eo82 | (injection eo82 with ea_ en_ ec_; (first | subst ea_ | (injection ea_ with ea_; subst ea_)); subst ec_; clear en_))
          have GB82 := Aside0.mk gb8
          have GG82 := Aside0.mk HG82
          clear gb8 gl82 HG82
          have HMgo82 := Aside0.mk (show ((P0_ go82 ∨ P3_ go82 ∨ P4_ go82) ∨ w.heap.size ≤ go82) from (HO_8.out.1 _ rfl).1)
          (first | simp only [add_plain] at hx174_0 | skip)
          obtain ⟨hx82_0, hf82_0⟩ := Kd.R_celln 0 HO_8.out (x115_4 : Int) p82 q82
          replace p82 := eq_true p82
          replace q82 := eq_true q82
          have HP83 := Kd.R_putg HO_8.out (x115_4 : Int) (wrap64 ((rd x8_4 x115_4) - x14_3))
          have hq44_0 := cell_kept HG0.out HK.out HGN.out
          have hq44_1 := cell_kept HG1.out HK.out HGN.out
          have hq44_2 := cell_kept HG2.out HK.out HGN.out
          go_wp2_with (first | ((with_reducible refine gate_store (t := 3) (p := 154) rfl ?_); refine store_event (t := 3) (p := 154) (v := ?vo_w84) (w1 := (wr.setCell ⟨go82, (x115_4 : Int).toNat, none⟩ (.int .i64 (wrap64 ((rd x8_4 x115_4) - x14_3))))) ?hg ?ho ?hn ?hr ?_; (case ho => rfl); (case hg => rfl); (case hn => rfl); (case hr => first | (go_simp; done) | (go_simp; rfl)); intro w84 hw; have hg : wr.grownBy w84 (some go82) := (by rw [hw]; exact HP83.2); have hp_ : Kd.R (Kd.int .i64) 3 w84 w0.heap.size (fun k_ => ((P0_ k_ ∨ P3_ k_ ∨ P4_ k_) ∨ w.heap.size ≤ k_) ∧ some k_ ≠ (u9000_ : Value).ownBlock ∧ some k_ ≠ (u9001_ : Value).ownBlock ∧ some k_ ≠ (.slice (some ⟨go7, 0, none⟩) y145.length co7 : Value).ownBlock ∧ some k_ ≠ (v147 : Value).ownBlock) (.slice (some ⟨go82, 0, none⟩) x8_4.length co20) y175 := (by rw [hw, Ny175.out]; exact HP83.1); clear HP83; have n0_ := Aside0.mk (Kd.R_after (v := (.slice (some ⟨go82, 0, none⟩) x8_4.length co20)) (v1 := (.slice (some ⟨go82, 0, none⟩) x8_4.length co20)) (ok := (fun k_ => ((P0_ k_ ∨ P3_ k_ ∨ P4_ k_) ∨ w.heap.size ≤ k_) ∧ some k_ ≠ (u9001_ : Value).ownBlock ∧ some k_ ≠ (.slice (some ⟨go7, 0, none⟩) y145.length co7 : Value).ownBlock ∧ some k_ ≠ (v147 : Value).ownBlock)) (by exact Kd.R_mono HO_0.out (fun _ hk => ⟨⟨hk.1, ⟨hk.2.1, ⟨hk.2.2.1, hk.2.2.2.1⟩⟩⟩, hk.2.2.2.2⟩)) hg (.inl rfl)); have n1_ := Aside0.mk (Kd.R_after (v := (.slice (some ⟨go82, 0, none⟩) x8_4.length co20)) (v1 := (.slice (some ⟨go82, 0, none⟩) x8_4.length co20)) (ok := (fun k_ => ((P0_ k_ ∨ P3_ k_ ∨ P4_ k_) ∨ w.heap.size ≤ k_) ∧ some k_ ≠ (u9000_ : Value).ownBlock ∧ some k_ ≠ (.slice (some ⟨go7, 0, none⟩) y145.length co7 : Value).ownBlock ∧ some k_ ≠ (v147 : Value).ownBlock)) (by exact Kd.R_mono HO_3.out (fun _ hk => ⟨⟨hk.1, ⟨hk.2.1, ⟨hk.2.2.1, hk.2.2.2.1⟩⟩⟩, hk.2.2.2.2⟩)) hg (.inl rfl)); have n2_ := Aside0.mk (Kd.R_after (v := (.slice (some ⟨go82, 0, none⟩) x8_4.length co20)) (v1 := (.slice (some ⟨go82, 0, none⟩) x8_4.length co20)) (ok := (fun k_ => ((P0_ k_ ∨ P3_ k_ ∨ P4_ k_) ∨ w.heap.size ≤ k_) ∧ some k_ ≠ (u9000_ : Value).ownBlock ∧ some k_ ≠ (u9001_ : Value).ownBlock ∧ some k_ ≠ (v147 : Value).ownBlock)) (by exact Kd.R_mono HO_4.out (fun _ hk => ⟨⟨hk.1, ⟨hk.2.1, ⟨hk.2.2.1, hk.2.2.2.1⟩⟩⟩, hk.2.2.2.2⟩)) hg (.inl rfl)); have n3_ := Aside0.mk (Kd.R_after (v := (.slice (some ⟨go82, 0, none⟩) x8_4.length co20)) (v1 := (.slice (some ⟨go82, 0, none⟩) x8_4.length co20)) (ok := (fun k_ => ((P0_ k_ ∨ P3_ k_ ∨ P4_ k_) ∨ w.heap.size ≤ k_) ∧ some k_ ≠ (u9000_ : Value).ownBlock ∧ some k_ ≠ (u9001_ : Value).ownBlock ∧ some k_ ≠ (.slice (some ⟨go7, 0, none⟩) y145.length co7 : Value).ownBlock)) (by exact Kd.R_mono HO_7.out (fun _ hk => ⟨⟨hk.1, ⟨hk.2.1, ⟨hk.2.2.1, hk.2.2.2.1⟩⟩⟩, hk.2.2.2.2⟩)) hg (.inl rfl)); have n4_ := Aside0.mk (hp_); have n5_ := Aside0.mk (Kd.R_over' (v := (.slice (some ⟨go82, 0, none⟩) x8_4.length co20)) HO_9.out (Kd.R_typed HO_8.out) (by decide) hg); have n6_ := Aside0.mk ((by rw [hw]; exact below_set (HB.out) GB82.out : Below w0.heap.size w0 w84)); have n7_ := Aside0.mk (Kept.of_grown (S := (fun k_ => P0_ k_ ∨ P3_ k_ ∨ P4_ k_)) hg (by repeat (first | (with_reducible first | exact HK.out | apply Kept.alloc | apply Kept.drewN | apply Kept.drew) | exact HK.out)) (fun k_ e_ => (HO_8.out.1 k_ e_).1)); clear HO_0; clear HO_3; clear HO_4; clear HO_7; clear HO_8; clear HO_9; clear HB; clear HK; have HO_0 := n0_; have HO_3 := n1_; have HO_4 := n2_; have HO_7 := n3_; have HO_8 := n4_; have HO_9 := n5_; have HB := n6_; have HK := n7_; have hq43_0 := cell_kept HG0.out HK.out HGN.out; have hq43_1 := cell_kept HG1.out HK.out HGN.out; have hq43_2 := cell_kept HG2.out HK.out HGN.out; clear n0_ n1_ n2_ n3_ n4_ n5_ n6_ n7_; clear hg hw hp_))
          (try simp only [← hl8_4])
          go_roundg k4
          case measure => have := HK1.out; have := HK2.out; have := HK3.out; have := HK4.out; omega
          case rel => exact ⟨(x0_4), (x3_4), (y175), (wrap64 (x115_4 + 1)), rfl, H', ⟨by have := HK1.out; have := HK2.out; have := HK3.out; have := HK4.out; omega⟩, ⟨Kd.R_mono HO_0.out (fun _ hk => ⟨hk.1.1, ⟨hk.1.2.1, ⟨hk.1.2.2.1, ⟨hk.1.2.2.2, hk.2⟩⟩⟩⟩)⟩, ⟨Kd.R_mono HO_3.out (fun _ hk => ⟨hk.1.1, ⟨hk.1.2.1, ⟨hk.1.2.2.1, ⟨hk.1.2.2.2, hk.2⟩⟩⟩⟩)⟩, ⟨Kd.R_mono HO_4.out (fun _ hk => ⟨hk.1.1, ⟨hk.1.2.1, ⟨hk.1.2.2.1, ⟨hk.1.2.2.2, hk.2⟩⟩⟩⟩)⟩, ⟨Kd.R_mono HO_7.out (fun _ hk => ⟨hk.1.1, ⟨hk.1.2.1, ⟨hk.1.2.2.1, ⟨hk.1.2.2.2, hk.2⟩⟩⟩⟩)⟩, ⟨by (try simp only [hl4_1, hl8_1, hl8_2, hl8_3, hl9_3, hl8_4]); exact rO HO_8⟩, HO_9, HK, ⟨HB.out⟩⟩
         subst c67
         rw [if_pos rfl] at H
         obtain ⟨c68, H⟩ : (x115_4 < (y145.length : Int)) ∧ _ := mIf H
         have c68b0 := decide_eq_true c68
         (try simp only [hl4_1] at c68b0)
         (try simp only [hl8_1] at c68b0)
         (try simp only [hl8_2] at c68b0)
         (try simp only [hl8_3] at c68b0)
         (try simp only [hl9_3] at c68b0)
         (try simp only [hl8_4] at c68b0)
         clear c68
         obtain ⟨c69, H⟩ : (0 ≤ (rd y145 x115_4)) ∧ _ := mIf H
         have c69b0 := decide_eq_true c69
         clear c69
         obtain ⟨c70, H⟩ : ((rd y145 x115_4) < (x0_4.length : Int)) ∧ _ := mIf H
         have c70b0 := decide_eq_true c70
         (try simp only [hl4_1] at c70b0)
         (try simp only [hl8_1] at c70b0)
         (try simp only [hl8_2] at c70b0)
         (try simp only [hl8_3] at c70b0)
         (try simp only [hl9_3] at c70b0)
         (try simp only [hl8_4] at c70b0)
         clear c70
         obtain ⟨y171, hy171⟩ : ∃ y_ : List Int, y_ = (x0_4.set ((rd y145 x115_4) : Int).toNat (wrap64 ((rd x0_4 (rd y145 x115_4)) + x14_3))) := ⟨_, rfl⟩
         rw [← hy171] at H
         have Ny171 := Aside0.mk hy171
         clear hy171
         obtain ⟨c72, H⟩ : (x115_4 < (x3_4.length : Int)) ∧ _ := mIf H
         have c72b0 := decide_eq_true c72
         (try simp only [hl4_1] at c72b0)
         (try simp only [hl8_1] at c72b0)
         (try simp only [hl8_2] at c72b0)
         (try simp only [hl8_3] at c72b0)
         (try simp only [hl9_3] at c72b0)
         (try simp only [hl8_4] at c72b0)
         clear c72
         obtain ⟨y173, hy173⟩ : ∃ y_ : List Int, y_ = (x3_4.set (x115_4 : Int).toNat (wrap64 ((rd x3_4 x115_4) - x14_3))) := ⟨_, rfl⟩
         rw [← hy173] at H
         have Ny173 := Aside0.mk hy173
         clear hy173
         have H' := Aside0.mk H
         clear H
         have p168 : 0 ≤ (x115_4 : Int) := of_decide_eq_true (by assumption)
         have q168 : x115_4 < (y156.length : Int) := of_decide_eq_true (by assumption)
         obtain ⟨ad168, e168, hx168_0⟩ := Kd.at_bool (Kd.R_reads' HO_9.out).2.2 x115_4 p168 q168
         (try rw [← Nbq66.out] at hx168_0)
         obtain rfl : (⟨go29, 0, none⟩ : Addr) = ad168 := (by injection e168)
         (first | simp only [add_plain] at hx168_0 | simp only [add_at] at hx168_0 | simp only [Addr.add, Nat.zero_add] at hx168_0 | skip)
         replace p168 := eq_true p168
         replace q168 := eq_true q168
         have hq37_0 := cell_kept HG0.out HK.out HGN.out
         have hq37_1 := cell_kept HG1.out HK.out HGN.out
         have hq37_2 := cell_kept HG2.out HK.out HGN.out
         try go_wp2
         have n0_ := Aside0.mk (Kd.R_drew HO_0.out)
         have n1_ := Aside0.mk (Kd.R_drew HO_3.out)
         have n2_ := Aside0.mk (Kd.R_drew HO_4.out)
         have n3_ := Aside0.mk (Kd.R_drew HO_7.out)
         have n4_ := Aside0.mk (Kd.R_drew HO_8.out)
         have n5_ := Aside0.mk (Kd.R_drew HO_9.out)
         have n6_ := Aside0.mk (Kept.drew HK.out)
         have n7_ := Aside0.mk (below_drew1 HB.out)
         clear HO_0; clear HO_3; clear HO_4; clear HO_7; clear HO_8; clear HO_9; clear HK; clear HB
         have HO_0 := n0_
         have HO_3 := n1_
         have HO_4 := n2_
         have HO_7 := n3_
         have HO_8 := n4_
         have HO_9 := n5_
         have HK := n6_
         have hq38_0 := cell_kept HG0.out HK.out HGN.out
         have hq38_1 := cell_kept HG1.out HK.out HGN.out
         have hq38_2 := cell_kept HG2.out HK.out HGN.out
         have HB := n7_
         clear n0_ n1_ n2_ n3_ n4_ n5_ n6_ n7_
         have p169 : 0 ≤ (x115_4 : Int) := of_decide_eq_true (by assumption)
         have q169 : x115_4 < (y145.length : Int) := of_decide_eq_true (by assumption)
         obtain ⟨ad169, e169, hx169_0⟩ := Kd.at_int (Kd.R_reads' HO_4.out).2.2 x115_4 p169 q169
         obtain rfl : (⟨go7, 0, none⟩ : Addr) = ad169 := (by injection e169)
         (first | simp only [add_plain] at hx169_0 | simp only [add_at] at hx169_0 | simp only [Addr.add, Nat.zero_add] at hx169_0 | skip)
         replace p169 := eq_true p169
         replace q169 := eq_true q169
         obtain ⟨Ao75, co75, eo75⟩ := Kd.R_slice HO_0.out
         subst eo75
         have p170 : 0 ≤ ((rd y145 x115_4) : Int) := of_decide_eq_true (by assumption)
         have q170 : (rd y145 x115_4) < (x0_4.length : Int) := of_decide_eq_true (by assumption)
         obtain ⟨ad170, e170, hx170_0⟩ := Kd.at_int (Kd.R_reads' HO_0.out).2.2 (rd y145 x115_4) p170 q170
         cases e170
         replace p170 := eq_true p170
         replace q170 := eq_true q170
         have p71 : 0 ≤ ((rd y145 x115_4) : Int) := of_decide_eq_true (by assumption)
         have q71 : ((rd y145 x115_4) : Int) < ((x0_4.length : Int) : Int) := of_decide_eq_true (by assumption)
         obtain ⟨go71, co71, eo71, gb6, gl71, cl71, HG71⟩ := Kd.R_form HO_0.out (by omega)
         (first | cases eo71 | (injection eo71 with ea_ en_ ec_; (first | subst ea_ | (injection ea_ with ea_; subst ea_)); subst ec_; clear en_))
         have GB71 := Aside0.mk gb6
         have GG71 := Aside0.mk HG71
         clear gb6 gl71 HG71
         have HMgo71 := Aside0.mk (show ((P0_ go71 ∨ P3_ go71 ∨ P4_ go71) ∨ w.heap.size ≤ go71) from (HO_0.out.1 _ rfl).1)
         (first | simp only [add_plain] at hx170_0 | skip)
         obtain ⟨hx71_0, hf71_0⟩ := Kd.R_celln 0 HO_0.out ((rd y145 x115_4) : Int) p71 q71
         replace p71 := eq_true p71
         replace q71 := eq_true q71
         have HP76 := Kd.R_putn HO_0.out ((rd y145 x115_4) : Int) (wrap64 ((rd x0_4 (rd y145 x115_4)) + x14_3))
         rw [← Ny171.out] at HP76
         have HQ76 := Aside0.mk HP76
         clear HP76
         have hq39_0 := cell_kept HG0.out HK.out HGN.out
         have hq39_1 := cell_kept HG1.out HK.out HGN.out
         have hq39_2 := cell_kept HG2.out HK.out HGN.out
         refine start_ (n := 17) (S := fun w' => w'.cell? ⟨go7, (x115_4).toNat, none⟩ = some (.int .i64 (rd y145 x115_4)) ∧ w'.cell? ⟨go71, ((rd y145 x115_4)).toNat, none⟩ = some (.int .i64 (rd x0_4 (rd y145 x115_4))) ∧ w'.cell? ⟨g, 0, none⟩ = _ ∧ w'.cell? ⟨g, 1, none⟩ = _ ∧ w'.cell? ⟨g, 2, none⟩ = _) (ds := [16]) #[false, false, false, false, false, false, false, false, false, false, false, false, false, false, false, false, false] (by kernel_rfl) rfl rfl ⟨hx169_0, hx170_0, hq39_0, hq39_1, hq39_2⟩ (fun hHeld => ?_); refine with_tabW assign_solved_add.tab26 assign_solved_add.bits26 (fun HT_ HW_ => ?_)
         generalize wr.drew = w74 at HO_0 HO_3 HO_4 HO_7 HO_8 HO_9 HK HB GG71 HQ76 hf71_0 hx169_0 hx170_0 hx71_0 hHeld hq39_0 hq39_1 hq39_2 ⊢
         refine pM 0 122 HT_ ?_
         refine pM 1 123 HT_ ?_
         refine pM 2 124 HT_ ?_
         refine tM 3 125 rfl HT_ HW_ (by rintro w' ⟨s0, s1, sq0, sq1, sq2⟩; go_simp; with_reducible rfl) hHeld ?_
         refine pM 4 126 HT_ ?_
         refine pM 5 127 HT_ ?_
         refine pM 6 128 HT_ ?_
         refine tM 7 129 rfl HT_ HW_ (by rintro w' ⟨s0, s1, sq0, sq1, sq2⟩; go_simp; with_reducible rfl) hHeld ?_
         refine pM 8 130 HT_ ?_
         refine pM 9 131 HT_ ?_
         refine pM 13 135 HT_ ?_
         refine tM 10 132 rfl HT_ HW_ (by rintro w' ⟨s0, s1, sq0, sq1, sq2⟩; go_simp; with_reducible rfl) hHeld ?_
         refine pM 11 133 HT_ ?_
         refine tM 12 134 rfl HT_ HW_ (by rintro w' ⟨s0, s1, sq0, sq1, sq2⟩; go_simp; with_reducible rfl) hHeld ?_
         refine pM 14 136 HT_ ?_
         refine pM 15 137 HT_ ?_
         refine last_ (i := 16) (N := none) #[true, true, true, true, true, true, true, true, true, true, true, true, true, true, true, true, true] rfl rfl (one_of HT_.out (by kernel_rfl)) (by decide) (fun K hK => ?_)
         refine skip_ (w1 := ?_) (by rfl) rfl ?_ ?_
         rotate_left
         ·
          go_simp
          rfl
         refine hK.out _ _ ?_
         clear hK K
         refine done_ (done_of HT_.out (by kernel_rfl)) ?_
         have n0_ : Aside0 (Kd.R (Kd.int .i64) 3 (w74.setCell ⟨go71, ((rd y145 x115_4) : Int).toNat, none⟩ (.int .i64 (wrap64 ((rd x0_4 (rd y145 x115_4)) + x14_3)))) w0.heap.size (fun k_ => ((P0_ k_ ∨ P3_ k_ ∨ P4_ k_) ∨ w.heap.size ≤ k_) ∧ some k_ ≠ (u9001_ : Value).ownBlock ∧ some k_ ≠ (.slice (some ⟨go7, 0, none⟩) y145.length co7 : Value).ownBlock ∧ some k_ ≠ (v147 : Value).ownBlock ∧ some k_ ≠ (.slice Ao20 x8_4.length co20 : Value).ownBlock) (.slice (some ⟨go71, 0, none⟩) x0_4.length co75) y171) := HQ76
         have n1_ : Aside0 (Kd.R (Kd.int .i64) 3 (w74.setCell ⟨go71, ((rd y145 x115_4) : Int).toNat, none⟩ (.int .i64 (wrap64 ((rd x0_4 (rd y145 x115_4)) + x14_3)))) w0.heap.size (fun k_ => ((P0_ k_ ∨ P3_ k_ ∨ P4_ k_) ∨ w.heap.size ≤ k_) ∧ some k_ ≠ (.slice (some ⟨go71, 0, none⟩) x0_4.length co75 : Value).ownBlock ∧ some k_ ≠ (.slice (some ⟨go7, 0, none⟩) y145.length co7 : Value).ownBlock ∧ some k_ ≠ (v147 : Value).ownBlock ∧ some k_ ≠ (.slice Ao20 x8_4.length co20 : Value).ownBlock) u9001_ x3_4) := ⟨by exact Kd.R_mono (Kd.R_far (p := ⟨go71, ((rd y145 x115_4) : Int).toNat, none⟩) (Kd.R_mono HO_3.out (fun k_ hk => (⟨hk, fun e_ => hk.2.1 (by rw [e_]; rfl)⟩ : _ ∧ k_ ≠ go71))) (fun _ hk => hk.2) (.int .i64 (wrap64 ((rd x0_4 (rd y145 x115_4)) + x14_3)))) (fun _ hk => ⟨hk.1.1, ⟨hk.1.2.1, ⟨hk.1.2.2.1, ⟨hk.1.2.2.2.1, hk.1.2.2.2.2⟩⟩⟩⟩)⟩
         have n2_ : Aside0 (Kd.R (Kd.int .i64) 3 (w74.setCell ⟨go71, ((rd y145 x115_4) : Int).toNat, none⟩ (.int .i64 (wrap64 ((rd x0_4 (rd y145 x115_4)) + x14_3)))) w0.heap.size (fun k_ => ((P0_ k_ ∨ P3_ k_ ∨ P4_ k_) ∨ w.heap.size ≤ k_) ∧ some k_ ≠ (.slice (some ⟨go71, 0, none⟩) x0_4.length co75 : Value).ownBlock ∧ some k_ ≠ (u9001_ : Value).ownBlock ∧ some k_ ≠ (v147 : Value).ownBlock ∧ some k_ ≠ (.slice Ao20 x8_4.length co20 : Value).ownBlock) (.slice (some ⟨go7, 0, none⟩) y145.length co7) y145) := ⟨by exact Kd.R_mono (Kd.R_far (p := ⟨go71, ((rd y145 x115_4) : Int).toNat, none⟩) (Kd.R_mono HO_4.out (fun k_ hk => (⟨hk, fun e_ => hk.2.1 (by rw [e_]; rfl)⟩ : _ ∧ k_ ≠ go71))) (fun _ hk => hk.2) (.int .i64 (wrap64 ((rd x0_4 (rd y145 x115_4)) + x14_3)))) (fun _ hk => ⟨hk.1.1, ⟨hk.1.2.1, ⟨hk.1.2.2.1, ⟨hk.1.2.2.2.1, hk.1.2.2.2.2⟩⟩⟩⟩)⟩
         have n3_ : Aside0 (Kd.R (Kd.int .i64) 3 (w74.setCell ⟨go71, ((rd y145 x115_4) : Int).toNat, none⟩ (.int .i64 (wrap64 ((rd x0_4 (rd y145 x115_4)) + x14_3)))) w0.heap.size (fun k_ => ((P0_ k_ ∨ P3_ k_ ∨ P4_ k_) ∨ w.heap.size ≤ k_) ∧ some k_ ≠ (.slice (some ⟨go71, 0, none⟩) x0_4.length co75 : Value).ownBlock ∧ some k_ ≠ (u9001_ : Value).ownBlock ∧ some k_ ≠ (.slice (some ⟨go7, 0, none⟩) y145.length co7 : Value).ownBlock ∧ some k_ ≠ (.slice Ao20 x8_4.length co20 : Value).ownBlock) v147 x7_3) := ⟨by exact Kd.R_mono (Kd.R_far (p := ⟨go71, ((rd y145 x115_4) : Int).toNat, none⟩) (Kd.R_mono HO_7.out (fun k_ hk => (⟨hk, fun e_ => hk.2.1 (by rw [e_]; rfl)⟩ : _ ∧ k_ ≠ go71))) (fun _ hk => hk.2) (.int .i64 (wrap64 ((rd x0_4 (rd y145 x115_4)) + x14_3)))) (fun _ hk => ⟨hk.1.1, ⟨hk.1.2.1, ⟨hk.1.2.2.1, ⟨hk.1.2.2.2.1, hk.1.2.2.2.2⟩⟩⟩⟩)⟩
         have n4_ : Aside0 (Kd.R (Kd.int .i64) 3 (w74.setCell ⟨go71, ((rd y145 x115_4) : Int).toNat, none⟩ (.int .i64 (wrap64 ((rd x0_4 (rd y145 x115_4)) + x14_3)))) w0.heap.size (fun k_ => ((P0_ k_ ∨ P3_ k_ ∨ P4_ k_) ∨ w.heap.size ≤ k_) ∧ some k_ ≠ (.slice (some ⟨go71, 0, none⟩) x0_4.length co75 : Value).ownBlock ∧ some k_ ≠ (u9001_ : Value).ownBlock ∧ some k_ ≠ (.slice (some ⟨go7, 0, none⟩) y145.length co7 : Value).ownBlock ∧ some k_ ≠ (v147 : Value).ownBlock) (.slice Ao20 x8_4.length co20) x8_4) := ⟨by exact Kd.R_mono (Kd.R_far (p := ⟨go71, ((rd y145 x115_4) : Int).toNat, none⟩) (Kd.R_mono HO_8.out (fun k_ hk => (⟨hk, fun e_ => hk.2.1 (by rw [e_]; rfl)⟩ : _ ∧ k_ ≠ go71))) (fun _ hk => hk.2) (.int .i64 (wrap64 ((rd x0_4 (rd y145 x115_4)) + x14_3)))) (fun _ hk => ⟨hk.1.1, ⟨hk.1.2.1, ⟨hk.1.2.2.1, ⟨hk.1.2.2.2.1, hk.1.2.2.2.2⟩⟩⟩⟩)⟩
         have n5_ : Aside0 (Kd.R Kd.bool 4 (w74.setCell ⟨go71, ((rd y145 x115_4) : Int).toNat, none⟩ (.int .i64 (wrap64 ((rd x0_4 (rd y145 x115_4)) + x14_3)))) w0.heap.size (fun k_ => ((P0_ k_ ∨ P3_ k_ ∨ P4_ k_) ∨ w.heap.size ≤ k_)) (.slice (some ⟨go29, 0, none⟩) y156.length co29) y156) := ⟨Kd.R_mono (Kd.R_far (p := ⟨go71, ((rd y145 x115_4) : Int).toNat, none⟩) (Kd.R_types HO_9.out GG71.out (by decide)) (fun _ hk => hk.2) (.int .i64 (wrap64 ((rd x0_4 (rd y145 x115_4)) + x14_3)))) (fun _ hk => hk.1)⟩
         have n6_ : Aside0 (Kept w (w74.setCell ⟨go71, ((rd y145 x115_4) : Int).toNat, none⟩ (.int .i64 (wrap64 ((rd x0_4 (rd y145 x115_4)) + x14_3)))) (fun k_ => P0_ k_ ∨ P3_ k_ ∨ P4_ k_)) := ⟨by repeat (first | (with_reducible first | exact HK.out | apply Kept.alloc | apply Kept.drewN | apply Kept.drew | refine Kept.setCell ?_ HMgo71.out _) | exact HK.out)⟩
         have n7_ : Aside0 (Below w0.heap.size w0 (w74.setCell ⟨go71, ((rd y145 x115_4) : Int).toNat, none⟩ (.int .i64 (wrap64 ((rd x0_4 (rd y145 x115_4)) + x14_3))))) := ⟨hO HB⟩
         (try clear HO_0)
         (try clear HO_3)
         (try clear HO_4)
         (try clear HO_7)
         (try clear HO_8)
         (try clear HO_9)
         (try clear HK)
         (try clear HB)
         generalize (w74.setCell ⟨go71, ((rd y145 x115_4) : Int).toNat, none⟩ (.int .i64 (wrap64 ((rd x0_4 (rd y145 x115_4)) + x14_3)))) = w77 at n0_ n1_ n2_ n3_ n4_ n5_ n6_ n7_ hq39_0 hq39_1 hq39_2 ⊢
         have HO_0 := n0_
         have HO_3 := n1_
         have HO_4 := n2_
         have HO_7 := n3_
         have HO_8 := n4_
         have HO_9 := n5_
         have HK := n6_
         have hq40_0 := cell_kept HG0.out HK.out HGN.out
         have hq40_1 := cell_kept HG1.out HK.out HGN.out
         have hq40_2 := cell_kept HG2.out HK.out HGN.out
         have HB := n7_
         clear n0_ n1_ n2_ n3_ n4_ n5_ n6_ n7_
         obtain ⟨Ao78, co78, eo78⟩ := Kd.R_slice HO_3.out
         subst eo78
         have p172 : 0 ≤ (x115_4 : Int) := of_decide_eq_true (by assumption)
         have q172 : x115_4 < (x3_4.length : Int) := of_decide_eq_true (by assumption)
         obtain ⟨ad172, e172, hx172_0⟩ := Kd.at_int (Kd.R_reads' HO_3.out).2.2 x115_4 p172 q172
         cases e172
         replace p172 := eq_true p172
         replace q172 := eq_true q172
         have p73 : 0 ≤ (x115_4 : Int) := of_decide_eq_true (by assumption)
         have q73 : (x115_4 : Int) < ((x3_4.length : Int) : Int) := of_decide_eq_true (by assumption)
         obtain ⟨go73, co73, eo73, gb7, gl73, cl73, HG73⟩ := Kd.R_form HO_3.out (by omega)
         (first | cases eo73 | (injection eo73 with ea_ en_ ec_; (first | subst ea_ | (injection ea_ with ea_; subst ea_)); subst ec_; clear en_))
         have GB73 := Aside0.mk gb7
         have GG73 := Aside0.mk HG73
         clear gb7 gl73 HG73
         have HMgo73 := Aside0.mk (show ((P0_ go73 ∨ P3_ go73 ∨ P4_ go73) ∨ w.heap.size ≤ go73) from (HO_3.out.1 _ rfl).1)
         (first | simp only [add_plain] at hx172_0 | skip)
         obtain ⟨hx73_0, hf73_0⟩ := Kd.R_celln 0 HO_3.out (x115_4 : Int) p73 q73
         replace p73 := eq_true p73
         replace q73 := eq_true q73
         obtain ⟨hy79_, hz79_⟩ := Kd.R_celln 0 HO_3.out (x115_4 : Int) (of_decide_eq_true (by assumption)) (of_decide_eq_true (by assumption))
         have HP79 := Kd.R_putg HO_3.out (x115_4 : Int) (wrap64 ((rd x3_4 x115_4) - x14_3))
         have hq42_0 := cell_kept HG0.out HK.out HGN.out
         have hq42_1 := cell_kept HG1.out HK.out HGN.out
         have hq42_2 := cell_kept HG2.out HK.out HGN.out
         try go_wp2_with (first | ((with_reducible refine gate_store (t := 3) (p := 147) rfl ?_); refine store_event (t := 3) (p := 147) (v := ?vo_w80) (w1 := (w77.setCell ⟨go73, (x115_4 : Int).toNat, none⟩ (.int .i64 (wrap64 ((rd x3_4 x115_4) - x14_3))))) ?hg ?ho ?hn ?hr ?_; (case ho => rfl); (case hg => rfl); (case hn => rfl); (case hr => first | (go_simp; done) | (go_simp; rfl)); intro w80 hw; have hg : w77.grownBy w80 (some go73) := (by rw [hw]; exact HP79.2); have hp_ : Kd.R (Kd.int .i64) 3 w80 w0.heap.size (fun k_ => ((P0_ k_ ∨ P3_ k_ ∨ P4_ k_) ∨ w.heap.size ≤ k_) ∧ some k_ ≠ (.slice (some ⟨go71, 0, none⟩) x0_4.length co75 : Value).ownBlock ∧ some k_ ≠ (.slice (some ⟨go7, 0, none⟩) y145.length co7 : Value).ownBlock ∧ some k_ ≠ (v147 : Value).ownBlock ∧ some k_ ≠ (.slice Ao20 x8_4.length co20 : Value).ownBlock) (.slice (some ⟨go73, 0, none⟩) x3_4.length co78) y173 := (by rw [hw, Ny173.out]; exact HP79.1); clear HP79; have n0_ := Aside0.mk (Kd.R_after (v := (.slice (some ⟨go73, 0, none⟩) x3_4.length co78)) (v1 := (.slice (some ⟨go73, 0, none⟩) x3_4.length co78)) (ok := (fun k_ => ((P0_ k_ ∨ P3_ k_ ∨ P4_ k_) ∨ w.heap.size ≤ k_) ∧ some k_ ≠ (.slice (some ⟨go7, 0, none⟩) y145.length co7 : Value).ownBlock ∧ some k_ ≠ (v147 : Value).ownBlock ∧ some k_ ≠ (.slice Ao20 x8_4.length co20 : Value).ownBlock)) (by exact Kd.R_mono HO_0.out (fun _ hk => ⟨⟨hk.1, ⟨hk.2.2.1, ⟨hk.2.2.2.1, hk.2.2.2.2⟩⟩⟩, hk.2.1⟩)) hg (.inl rfl)); have n1_ := Aside0.mk (hp_); have n2_ := Aside0.mk (Kd.R_after (v := (.slice (some ⟨go73, 0, none⟩) x3_4.length co78)) (v1 := (.slice (some ⟨go73, 0, none⟩) x3_4.length co78)) (ok := (fun k_ => ((P0_ k_ ∨ P3_ k_ ∨ P4_ k_) ∨ w.heap.size ≤ k_) ∧ some k_ ≠ (.slice (some ⟨go71, 0, none⟩) x0_4.length co75 : Value).ownBlock ∧ some k_ ≠ (v147 : Value).ownBlock ∧ some k_ ≠ (.slice Ao20 x8_4.length co20 : Value).ownBlock)) (by exact Kd.R_mono HO_4.out (fun _ hk => ⟨⟨hk.1, ⟨hk.2.1, ⟨hk.2.2.2.1, hk.2.2.2.2⟩⟩⟩, hk.2.2.1⟩)) hg (.inl rfl)); have n3_ := Aside0.mk (Kd.R_after (v := (.slice (some ⟨go73, 0, none⟩) x3_4.length co78)) (v1 := (.slice (some ⟨go73, 0, none⟩) x3_4.length co78)) (ok := (fun k_ => ((P0_ k_ ∨ P3_ k_ ∨ P4_ k_) ∨ w.heap.size ≤ k_) ∧ some k_ ≠ (.slice (some ⟨go71, 0, none⟩) x0_4.length co75 : Value).ownBlock ∧ some k_ ≠ (.slice (some ⟨go7, 0, none⟩) y145.length co7 : Value).ownBlock ∧ some k_ ≠ (.slice Ao20 x8_4.length co20 : Value).ownBlock)) (by exact Kd.R_mono HO_7.out (fun _ hk => ⟨⟨hk.1, ⟨hk.2.1, ⟨hk.2.2.2.1, hk.2.2.2.2⟩⟩⟩, hk.2.2.1⟩)) hg (.inl rfl)); have n4_ := Aside0.mk (Kd.R_after (v := (.slice (some ⟨go73, 0, none⟩) x3_4.length co78)) (v1 := (.slice (some ⟨go73, 0, none⟩) x3_4.length co78)) (ok := (fun k_ => ((P0_ k_ ∨ P3_ k_ ∨ P4_ k_) ∨ w.heap.size ≤ k_) ∧ some k_ ≠ (.slice (some ⟨go71, 0, none⟩) x0_4.length co75 : Value).ownBlock ∧ some k_ ≠ (.slice (some ⟨go7, 0, none⟩) y145.length co7 : Value).ownBlock ∧ some k_ ≠ (v147 : Value).ownBlock)) (by exact Kd.R_mono HO_8.out (fun _ hk => ⟨⟨hk.1, ⟨hk.2.1, ⟨hk.2.2.2.1, hk.2.2.2.2⟩⟩⟩, hk.2.2.1⟩)) hg (.inl rfl)); have n5_ := Aside0.mk (Kd.R_over' (v := (.slice (some ⟨go73, 0, none⟩) x3_4.length co78)) HO_9.out (Kd.R_typed HO_3.out) (by decide) hg); have n6_ := Aside0.mk ((by rw [hw]; exact below_set (HB.out) GB73.out : Below w0.heap.size w0 w80)); have n7_ := Aside0.mk (Kept.of_grown (S := (fun k_ => P0_ k_ ∨ P3_ k_ ∨ P4_ k_)) hg (by repeat (first | (with_reducible first | exact HK.out | apply Kept.alloc | apply Kept.drewN | apply Kept.drew) | exact HK.out)) (fun k_ e_ => (HO_3.out.1 k_ e_).1)); clear HO_0; clear HO_3; clear HO_4; clear HO_7; clear HO_8; clear HO_9; clear HB; clear HK; have HO_0 := n0_; have HO_3 := n1_; have HO_4 := n2_; have HO_7 := n3_; have HO_8 := n4_; have HO_9 := n5_; have HB := n6_; have HK := n7_; have hq41_0 := cell_kept HG0.out HK.out HGN.out; have hq41_1 := cell_kept HG1.out HK.out HGN.out; have hq41_2 := cell_kept HG2.out HK.out HGN.out; clear n0_ n1_ n2_ n3_ n4_ n5_ n6_ n7_; clear hg hw hp_))
         (try simp only [← hl8_4])
         go_roundg k4
         case measure => have := HK1.out; have := HK2.out; have := HK3.out; have := HK4.out; omega
         case rel => exact ⟨(y171), (y173), (x8_4), (wrap64 (x115_4 + 1)), rfl, H', ⟨by have := HK1.out; have := HK2.out; have := HK3.out; have := HK4.out; omega⟩, ⟨by (try simp only [hl4_1, hl8_1, hl8_2, hl8_3, hl9_3, hl8_4]); exact Kd.R_mono HO_0.out (fun _ hk => ⟨hk.1.1, ⟨hk.2, ⟨hk.1.2.1, ⟨hk.1.2.2.1, hk.1.2.2.2⟩⟩⟩⟩)⟩, ⟨by (try simp only [hl4_1, hl8_1, hl8_2, hl8_3, hl9_3, hl8_4]); exact rO HO_3⟩, ⟨by (try simp only [hl4_1, hl8_1, hl8_2, hl8_3, hl9_3, hl8_4]); exact Kd.R_mono HO_4.out (fun _ hk => ⟨hk.1.1, ⟨hk.1.2.1, ⟨hk.2, ⟨hk.1.2.2.1, hk.1.2.2.2⟩⟩⟩⟩)⟩, ⟨by (try simp only [hl4_1, hl8_1, hl8_2, hl8_3, hl9_3, hl8_4]); exact Kd.R_mono HO_7.out (fun _ hk => ⟨hk.1.1, ⟨hk.1.2.1, ⟨hk.2, ⟨hk.1.2.2.1, hk.1.2.2.2⟩⟩⟩⟩)⟩, ⟨by (try simp only [hl4_1, hl8_1, hl8_2, hl8_3, hl9_3, hl8_4]); exact Kd.R_mono HO_8.out (fun _ hk => ⟨hk.1.1, ⟨hk.1.2.1, ⟨hk.2, ⟨hk.1.2.2.1, hk.1.2.2.2⟩⟩⟩⟩)⟩, HO_9, HK, ⟨HB.out⟩⟩
end Go.Proofs.YtaggccbndmmbhaaDoor.PAll
