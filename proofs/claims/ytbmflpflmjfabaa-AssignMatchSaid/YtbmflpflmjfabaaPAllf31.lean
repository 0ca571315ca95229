-- Written by wip/tools/handprint.py: walks of the functions that the law reaches; Lean checks them.
import Derived.Test.YtbmflpflmjfabaaPAllx0
namespace Go.Proofs.Ytbmflpflmjfabaa.PAll
open Go.RowKit Go.Proofs.YtbmflpflmjfabaaW.PrintWords Go.Proofs.YtbmflpflmjfabaaW.PrintLast Go.Proofs.YtbmflpflmjfabaaW.PrintMore
attribute [local go_sem] max2_int min2_int max_two min_two max_three min_three max_four min_four   -- for this text's walks alone
set_option linter.unusedVariables false
set_option linter.unusedSimpArgs false

/-! ### assign_solved_add: function 31 -/
mutual
def assign_solved_add.l0 : Nat → List Int → List (List Int) → List Int → List Int → Int → List Int → List Int → List Bool → Int → Int → Option (List Int × List Int × List Int)
 | 0, _, _, _, _, _, _, _, _, _, _ => none
 | k + 1, x0, x1, x3, x4, x6, x7, x8, x9, x36, x37 => if x37 < x36 then (if 0 ≤ x37 then (if x37 < (x8.length : Int) then (assign_solved_add.l0 k x0 x1 x3 x4 x6 x7 (x8.set (x37 : Int).toNat 1152921504606846976) x9 x36 (wrap64 (x37 + 1))) else (none)) else (none)) else (assign_solved_add.l1 k x0 x1 x3 x4 x6 x7 x8 x9 0)
def assign_solved_add.l1 : Nat → List Int → List (List Int) → List Int → List Int → Int → List Int → List Int → List Bool → Int → Option (List Int × List Int × List Int)
 | 0, _, _, _, _, _, _, _, _, _ => none
 | k + 1, x0, x1, x3, x4, x6, x7, x8, x9, x11 => if 0 ≤ x11 then (if x11 < (x9.length : Int) then (if x11 < (x4.length : Int) then (assign_solved_add.l2 k x0 x1 x3 x4 x6 x7 x8 (x9.set (x11 : Int).toNat true) x11 (rd x4 x11) 0 1152921504606846976 1) else (none)) else (none)) else (none)
def assign_solved_add.l2 : Nat → List Int → List (List Int) → List Int → List Int → Int → List Int → List Int → List Bool → Int → Int → Int → Int → Int → Option (List Int × List Int × List Int)
 | 0, _, _, _, _, _, _, _, _, _, _, _, _, _ => none
 | k + 1, x0, x1, x3, x4, x6, x7, x8, x9, x11, x12, x13, x14, x15 => if x15 ≤ x6 then (if 0 ≤ x15 then (if x15 < (x9.length : Int) then (if rdOf false x9 x15 = true then (assign_solved_add.l2 k x0 x1 x3 x4 x6 x7 x8 x9 x11 x12 x13 x14 (wrap64 (x15 + 1))) else (if 0 ≤ (wrap64 (x12 - 1)) then (if (wrap64 (x12 - 1)) < (x1.length : Int) then (if 0 ≤ (wrap64 (x15 - 1)) then (if (wrap64 (x15 - 1)) < ((rd_L1 x1 (wrap64 (x12 - 1))).length : Int) then (if 0 ≤ x12 then (if x12 < (x0.length : Int) then (if x15 < (x3.length : Int) then (if x15 < (x8.length : Int) then (if (wrap64 ((wrap64 ((rd (rd_L1 x1 (wrap64 (x12 - 1))) (wrap64 (x15 - 1))) - (rd x0 x12))) - (rd x3 x15))) < (rd x8 x15) then (if x15 < (x7.length : Int) then (assign_solved_add.j3 k x0 x1 x3 x4 x6 (x7.set (x15 : Int).toNat x11) (x8.set (x15 : Int).toNat (wrap64 ((wrap64 ((rd (rd_L1 x1 (wrap64 (x12 - 1))) (wrap64 (x15 - 1))) - (rd x0 x12))) - (rd x3 x15)))) x9 x11 x12 x13 x14 x15) else (none)) else (assign_solved_add.j3 k x0 x1 x3 x4 x6 x7 x8 x9 x11 x12 x13 x14 x15)) else (none)) else (none)) else (none)) else (none)) else (none)) else (none)) else (none)) else (none))) else (none)) else (none)) else (assign_solved_add.l3 k x0 x1 x3 x4 x6 x7 x8 x9 x13 x14 (wrap64 (x6 + 1)) 0)
def assign_solved_add.j3 : Nat → List Int → List (List Int) → List Int → List Int → Int → List Int → List Int → List Bool → Int → Int → Int → Int → Int → Option (List Int × List Int × List Int)
 | 0, _, _, _, _, _, _, _, _, _, _, _, _, _ => none
 | k + 1, x0, x1, x3, x4, x6, x7, x8, x9, x11, x12, x13, x14, x15 => if 0 ≤ x15 then (if x15 < (x8.length : Int) then (if (rd x8 x15) < x14 then (assign_solved_add.l2 k x0 x1 x3 x4 x6 x7 x8 x9 x11 x12 x15 (rd x8 x15) (wrap64 (x15 + 1))) else (assign_solved_add.l2 k x0 x1 x3 x4 x6 x7 x8 x9 x11 x12 x13 x14 (wrap64 (x15 + 1)))) else (none)) else (none)
def assign_solved_add.l3 : Nat → List Int → List (List Int) → List Int → List Int → Int → List Int → List Int → List Bool → Int → Int → Int → Int → Option (List Int × List Int × List Int)
 | 0, _, _, _, _, _, _, _, _, _, _, _, _ => none
 | k + 1, x0, x1, x3, x4, x6, x7, x8, x9, x13, x14, x114, x115 => if x115 < x114 then (if 0 ≤ x115 then (if x115 < (x9.length : Int) then (if rdOf false x9 x115 = true then (if x115 < (x4.length : Int) then (if 0 ≤ (rd x4 x115) then (if (rd x4 x115) < (x0.length : Int) then (if x115 < (x3.length : Int) then (assign_solved_add.l3 k (x0.set ((rd x4 x115) : Int).toNat (wrap64 ((rd x0 (rd x4 x115)) + x14))) x1 (x3.set (x115 : Int).toNat (wrap64 ((rd x3 x115) - x14))) x4 x6 x7 x8 x9 x13 x14 x114 (wrap64 (x115 + 1))) else (none)) else (none)) else (none)) else (none)) else (if x115 < (x8.length : Int) then (assign_solved_add.l3 k x0 x1 x3 x4 x6 x7 (x8.set (x115 : Int).toNat (wrap64 ((rd x8 x115) - x14))) x9 x13 x14 x114 (wrap64 (x115 + 1))) else (none))) else (none)) else (none)) else (if 0 ≤ x13 then (if x13 < (x4.length : Int) then (if (rd x4 x13) = 0 then (assign_solved_add.l4 k x0 x3 x4 x7 x13) else (assign_solved_add.l1 k x0 x1 x3 x4 x6 x7 x8 x9 x13)) else (none)) else (none))
def assign_solved_add.l4 : Nat → List Int → List Int → List Int → List Int → Int → Option (List Int × List Int × List Int)
 | 0, _, _, _, _, _ => none
 | k + 1, x0, x3, x4, x7, x11 => if x11 = 0 then (some (x0, x3, x4)) else (if 0 ≤ x11 then (if x11 < (x7.length : Int) then (if 0 ≤ (rd x7 x11) then (if (rd x7 x11) < (x4.length : Int) then (if x11 < (x4.length : Int) then (assign_solved_add.l4 k x0 x3 (x4.set (x11 : Int).toNat (rd x4 (rd x7 x11))) x7 (rd x7 x11)) else (none)) else (none)) else (none)) else (none)) else (none))
end
def assign_solved_add.f (k : Nat) (l0 : List Int) (l1 : List (List Int)) (a2 : Int) (l3 : List Int) (l4 : List Int) : Option (List Int × List Int × List Int) := if 0 < (l4.length : Int) then (if 0 ≤ (wrap64 ((l1.length : Int) + 1)) then (if (wrap64 ((l1.length : Int) + 1) : Int).toNat ≤ 35184372088832 then ((some (List.replicate (wrap64 ((l1.length : Int) + 1) : Int).toNat 0 : List Int)).bind fun y113 => (if (wrap64 ((l1.length : Int) + 1) : Int).toNat ≤ 281474976710656 then (assign_solved_add.l0 k l0 l1 l3 (l4.set (0 : Int).toNat a2) (l1.length : Int) (List.replicate (wrap64 ((l1.length : Int) + 1) : Int).toNat 0) y113 (List.replicate (wrap64 ((l1.length : Int) + 1) : Int).toNat false) (y113.length : Int) 0) else (none))) else (none)) else (none)) else (none)
theorem assign_solved_add.mono_l : ∀ k, (∀ y0 y1 y2 y3 y4 y5 y6 y7 y8 y9, LeO (assign_solved_add.l0 k y0 y1 y2 y3 y4 y5 y6 y7 y8 y9) (assign_solved_add.l0 (k + 1) y0 y1 y2 y3 y4 y5 y6 y7 y8 y9)) ∧ (∀ y0 y1 y2 y3 y4 y5 y6 y7 y8, LeO (assign_solved_add.l1 k y0 y1 y2 y3 y4 y5 y6 y7 y8) (assign_solved_add.l1 (k + 1) y0 y1 y2 y3 y4 y5 y6 y7 y8)) ∧ (∀ y0 y1 y2 y3 y4 y5 y6 y7 y8 y9 y10 y11 y12, LeO (assign_solved_add.l2 k y0 y1 y2 y3 y4 y5 y6 y7 y8 y9 y10 y11 y12) (assign_solved_add.l2 (k + 1) y0 y1 y2 y3 y4 y5 y6 y7 y8 y9 y10 y11 y12)) ∧ (∀ y0 y1 y2 y3 y4 y5 y6 y7 y8 y9 y10 y11 y12, LeO (assign_solved_add.j3 k y0 y1 y2 y3 y4 y5 y6 y7 y8 y9 y10 y11 y12) (assign_solved_add.j3 (k + 1) y0 y1 y2 y3 y4 y5 y6 y7 y8 y9 y10 y11 y12)) ∧ (∀ y0 y1 y2 y3 y4 y5 y6 y7 y8 y9 y10 y11, LeO (assign_solved_add.l3 k y0 y1 y2 y3 y4 y5 y6 y7 y8 y9 y10 y11) (assign_solved_add.l3 (k + 1) y0 y1 y2 y3 y4 y5 y6 y7 y8 y9 y10 y11)) ∧ (∀ y0 y1 y2 y3 y4, LeO (assign_solved_add.l4 k y0 y1 y2 y3 y4) (assign_solved_add.l4 (k + 1) y0 y1 y2 y3 y4))
 | 0 => ⟨fun _ _ _ _ _ _ _ _ _ _ r h => by simp [assign_solved_add.l0] at h, fun _ _ _ _ _ _ _ _ _ r h => by simp [assign_solved_add.l1] at h, fun _ _ _ _ _ _ _ _ _ _ _ _ _ r h => by simp [assign_solved_add.l2] at h, fun _ _ _ _ _ _ _ _ _ _ _ _ _ r h => by simp [assign_solved_add.j3] at h, fun _ _ _ _ _ _ _ _ _ _ _ _ r h => by simp [assign_solved_add.l3] at h, fun _ _ _ _ _ r h => by simp [assign_solved_add.l4] at h⟩
 | k + 1 => by
  obtain ⟨ih0, ih1, ih2, ih3, ih4, ih5⟩ := assign_solved_add.mono_l k
  refine ⟨?_, ?_, ?_, ?_, ?_, ?_⟩
  ·
   intro y0 y1 y2 y3 y4 y5 y6 y7 y8 y9
   unfold assign_solved_add.l0
   repeat' first
   | (with_reducible exact ih0 _ _ _ _ _ _ _ _ _ _)
   | (with_reducible exact ih1 _ _ _ _ _ _ _ _ _)
   | (with_reducible exact ih2 _ _ _ _ _ _ _ _ _ _ _ _ _)
   | (with_reducible exact ih3 _ _ _ _ _ _ _ _ _ _ _ _ _)
   | (with_reducible exact ih4 _ _ _ _ _ _ _ _ _ _ _ _)
   | (with_reducible exact ih5 _ _ _ _ _)
   | (with_reducible exact LeO.refl _)
   | (with_reducible exact LeO.none _)
   | (with_reducible refine LeO.ite ?_ ?_)
   | (with_reducible refine LeO.bind ?_ (fun _ => ?_))
   | exact ih0 _ _ _ _ _ _ _ _ _ _
   | exact ih1 _ _ _ _ _ _ _ _ _
   | exact ih2 _ _ _ _ _ _ _ _ _ _ _ _ _
   | exact ih3 _ _ _ _ _ _ _ _ _ _ _ _ _
   | exact ih4 _ _ _ _ _ _ _ _ _ _ _ _
   | exact ih5 _ _ _ _ _
   | exact LeO.none _
   | refine LeO.ite ?_ ?_
   | refine LeO.bind ?_ (fun _ => ?_)
  ·
   intro y0 y1 y2 y3 y4 y5 y6 y7 y8
   unfold assign_solved_add.l1
   repeat' first
   | (with_reducible exact ih0 _ _ _ _ _ _ _ _ _ _)
   | (with_reducible exact ih1 _ _ _ _ _ _ _ _ _)
   | (with_reducible exact ih2 _ _ _ _ _ _ _ _ _ _ _ _ _)
   | (with_reducible exact ih3 _ _ _ _ _ _ _ _ _ _ _ _ _)
   | (with_reducible exact ih4 _ _ _ _ _ _ _ _ _ _ _ _)
   | (with_reducible exact ih5 _ _ _ _ _)
   | (with_reducible exact LeO.refl _)
   | (with_reducible exact LeO.none _)
   | (with_reducible refine LeO.ite ?_ ?_)
   | (with_reducible refine LeO.bind ?_ (fun _ => ?_))
   | exact ih0 _ _ _ _ _ _ _ _ _ _
   | exact ih1 _ _ _ _ _ _ _ _ _
   | exact ih2 _ _ _ _ _ _ _ _ _ _ _ _ _
   | exact ih3 _ _ _ _ _ _ _ _ _ _ _ _ _
   | exact ih4 _ _ _ _ _ _ _ _ _ _ _ _
   | exact ih5 _ _ _ _ _
   | exact LeO.none _
   | refine LeO.ite ?_ ?_
   | refine LeO.bind ?_ (fun _ => ?_)
  ·
   intro y0 y1 y2 y3 y4 y5 y6 y7 y8 y9 y10 y11 y12
   unfold assign_solved_add.l2
   repeat' first
   | (with_reducible exact ih0 _ _ _ _ _ _ _ _ _ _)
   | (with_reducible exact ih1 _ _ _ _ _ _ _ _ _)
   | (with_reducible exact ih2 _ _ _ _ _ _ _ _ _ _ _ _ _)
   | (with_reducible exact ih3 _ _ _ _ _ _ _ _ _ _ _ _ _)
   | (with_reducible exact ih4 _ _ _ _ _ _ _ _ _ _ _ _)
   | (with_reducible exact ih5 _ _ _ _ _)
   | (with_reducible exact LeO.refl _)
   | (with_reducible exact LeO.none _)
   | (with_reducible refine LeO.ite ?_ ?_)
   | (with_reducible refine LeO.bind ?_ (fun _ => ?_))
   | exact ih0 _ _ _ _ _ _ _ _ _ _
   | exact ih1 _ _ _ _ _ _ _ _ _
   | exact ih2 _ _ _ _ _ _ _ _ _ _ _ _ _
   | exact ih3 _ _ _ _ _ _ _ _ _ _ _ _ _
   | exact ih4 _ _ _ _ _ _ _ _ _ _ _ _
   | exact ih5 _ _ _ _ _
   | exact LeO.none _
   | refine LeO.ite ?_ ?_
   | refine LeO.bind ?_ (fun _ => ?_)
  ·
   intro y0 y1 y2 y3 y4 y5 y6 y7 y8 y9 y10 y11 y12
   unfold assign_solved_add.j3
   repeat' first
   | (with_reducible exact ih0 _ _ _ _ _ _ _ _ _ _)
   | (with_reducible exact ih1 _ _ _ _ _ _ _ _ _)
   | (with_reducible exact ih2 _ _ _ _ _ _ _ _ _ _ _ _ _)
   | (with_reducible exact ih3 _ _ _ _ _ _ _ _ _ _ _ _ _)
   | (with_reducible exact ih4 _ _ _ _ _ _ _ _ _ _ _ _)
   | (with_reducible exact ih5 _ _ _ _ _)
   | (with_reducible exact LeO.refl _)
   | (with_reducible exact LeO.none _)
   | (with_reducible refine LeO.ite ?_ ?_)
   | (with_reducible refine LeO.bind ?_ (fun _ => ?_))
   | exact ih0 _ _ _ _ _ _ _ _ _ _
   | exact ih1 _ _ _ _ _ _ _ _ _
   | exact ih2 _ _ _ _ _ _ _ _ _ _ _ _ _
   | exact ih3 _ _ _ _ _ _ _ _ _ _ _ _ _
   | exact ih4 _ _ _ _ _ _ _ _ _ _ _ _
   | exact ih5 _ _ _ _ _
   | exact LeO.none _
   | refine LeO.ite ?_ ?_
   | refine LeO.bind ?_ (fun _ => ?_)
  ·
   intro y0 y1 y2 y3 y4 y5 y6 y7 y8 y9 y10 y11
   unfold assign_solved_add.l3
   repeat' first
   | (with_reducible exact ih0 _ _ _ _ _ _ _ _ _ _)
   | (with_reducible exact ih1 _ _ _ _ _ _ _ _ _)
   | (with_reducible exact ih2 _ _ _ _ _ _ _ _ _ _ _ _ _)
   | (with_reducible exact ih3 _ _ _ _ _ _ _ _ _ _ _ _ _)
   | (with_reducible exact ih4 _ _ _ _ _ _ _ _ _ _ _ _)
   | (with_reducible exact ih5 _ _ _ _ _)
   | (with_reducible exact LeO.refl _)
   | (with_reducible exact LeO.none _)
   | (with_reducible refine LeO.ite ?_ ?_)
   | (with_reducible refine LeO.bind ?_ (fun _ => ?_))
   | exact ih0 _ _ _ _ _ _ _ _ _ _
   | exact ih1 _ _ _ _ _ _ _ _ _
   | exact ih2 _ _ _ _ _ _ _ _ _ _ _ _ _
   | exact ih3 _ _ _ _ _ _ _ _ _ _ _ _ _
   | exact ih4 _ _ _ _ _ _ _ _ _ _ _ _
   | exact ih5 _ _ _ _ _
   | exact LeO.none _
   | refine LeO.ite ?_ ?_
   | refine LeO.bind ?_ (fun _ => ?_)
  ·
   intro y0 y1 y2 y3 y4
   unfold assign_solved_add.l4
   repeat' first
   | (with_reducible exact ih0 _ _ _ _ _ _ _ _ _ _)
   | (with_reducible exact ih1 _ _ _ _ _ _ _ _ _)
   | (with_reducible exact ih2 _ _ _ _ _ _ _ _ _ _ _ _ _)
   | (with_reducible exact ih3 _ _ _ _ _ _ _ _ _ _ _ _ _)
   | (with_reducible exact ih4 _ _ _ _ _ _ _ _ _ _ _ _)
   | (with_reducible exact ih5 _ _ _ _ _)
   | (with_reducible exact LeO.refl _)
   | (with_reducible exact LeO.none _)
   | (with_reducible refine LeO.ite ?_ ?_)
   | (with_reducible refine LeO.bind ?_ (fun _ => ?_))
   | exact ih0 _ _ _ _ _ _ _ _ _ _
   | exact ih1 _ _ _ _ _ _ _ _ _
   | exact ih2 _ _ _ _ _ _ _ _ _ _ _ _ _
   | exact ih3 _ _ _ _ _ _ _ _ _ _ _ _ _
   | exact ih4 _ _ _ _ _ _ _ _ _ _ _ _
   | exact ih5 _ _ _ _ _
   | exact LeO.none _
   | refine LeO.ite ?_ ?_
   | refine LeO.bind ?_ (fun _ => ?_)
theorem assign_solved_add.mono : ∀ a0 a1 a2 a3 a4 k, LeO (assign_solved_add.f k a0 a1 a2 a3 a4) (assign_solved_add.f (k + 1) a0 a1 a2 a3 a4) := by
 intro a0 a1 a2 a3 a4 k
 obtain ⟨ih0, ih1, ih2, ih3, ih4, ih5⟩ := assign_solved_add.mono_l k
 unfold assign_solved_add.f
 repeat' first
   | (with_reducible exact ih0 _ _ _ _ _ _ _ _ _ _)
   | (with_reducible exact ih1 _ _ _ _ _ _ _ _ _)
   | (with_reducible exact ih2 _ _ _ _ _ _ _ _ _ _ _ _ _)
   | (with_reducible exact ih3 _ _ _ _ _ _ _ _ _ _ _ _ _)
   | (with_reducible exact ih4 _ _ _ _ _ _ _ _ _ _ _ _)
   | (with_reducible exact ih5 _ _ _ _ _)
   | (with_reducible exact LeO.refl _)
   | (with_reducible exact LeO.none _)
   | (with_reducible refine LeO.ite ?_ ?_)
   | (with_reducible refine LeO.bind ?_ (fun _ => ?_))
   | exact ih0 _ _ _ _ _ _ _ _ _ _
   | exact ih1 _ _ _ _ _ _ _ _ _
   | exact ih2 _ _ _ _ _ _ _ _ _ _ _ _ _
   | exact ih3 _ _ _ _ _ _ _ _ _ _ _ _ _
   | exact ih4 _ _ _ _ _ _ _ _ _ _ _ _
   | exact ih5 _ _ _ _ _
   | exact LeO.none _
   | refine LeO.ite ?_ ?_
   | refine LeO.bind ?_ (fun _ => ?_)
def assign_solved_add.T17 : Bool × List (List Nat × List Nat) := (true, [([], []), ([], []), ([1], [1]), ([0, 2], [0, 2]), ([3], [3]), ([], []), ([5], [5]), ([4, 6], [4, 6]), ([7], [7]), ([], []), ([9], [9]), ([10], [10]), ([11], [11]), ([], []), ([12, 13], [12, 13]), ([14], [14]), ([8, 15], [8, 15]), ([], []), ([17], [17]), ([18], [18]), ([19], [19]), ([], []), ([20, 21], [20, 21]), ([22], [22]), ([16, 23], [16, 23]), ([24, 0, 1, 2, 3, 4, 5, 6, 7, 8, 9, 10, 11, 12, 13, 14, 15, 16, 17, 18, 19, 20, 21, 22, 23, 24], [24])])
def assign_solved_add.B17 : List Nat := [0, 0, 2, 7, 15, 0, 32, 127, 255, 0, 512, 1536, 3584, 0, 15872, 32256, 65535, 0, 131072, 393216, 917504, 0, 4063232, 8257536, 16777215, 33554431]
theorem assign_solved_add.tab17 : rtab .any (opsOf Try.f31 17) = assign_solved_add.T17 := by kernel_rfl
theorem assign_solved_add.bits17 : waitsOk assign_solved_add.T17.2 assign_solved_add.B17 = true := by kernel_rfl
def assign_solved_add.T26 : Bool × List (List Nat × List Nat) := (true, [([], []), ([0], [0]), ([1], [1]), ([2], [2]), ([], []), ([4], [4]), ([5], [5]), ([6], [6]), ([], []), ([7, 8], [7, 8]), ([9], [9]), ([3, 10], [3, 10]), ([11], [11]), ([], []), ([12, 13], [12, 13]), ([3, 10, 0, 1, 2, 3, 4, 5, 6, 7, 8, 9, 10, 11, 12, 13, 14], [3, 10]), ([15, 14, 0, 1, 2, 3, 4, 5, 6, 7, 8, 9, 10, 11, 12, 13, 14], [14, 15])])
def assign_solved_add.B26 : List Nat := [0, 1, 3, 7, 0, 16, 48, 112, 0, 496, 1008, 2047, 4095, 0, 16383, 32767, 65535]
theorem assign_solved_add.tab26 : rtab .any (opsOf Try.f31 26) = assign_solved_add.T26 := by kernel_rfl
theorem assign_solved_add.bits26 : waitsOk assign_solved_add.T26.2 assign_solved_add.B26 = true := by kernel_rfl
def assign_solved_add.T33 : Bool × List (List Nat × List Nat) := (true, [([], []), ([0], [0]), ([1], [1]), ([2], [2]), ([], []), ([], []), ([5], [5]), ([6], [6]), ([7], [7]), ([], []), ([], []), ([9, 10], [9, 10]), ([11], [11]), ([8, 12], [8, 12]), ([13], [13]), ([3, 4, 0, 1, 2, 3, 4, 5, 6, 7, 8, 9, 10, 11, 12, 13, 14], [3, 4]), ([15, 14, 0, 1, 2, 3, 4, 5, 6, 7, 8, 9, 10, 11, 12, 13, 14], [14, 15])])
def assign_solved_add.B33 : List Nat := [0, 1, 3, 7, 0, 0, 32, 96, 224, 0, 0, 1536, 3584, 8160, 16352, 32767, 65535]
theorem assign_solved_add.tab33 : rtab .any (opsOf Try.f31 33) = assign_solved_add.T33 := by kernel_rfl
theorem assign_solved_add.bits33 : waitsOk assign_solved_add.T33.2 assign_solved_add.B33 = true := by kernel_rfl
set_option maxHeartbeats 8000000 in
set_option maxRecDepth 100000 in
theorem assign_solved_add.calls (k : Nat) (P0_ : Nat → Prop) (u9000_ : Value) (l0 : List Int) (A1 : Option Addr) (c1 : Nat) (l1 : List (List Int)) (a2 : Int) (P3_ : Nat → Prop) (u9001_ : Value) (l3 : List Int) (P4_ : Nat → Prop) (u9002_ : Value) (l4 : List Int) (r1 : List Int) (r2 : List Int) (r3 : List Int) (w0 w : World) (hB : Below w0.heap.size w0 w) (ho0 : Kd.R (Kd.int .i64) 3 w w0.heap.size P0_ u9000_ l0) (hp0_3 : ∀ k_, P0_ k_ → ¬ P3_ k_) (hp0_4 : ∀ k_, P0_ k_ → ¬ P4_ k_) (hr1 : ∀ W_, Kept w W_ (fun k_ => P0_ k_ ∨ P3_ k_ ∨ P4_ k_) → Kd.C (Kd.slice 3 (Kd.int .i64)) W_ A1 l1.length l1) (hc1 : l1.length ≤ c1) (ho3 : Kd.R (Kd.int .i64) 3 w w0.heap.size P3_ u9001_ l3) (hp3_0 : ∀ k_, P3_ k_ → ¬ P0_ k_) (hp3_4 : ∀ k_, P3_ k_ → ¬ P4_ k_) (ho4 : Kd.R (Kd.int .i64) 3 w w0.heap.size P4_ u9002_ l4) (hp4_0 : ∀ k_, P4_ k_ → ¬ P0_ k_) (hp4_3 : ∀ k_, P4_ k_ → ¬ P3_ k_) (g : Nat) (hg0 : w.cell? ⟨g, 0, none⟩ = some u9000_) (hg1 : w.cell? ⟨g, 1, none⟩ = some u9001_) (hg2 : w.cell? ⟨g, 2, none⟩ = some u9002_) (hgn : ¬ (P0_ g ∨ P3_ g ∨ P4_ g)) (h : assign_solved_add.f k l0 l1 a2 l3 l4 = some (r1, r2, r3)) :
  Calls Try.prog 31 #[.pointer (some ⟨g, 0, none⟩), .slice A1 l1.length c1, .int .i64 a2] w fun e w' => e = .returned (.tuple #[]) ∧ Kd.R (Kd.int .i64) 3 w' w0.heap.size (fun k_ => ((P0_ k_ ∨ P3_ k_ ∨ P4_ k_) ∨ w.heap.size ≤ k_)) u9000_ r1 ∧ Kd.R (Kd.int .i64) 3 w' w0.heap.size (fun k_ => ((P0_ k_ ∨ P3_ k_ ∨ P4_ k_) ∨ w.heap.size ≤ k_)) u9001_ r2 ∧ Kd.R (Kd.int .i64) 3 w' w0.heap.size (fun k_ => ((P0_ k_ ∨ P3_ k_ ∨ P4_ k_) ∨ w.heap.size ≤ k_)) u9002_ r3 ∧ Below w0.heap.size w0 w' ∧ Kept w w' (fun k_ => P0_ k_ ∨ P3_ k_ ∨ P4_ k_) := by
 have HG0 := Aside0.mk hg0
 have HG1 := Aside0.mk hg1
 have HG2 := Aside0.mk hg2
 have HGN := Aside0.mk hgn
 clear hg0 hg1 hg2 hgn
 have HO0 := Aside0.mk (show Kd.R (Kd.int .i64) 3 w w0.heap.size (fun k_ => ((P0_ k_ ∨ P3_ k_ ∨ P4_ k_) ∨ w.heap.size ≤ k_) ∧ some k_ ≠ (u9001_ : Value).ownBlock ∧ some k_ ≠ (u9002_ : Value).ownBlock) u9000_ l0 from Kd.R_mono ho0 (fun k_ hk => ⟨(.inl (.inl hk)), fun e_ => hp0_3 k_ hk (ho3.1 k_ e_.symm), fun e_ => hp0_4 k_ hk (ho4.1 k_ e_.symm)⟩))
 have HR1 := Aside0.mk hr1
 have HC1 := Aside0.mk hc1
 clear hr1 hc1
 have HO3 := Aside0.mk (show Kd.R (Kd.int .i64) 3 w w0.heap.size (fun k_ => ((P0_ k_ ∨ P3_ k_ ∨ P4_ k_) ∨ w.heap.size ≤ k_) ∧ some k_ ≠ (u9000_ : Value).ownBlock ∧ some k_ ≠ (u9002_ : Value).ownBlock) u9001_ l3 from Kd.R_mono ho3 (fun k_ hk => ⟨(.inl (.inr (.inl hk))), fun e_ => hp3_0 k_ hk (ho0.1 k_ e_.symm), fun e_ => hp3_4 k_ hk (ho4.1 k_ e_.symm)⟩))
 have HO4 := Aside0.mk (show Kd.R (Kd.int .i64) 3 w w0.heap.size (fun k_ => ((P0_ k_ ∨ P3_ k_ ∨ P4_ k_) ∨ w.heap.size ≤ k_) ∧ some k_ ≠ (u9000_ : Value).ownBlock ∧ some k_ ≠ (u9001_ : Value).ownBlock) u9002_ l4 from Kd.R_mono ho4 (fun k_ hk => ⟨(.inl (.inr (.inr hk))), fun e_ => hp4_0 k_ hk (ho0.1 k_ e_.symm), fun e_ => hp4_3 k_ hk (ho3.1 k_ e_.symm)⟩))
 have HK := Aside0.mk (Kept.refl w (fun k_ => P0_ k_ ∨ P3_ k_ ∨ P4_ k_))
 have HW0 := Aside0.mk hB.size
 have HB := Aside0.mk hB
 clear hB
 have H : (if 0 < (l4.length : Int) then (if 0 ≤ (wrap64 ((l1.length : Int) + 1)) then (if (wrap64 ((l1.length : Int) + 1) : Int).toNat ≤ 35184372088832 then ((some (List.replicate (wrap64 ((l1.length : Int) + 1) : Int).toNat 0 : List Int)).bind fun y113 => (if (wrap64 ((l1.length : Int) + 1) : Int).toNat ≤ 281474976710656 then (assign_solved_add.l0 k l0 l1 l3 (l4.set (0 : Int).toNat a2) (l1.length : Int) (List.replicate (wrap64 ((l1.length : Int) + 1) : Int).toNat 0) y113 (List.replicate (wrap64 ((l1.length : Int) + 1) : Int).toNat false) (y113.length : Int) 0) else (none))) else (none)) else (none)) else (none)) = some (r1, r2, r3) := h
 clear h
 by_cases c6 : 0 < (l4.length : Int)
 ·
  rw [if_pos c6] at H
  have c6b0 : decide (0 < (l4.length : Int)) = true := decide_eq_true c6
  have c6b1 : decide (0 < l4.length) = true := decide_eq_true (by omega)
  clear c6
  obtain ⟨y109, hy109⟩ : ∃ y_ : List Int, y_ = (l4.set (0 : Int).toNat a2) := ⟨_, rfl⟩
  replace H : (if 0 ≤ (wrap64 ((l1.length : Int) + 1)) then (if (wrap64 ((l1.length : Int) + 1) : Int).toNat ≤ 35184372088832 then ((some (List.replicate (wrap64 ((l1.length : Int) + 1) : Int).toNat 0 : List Int)).bind fun y113 => (if (wrap64 ((l1.length : Int) + 1) : Int).toNat ≤ 281474976710656 then (assign_solved_add.l0 k l0 l1 l3 y109 (l1.length : Int) (List.replicate (wrap64 ((l1.length : Int) + 1) : Int).toNat 0) y113 (List.replicate (wrap64 ((l1.length : Int) + 1) : Int).toNat false) (y113.length : Int) 0) else (none))) else (none)) else (none)) = some (r1, r2, r3) := by first | (rw [hy109]; with_reducible exact H) | (have H2_ := (Option.bind_some _ _).symm.trans H; rw [hy109]; with_reducible exact H2_) | (have H2_ := (Option.bind_some _ _).symm.trans H; with_reducible exact H2_) | with_reducible exact H | (rw [hy109]; exact H) | exact H
  have Ny109 := Aside0.mk hy109
  clear hy109
  obtain ⟨ji8, hji8⟩ : ∃ j_ : Int, (wrap64 ((l1.length : Int) + 1)) = j_ := ⟨_, rfl⟩
  replace H : (if 0 ≤ (ji8) then (if (ji8 : Int).toNat ≤ 35184372088832 then ((some (List.replicate (ji8 : Int).toNat 0 : List Int)).bind fun y113 => (if (ji8 : Int).toNat ≤ 281474976710656 then (assign_solved_add.l0 k l0 l1 l3 y109 (l1.length : Int) (List.replicate (ji8 : Int).toNat 0) y113 (List.replicate (ji8 : Int).toNat false) (y113.length : Int) 0) else (none))) else (none)) else (none)) = some (r1, r2, r3) := by first | (rw [hji8] at H; exact H) | (simp only [hji8] at H ⊢; exact H)
  have hji8w : (IntKind.i64.wrap ((l1.length : Int) + 1)) = ji8 := (i64_w _).trans hji8
  by_cases c9 : 0 ≤ (ji8)
  ·
   rw [if_pos c9] at H
   have c9b0 := eq_true c9
   have c9b1 : decide (0 ≤ (ji8)) = true := decide_eq_true c9
   clear c9
   by_cases c10 : (ji8 : Int).toNat ≤ 35184372088832
   ·
    rw [if_pos c10] at H
    have c10b0 := eq_true c10
    have c10b1 : decide ((ji8 : Int).toNat ≤ 35184372088832) = true := decide_eq_true c10
    clear c10
    obtain ⟨y110, hy110⟩ : ∃ y_ : List Int, y_ = (List.replicate (ji8 : Int).toNat 0) := ⟨_, rfl⟩
    replace H : ((some (List.replicate (ji8 : Int).toNat 0 : List Int)).bind fun y113 => (if (ji8 : Int).toNat ≤ 281474976710656 then (assign_solved_add.l0 k l0 l1 l3 y109 (l1.length : Int) y110 y113 (List.replicate (ji8 : Int).toNat false) (y113.length : Int) 0) else (none))) = some (r1, r2, r3) := by first | (rw [hy110]; with_reducible exact H) | (have H2_ := (Option.bind_some _ _).symm.trans H; rw [hy110]; with_reducible exact H2_) | (have H2_ := (Option.bind_some _ _).symm.trans H; with_reducible exact H2_) | with_reducible exact H | (rw [hy110]; exact H) | exact H
    have Ny110 := Aside0.mk hy110
    clear hy110
    obtain ⟨y113, hy113⟩ : ∃ y_ : List Int, y_ = (List.replicate (ji8 : Int).toNat 0) := ⟨_, rfl⟩
    replace H : (if (ji8 : Int).toNat ≤ 281474976710656 then (assign_solved_add.l0 k l0 l1 l3 y109 (l1.length : Int) y110 y113 (List.replicate (ji8 : Int).toNat false) (y113.length : Int) 0) else (none)) = some (r1, r2, r3) := by first | (rw [hy113]; with_reducible exact H) | (have H2_ := (Option.bind_some _ _).symm.trans H; rw [hy113]; with_reducible exact H2_) | (have H2_ := (Option.bind_some _ _).symm.trans H; with_reducible exact H2_) | with_reducible exact H | (rw [hy113]; exact H) | exact H
    have Ny113 := Aside0.mk hy113
    clear hy113
    by_cases c11 : (ji8 : Int).toNat ≤ 281474976710656
    ·
     rw [if_pos c11] at H
     have c11b0 := eq_true c11
     have c11b1 : decide ((ji8 : Int).toNat ≤ 281474976710656) = true := decide_eq_true c11
     clear c11
     obtain ⟨y116, hy116⟩ : ∃ y_ : List Bool, y_ = (List.replicate (ji8 : Int).toNat false) := ⟨_, rfl⟩
     replace H : (assign_solved_add.l0 k l0 l1 l3 y109 (l1.length : Int) y110 y113 y116 (y113.length : Int) 0) = some (r1, r2, r3) := by first | (rw [hy116]; with_reducible exact H) | (have H2_ := (Option.bind_some _ _).symm.trans H; rw [hy116]; with_reducible exact H2_) | (have H2_ := (Option.bind_some _ _).symm.trans H; with_reducible exact H2_) | with_reducible exact H | (rw [hy116]; exact H) | exact H
     have Ny116 := Aside0.mk hy116
     clear hy116
     have H' := Aside0.mk H
     clear H
     have p7 : 0 ≤ (0 : Int) := (by omega)
     have q7 : (0 : Int) < ((l4.length : Int) : Int) := of_decide_eq_true (by first | (with_reducible assumption) | assumption)
     have qi7 : (0 < l4.length) = True := eq_true (by omega)
     obtain ⟨go7, co7, eo7, gb7, gl7, cl7, HG7⟩ := Kd.R_form HO4.out (by omega)
     (first | cases eo7 | (injection eo7 with ea_ en_ ec_; (first | subst ea_ | (injection ea_ with ea_; subst ea_)); subst ec_; clear en_))
     have GB7 := Aside0.mk gb7
     have GG7 := Aside0.mk HG7
     clear gb7 gl7 HG7
     have HMgo7 := Aside0.mk (show ((P0_ go7 ∨ P3_ go7 ∨ P4_ go7) ∨ w.heap.size ≤ go7) from (HO4.out.1 _ rfl).1)
     obtain ⟨hx7_0, hf7_0⟩ := Kd.R_celln 0 HO4.out (0 : Int) p7 q7
     (try rw [show ((0 : Int)).toNat = 0 from rfl] at hx7_0)
     (try simp only [Nat.reduceMul, Nat.zero_mul, Nat.zero_add, Nat.reduceAdd] at hx7_0)
     (try rw [show ((0 : Int)).toNat = 0 from rfl] at hf7_0)
     (try simp only [Nat.reduceMul, Nat.zero_mul, Nat.zero_add, Nat.reduceAdd] at hf7_0)
     replace p7 := eq_true p7
     replace q7 := eq_true q7
     have HP12 := Kd.R_putg HO4.out (0 : Int) a2
     go_enter Try.func31, Try.ntmps31
     have hq5_0 := cell_kept HG0.out HK.out HGN.out
     have hq5_1 := cell_kept HG1.out HK.out HGN.out
     have hq5_2 := cell_kept HG2.out HK.out HGN.out
     go_wp2_with (first | ((with_reducible refine gate_store (t := 3) (p := 25) rfl ?_); refine store_event (t := 3) (p := 25) (v := ?vo_w13) (w1 := (w.setCell ⟨go7, (0 : Int).toNat, none⟩ (.int .i64 a2))) ?hg ?ho ?hn ?hr ?_; (case ho => rfl); (case hg => rfl); (case hn => rfl); (case hr => first | (go_simp; done) | (go_simp; rfl)); intro w13 hw; have hg : w.grownBy w13 (some go7) := (by rw [hw]; exact HP12.2); have hp_ : Kd.R (Kd.int .i64) 3 w13 w0.heap.size (fun k_ => ((P0_ k_ ∨ P3_ k_ ∨ P4_ k_) ∨ w.heap.size ≤ k_) ∧ some k_ ≠ (u9000_ : Value).ownBlock ∧ some k_ ≠ (u9001_ : Value).ownBlock) (.slice (some ⟨go7, 0, none⟩) l4.length co7) y109 := (by rw [hw, Ny109.out]; exact HP12.1); clear HP12; have n0_ := Aside0.mk (Kd.R_after (v := (.slice (some ⟨go7, 0, none⟩) l4.length co7)) (v1 := (.slice (some ⟨go7, 0, none⟩) l4.length co7)) (ok := (fun k_ => ((P0_ k_ ∨ P3_ k_ ∨ P4_ k_) ∨ w.heap.size ≤ k_) ∧ some k_ ≠ (u9001_ : Value).ownBlock)) (by (with_reducible repeat (first | apply Kd.R_alloc | apply Kd.R_drewN | apply Kd.R_drew)); exact Kd.R_mono HO0.out (fun _ hk => ⟨⟨hk.1, hk.2.1⟩, hk.2.2⟩)) hg (.inl rfl)); have n1_ := Aside0.mk (Kd.R_after (v := (.slice (some ⟨go7, 0, none⟩) l4.length co7)) (v1 := (.slice (some ⟨go7, 0, none⟩) l4.length co7)) (ok := (fun k_ => ((P0_ k_ ∨ P3_ k_ ∨ P4_ k_) ∨ w.heap.size ≤ k_) ∧ some k_ ≠ (u9000_ : Value).ownBlock)) (by (with_reducible repeat (first | apply Kd.R_alloc | apply Kd.R_drewN | apply Kd.R_drew)); exact Kd.R_mono HO3.out (fun _ hk => ⟨⟨hk.1, hk.2.1⟩, hk.2.2⟩)) hg (.inl rfl)); have n2_ := Aside0.mk (hp_); have n3_ := Aside0.mk ((by rw [hw]; exact below_set (HB.out) GB7.out : Below w0.heap.size w0 w13)); have n4_ := Aside0.mk (Kept.of_grown (S := (fun k_ => P0_ k_ ∨ P3_ k_ ∨ P4_ k_)) hg (by repeat (first | (with_reducible first | exact HK.out | apply Kept.alloc | apply Kept.drewN | apply Kept.drew) | exact HK.out)) (fun k_ e_ => (HO4.out.1 k_ e_).1)); clear HO0; clear HO3; clear HO4; clear HB; clear HK; have HO0 := n0_; have HO3 := n1_; have HO4 := n2_; have HB := n3_; have HK := n4_; have hq1_0 := cell_kept HG0.out HK.out HGN.out; have hq1_1 := cell_kept HG1.out HK.out HGN.out; have hq1_2 := cell_kept HG2.out HK.out HGN.out; clear n0_ n1_ n2_ n3_ n4_; clear hg hw hp_) | ((with_reducible refine gate_dst (N := 28) rfl ?_); refine Kd.R_make (Kd.int .i64) _ 3 rfl (N := 28) rfl 23 _ _ rfl ji8 rfl rfl Try.underlying23 (.int .i64 0) 8 info3 rfl (by decide) (by omega) 0 (ok := fun _ => True) (okp := fun _ => True) rfl (fun _ hk => hk) trivial (of_decide_eq_true (by first | (with_reducible assumption) | assumption)) (Nat.le_trans (Nat.mul_le_mul_right _ (of_decide_eq_true (by first | (with_reducible assumption) | assumption) : ji8.toNat ≤ 35184372088832)) (by omega)) (Below.refl _ _) (Nat.le_refl _) ?_; intro v111 w14 ho15 hb hg_ hnew_; clear hg_ hnew_; (first | rw [← Ny110.out] at ho15 | (simp only [Int.reduceToNat] at ho15; rw [← Ny110.out] at ho15)); have n0_ := Aside0.mk (Kd.R_elder' (by (with_reducible repeat (first | apply Kd.R_alloc | apply Kd.R_drewN | apply Kd.R_drew)); exact HO0.out) (Kd.R_base ho15) hb); have n1_ := Aside0.mk (Kd.R_elder' (by (with_reducible repeat (first | apply Kd.R_alloc | apply Kd.R_drewN | apply Kd.R_drew)); exact HO3.out) (Kd.R_base ho15) hb); have n2_ := Aside0.mk (Kd.R_elder' (by (with_reducible repeat (first | apply Kd.R_alloc | apply Kd.R_drewN | apply Kd.R_drew)); exact HO4.out) (Kd.R_base ho15) hb); have n3_ := Aside0.mk (Kd.R_lower (Kd.R_new' (Kd.R_new' (Kd.R_new' (Kd.R_newM (M := fun k_ => ((P0_ k_ ∨ P3_ k_ ∨ P4_ k_) ∨ w.heap.size ≤ k_)) ho15 (by first | exact HK.out.1 | exact (show Kept w _ (fun k_ => P0_ k_ ∨ P3_ k_ ∨ P4_ k_) from by repeat (first | (with_reducible first | exact HK.out | apply Kept.alloc | apply Kept.drewN | apply Kept.drew) | exact HK.out)).1) (fun k_ h_ => .inr h_)) (Kd.R_lt (by (with_reducible repeat (first | apply Kd.R_alloc | apply Kd.R_drewN | apply Kd.R_drew)); exact HO0.out))) (Kd.R_lt (by (with_reducible repeat (first | apply Kd.R_alloc | apply Kd.R_drewN | apply Kd.R_drew)); exact HO3.out))) (Kd.R_lt (by (with_reducible repeat (first | apply Kd.R_alloc | apply Kd.R_drewN | apply Kd.R_drew)); exact HO4.out))) (below_size (by repeat (first | (with_reducible first | exact HB.out | apply below_alloc | apply pw_below_drewN | apply below_drew1) | exact HB.out)))); have n4_ := Aside0.mk (Kept.below (S := (fun k_ => P0_ k_ ∨ P3_ k_ ∨ P4_ k_)) (by repeat (first | (with_reducible first | exact HK.out | apply Kept.alloc | apply Kept.drewN | apply Kept.drew) | exact HK.out)) hb); have n5_ := Aside0.mk (below_step (by repeat (first | (with_reducible first | exact HB.out | apply below_alloc | apply pw_below_drewN | apply below_drew1) | exact HB.out)) hb); clear HO0; clear HO3; clear HO4; clear HK; clear HB; have HO0 := n0_; have HO3 := n1_; have HO4 := n2_; have HO112 := n3_; have HK := n4_; have hq2_0 := cell_kept HG0.out HK.out HGN.out; have hq2_1 := cell_kept HG1.out HK.out HGN.out; have hq2_2 := cell_kept HG2.out HK.out HGN.out; have HB := n5_; clear n0_ n1_ n2_ n3_ n4_ n5_; clear hb ho15) | ((with_reducible refine gate_dst (N := 31) rfl ?_); refine Kd.R_make (Kd.int .i64) _ 3 rfl (N := 31) rfl 23 _ _ rfl ji8 rfl rfl Try.underlying23 (.int .i64 0) 8 info3 rfl (by decide) (by omega) 0 (ok := fun _ => True) (okp := fun _ => True) rfl (fun _ hk => hk) trivial (of_decide_eq_true (by first | (with_reducible assumption) | assumption)) (Nat.le_trans (Nat.mul_le_mul_right _ (of_decide_eq_true (by first | (with_reducible assumption) | assumption) : ji8.toNat ≤ 35184372088832)) (by omega)) (Below.refl _ _) (Nat.le_refl _) ?_; intro v114 w16 ho17 hb hg_ hnew_; clear hg_ hnew_; (first | rw [← Ny113.out] at ho17 | (simp only [Int.reduceToNat] at ho17; rw [← Ny113.out] at ho17)); have n0_ := Aside0.mk (Kd.R_elder' (by (with_reducible repeat (first | apply Kd.R_alloc | apply Kd.R_drewN | apply Kd.R_drew)); exact HO0.out) (Kd.R_base ho17) hb); have n1_ := Aside0.mk (Kd.R_elder' (by (with_reducible repeat (first | apply Kd.R_alloc | apply Kd.R_drewN | apply Kd.R_drew)); exact HO3.out) (Kd.R_base ho17) hb); have n2_ := Aside0.mk (Kd.R_elder' (by (with_reducible repeat (first | apply Kd.R_alloc | apply Kd.R_drewN | apply Kd.R_drew)); exact HO4.out) (Kd.R_base ho17) hb); have n3_ := Aside0.mk (Kd.R_elder' (by (with_reducible repeat (first | apply Kd.R_alloc | apply Kd.R_drewN | apply Kd.R_drew)); exact HO112.out) (Kd.R_base ho17) hb); have n4_ := Aside0.mk (Kd.R_lower (Kd.R_new' (Kd.R_new' (Kd.R_new' (Kd.R_new' (Kd.R_newM (M := fun k_ => ((P0_ k_ ∨ P3_ k_ ∨ P4_ k_) ∨ w.heap.size ≤ k_)) ho17 (by first | exact HK.out.1 | exact (show Kept w _ (fun k_ => P0_ k_ ∨ P3_ k_ ∨ P4_ k_) from by repeat (first | (with_reducible first | exact HK.out | apply Kept.alloc | apply Kept.drewN | apply Kept.drew) | exact HK.out)).1) (fun k_ h_ => .inr h_)) (Kd.R_lt (by (with_reducible repeat (first | apply Kd.R_alloc | apply Kd.R_drewN | apply Kd.R_drew)); exact HO0.out))) (Kd.R_lt (by (with_reducible repeat (first | apply Kd.R_alloc | apply Kd.R_drewN | apply Kd.R_drew)); exact HO3.out))) (Kd.R_lt (by (with_reducible repeat (first | apply Kd.R_alloc | apply Kd.R_drewN | apply Kd.R_drew)); exact HO4.out))) (Kd.R_lt (by (with_reducible repeat (first | apply Kd.R_alloc | apply Kd.R_drewN | apply Kd.R_drew)); exact HO112.out))) (below_size (by repeat (first | (with_reducible first | exact HB.out | apply below_alloc | apply pw_below_drewN | apply below_drew1) | exact HB.out)))); have n5_ := Aside0.mk (Kept.below (S := (fun k_ => P0_ k_ ∨ P3_ k_ ∨ P4_ k_)) (by repeat (first | (with_reducible first | exact HK.out | apply Kept.alloc | apply Kept.drewN | apply Kept.drew) | exact HK.out)) hb); have n6_ := Aside0.mk (below_step (by repeat (first | (with_reducible first | exact HB.out | apply below_alloc | apply pw_below_drewN | apply below_drew1) | exact HB.out)) hb); clear HO0; clear HO3; clear HO4; clear HO112; clear HK; clear HB; have HO0 := n0_; have HO3 := n1_; have HO4 := n2_; have HO112 := n3_; have HO115 := n4_; have HK := n5_; have hq3_0 := cell_kept HG0.out HK.out HGN.out; have hq3_1 := cell_kept HG1.out HK.out HGN.out; have hq3_2 := cell_kept HG2.out HK.out HGN.out; have HB := n6_; clear n0_ n1_ n2_ n3_ n4_ n5_ n6_; clear hb ho17) | ((with_reducible refine gate_dst (N := 34) rfl ?_); refine Kd.R_make Kd.bool _ 4 rfl (N := 34) rfl 39 _ _ rfl ji8 rfl rfl Try.underlying39 (.bool false) 1 info4 rfl (by decide) (by omega) false (ok := fun _ => True) (okp := fun _ => True) rfl (fun _ hk => hk) trivial (of_decide_eq_true (by first | (with_reducible assumption) | assumption)) (Nat.le_trans (Nat.mul_le_mul_right _ (of_decide_eq_true (by first | (with_reducible assumption) | assumption) : ji8.toNat ≤ 281474976710656)) (by omega)) (Below.refl _ _) (Nat.le_refl _) ?_; intro v117 w18 ho19 hb hg_ hnew_; clear hg_ hnew_; (first | rw [← Ny116.out] at ho19 | (simp only [Int.reduceToNat] at ho19; rw [← Ny116.out] at ho19)); have n0_ := Aside0.mk (Kd.R_below (by (with_reducible repeat (first | apply Kd.R_alloc | apply Kd.R_drewN | apply Kd.R_drew)); exact HO0.out) hb); have n1_ := Aside0.mk (Kd.R_below (by (with_reducible repeat (first | apply Kd.R_alloc | apply Kd.R_drewN | apply Kd.R_drew)); exact HO3.out) hb); have n2_ := Aside0.mk (Kd.R_below (by (with_reducible repeat (first | apply Kd.R_alloc | apply Kd.R_drewN | apply Kd.R_drew)); exact HO4.out) hb); have n3_ := Aside0.mk (Kd.R_below (by (with_reducible repeat (first | apply Kd.R_alloc | apply Kd.R_drewN | apply Kd.R_drew)); exact HO112.out) hb); have n4_ := Aside0.mk (Kd.R_below (by (with_reducible repeat (first | apply Kd.R_alloc | apply Kd.R_drewN | apply Kd.R_drew)); exact HO115.out) hb); have n5_ := Aside0.mk (Kd.R_lower (Kd.R_newM (M := fun k_ => ((P0_ k_ ∨ P3_ k_ ∨ P4_ k_) ∨ w.heap.size ≤ k_)) ho19 (by first | exact HK.out.1 | exact (show Kept w _ (fun k_ => P0_ k_ ∨ P3_ k_ ∨ P4_ k_) from by repeat (first | (with_reducible first | exact HK.out | apply Kept.alloc | apply Kept.drewN | apply Kept.drew) | exact HK.out)).1) (fun k_ h_ => .inr h_)) (below_size (by repeat (first | (with_reducible first | exact HB.out | apply below_alloc | apply pw_below_drewN | apply below_drew1) | exact HB.out)))); have n6_ := Aside0.mk (Kept.below (S := (fun k_ => P0_ k_ ∨ P3_ k_ ∨ P4_ k_)) (by repeat (first | (with_reducible first | exact HK.out | apply Kept.alloc | apply Kept.drewN | apply Kept.drew) | exact HK.out)) hb); have n7_ := Aside0.mk (below_step (by repeat (first | (with_reducible first | exact HB.out | apply below_alloc | apply pw_below_drewN | apply below_drew1) | exact HB.out)) hb); clear HO0; clear HO3; clear HO4; clear HO112; clear HO115; clear HK; clear HB; have HO0 := n0_; have HO3 := n1_; have HO4 := n2_; have HO112 := n3_; have HO115 := n4_; have HO118 := n5_; have HK := n6_; have hq4_0 := cell_kept HG0.out HK.out HGN.out; have hq4_1 := cell_kept HG1.out HK.out HGN.out; have hq4_2 := cell_kept HG2.out HK.out HGN.out; have HB := n7_; clear n0_ n1_ n2_ n3_ n4_ n5_ n6_ n7_; clear hb ho19; obtain ⟨Ao20, co20, eo20⟩ := Kd.R_slice HO115.out; subst eo20))
     try go_step3
     have hq10_0 := cell_kept HG0.out HK.out HGN.out
     have hq10_1 := cell_kept HG1.out HK.out HGN.out
     have hq10_2 := cell_kept HG2.out HK.out HGN.out
     try go_wp2_with (first | ((with_reducible refine gate_store (t := 3) (p := 25) rfl ?_); refine store_event (t := 3) (p := 25) (v := ?vo_w13) (w1 := (w.setCell ⟨go7, (0 : Int).toNat, none⟩ (.int .i64 a2))) ?hg ?ho ?hn ?hr ?_; (case ho => rfl); (case hg => rfl); (case hn => rfl); (case hr => first | (go_simp; done) | (go_simp; rfl)); intro w13 hw; have hg : w.grownBy w13 (some go7) := (by rw [hw]; exact HP12.2); have hp_ : Kd.R (Kd.int .i64) 3 w13 w0.heap.size (fun k_ => ((P0_ k_ ∨ P3_ k_ ∨ P4_ k_) ∨ w.heap.size ≤ k_) ∧ some k_ ≠ (u9000_ : Value).ownBlock ∧ some k_ ≠ (u9001_ : Value).ownBlock) (.slice (some ⟨go7, 0, none⟩) l4.length co7) y109 := (by rw [hw, Ny109.out]; exact HP12.1); clear HP12; have n0_ := Aside0.mk (Kd.R_after (v := (.slice (some ⟨go7, 0, none⟩) l4.length co7)) (v1 := (.slice (some ⟨go7, 0, none⟩) l4.length co7)) (ok := (fun k_ => ((P0_ k_ ∨ P3_ k_ ∨ P4_ k_) ∨ w.heap.size ≤ k_) ∧ some k_ ≠ (u9001_ : Value).ownBlock)) (by (with_reducible repeat (first | apply Kd.R_alloc | apply Kd.R_drewN | apply Kd.R_drew)); exact Kd.R_mono HO0.out (fun _ hk => ⟨⟨hk.1, hk.2.1⟩, hk.2.2⟩)) hg (.inl rfl)); have n1_ := Aside0.mk (Kd.R_after (v := (.slice (some ⟨go7, 0, none⟩) l4.length co7)) (v1 := (.slice (some ⟨go7, 0, none⟩) l4.length co7)) (ok := (fun k_ => ((P0_ k_ ∨ P3_ k_ ∨ P4_ k_) ∨ w.heap.size ≤ k_) ∧ some k_ ≠ (u9000_ : Value).ownBlock)) (by (with_reducible repeat (first | apply Kd.R_alloc | apply Kd.R_drewN | apply Kd.R_drew)); exact Kd.R_mono HO3.out (fun _ hk => ⟨⟨hk.1, hk.2.1⟩, hk.2.2⟩)) hg (.inl rfl)); have n2_ := Aside0.mk (hp_); have n3_ := Aside0.mk ((by rw [hw]; exact below_set (HB.out) GB7.out : Below w0.heap.size w0 w13)); have n4_ := Aside0.mk (Kept.of_grown (S := (fun k_ => P0_ k_ ∨ P3_ k_ ∨ P4_ k_)) hg (by repeat (first | (with_reducible first | exact HK.out | apply Kept.alloc | apply Kept.drewN | apply Kept.drew) | exact HK.out)) (fun k_ e_ => (HO4.out.1 k_ e_).1)); clear HO0; clear HO3; clear HO4; clear HB; clear HK; have HO0 := n0_; have HO3 := n1_; have HO4 := n2_; have HB := n3_; have HK := n4_; have hq6_0 := cell_kept HG0.out HK.out HGN.out; have hq6_1 := cell_kept HG1.out HK.out HGN.out; have hq6_2 := cell_kept HG2.out HK.out HGN.out; clear n0_ n1_ n2_ n3_ n4_; clear hg hw hp_) | ((with_reducible refine gate_dst (N := 28) rfl ?_); refine Kd.R_make (Kd.int .i64) _ 3 rfl (N := 28) rfl 23 _ _ rfl ji8 rfl rfl Try.underlying23 (.int .i64 0) 8 info3 rfl (by decide) (by omega) 0 (ok := fun _ => True) (okp := fun _ => True) rfl (fun _ hk => hk) trivial (of_decide_eq_true (by first | (with_reducible assumption) | assumption)) (Nat.le_trans (Nat.mul_le_mul_right _ (of_decide_eq_true (by first | (with_reducible assumption) | assumption) : ji8.toNat ≤ 35184372088832)) (by omega)) (Below.refl _ _) (Nat.le_refl _) ?_; intro v111 w14 ho15 hb hg_ hnew_; clear hg_ hnew_; (first | rw [← Ny110.out] at ho15 | (simp only [Int.reduceToNat] at ho15; rw [← Ny110.out] at ho15)); have n0_ := Aside0.mk (Kd.R_elder' (by (with_reducible repeat (first | apply Kd.R_alloc | apply Kd.R_drewN | apply Kd.R_drew)); exact HO0.out) (Kd.R_base ho15) hb); have n1_ := Aside0.mk (Kd.R_elder' (by (with_reducible repeat (first | apply Kd.R_alloc | apply Kd.R_drewN | apply Kd.R_drew)); exact HO3.out) (Kd.R_base ho15) hb); have n2_ := Aside0.mk (Kd.R_elder' (by (with_reducible repeat (first | apply Kd.R_alloc | apply Kd.R_drewN | apply Kd.R_drew)); exact HO4.out) (Kd.R_base ho15) hb); have n3_ := Aside0.mk (Kd.R_lower (Kd.R_new' (Kd.R_new' (Kd.R_new' (Kd.R_newM (M := fun k_ => ((P0_ k_ ∨ P3_ k_ ∨ P4_ k_) ∨ w.heap.size ≤ k_)) ho15 (by first | exact HK.out.1 | exact (show Kept w _ (fun k_ => P0_ k_ ∨ P3_ k_ ∨ P4_ k_) from by repeat (first | (with_reducible first | exact HK.out | apply Kept.alloc | apply Kept.drewN | apply Kept.drew) | exact HK.out)).1) (fun k_ h_ => .inr h_)) (Kd.R_lt (by (with_reducible repeat (first | apply Kd.R_alloc | apply Kd.R_drewN | apply Kd.R_drew)); exact HO0.out))) (Kd.R_lt (by (with_reducible repeat (first | apply Kd.R_alloc | apply Kd.R_drewN | apply Kd.R_drew)); exact HO3.out))) (Kd.R_lt (by (with_reducible repeat (first | apply Kd.R_alloc | apply Kd.R_drewN | apply Kd.R_drew)); exact HO4.out))) (below_size (by repeat (first | (with_reducible first | exact HB.out | apply below_alloc | apply pw_below_drewN | apply below_drew1) | exact HB.out)))); have n4_ := Aside0.mk (Kept.below (S := (fun k_ => P0_ k_ ∨ P3_ k_ ∨ P4_ k_)) (by repeat (first | (with_reducible first | exact HK.out | apply Kept.alloc | apply Kept.drewN | apply Kept.drew) | exact HK.out)) hb); have n5_ := Aside0.mk (below_step (by repeat (first | (with_reducible first | exact HB.out | apply below_alloc | apply pw_below_drewN | apply below_drew1) | exact HB.out)) hb); clear HO0; clear HO3; clear HO4; clear HK; clear HB; have HO0 := n0_; have HO3 := n1_; have HO4 := n2_; have HO112 := n3_; have HK := n4_; have hq7_0 := cell_kept HG0.out HK.out HGN.out; have hq7_1 := cell_kept HG1.out HK.out HGN.out; have hq7_2 := cell_kept HG2.out HK.out HGN.out; have HB := n5_; clear n0_ n1_ n2_ n3_ n4_ n5_; clear hb ho15) | ((with_reducible refine gate_dst (N := 31) rfl ?_); refine Kd.R_make (Kd.int .i64) _ 3 rfl (N := 31) rfl 23 _ _ rfl ji8 rfl rfl Try.underlying23 (.int .i64 0) 8 info3 rfl (by decide) (by omega) 0 (ok := fun _ => True) (okp := fun _ => True) rfl (fun _ hk => hk) trivial (of_decide_eq_true (by first | (with_reducible assumption) | assumption)) (Nat.le_trans (Nat.mul_le_mul_right _ (of_decide_eq_true (by first | (with_reducible assumption) | assumption) : ji8.toNat ≤ 35184372088832)) (by omega)) (Below.refl _ _) (Nat.le_refl _) ?_; intro v114 w16 ho17 hb hg_ hnew_; clear hg_ hnew_; (first | rw [← Ny113.out] at ho17 | (simp only [Int.reduceToNat] at ho17; rw [← Ny113.out] at ho17)); have n0_ := Aside0.mk (Kd.R_elder' (by (with_reducible repeat (first | apply Kd.R_alloc | apply Kd.R_drewN | apply Kd.R_drew)); exact HO0.out) (Kd.R_base ho17) hb); have n1_ := Aside0.mk (Kd.R_elder' (by (with_reducible repeat (first | apply Kd.R_alloc | apply Kd.R_drewN | apply Kd.R_drew)); exact HO3.out) (Kd.R_base ho17) hb); have n2_ := Aside0.mk (Kd.R_elder' (by (with_reducible repeat (first | apply Kd.R_alloc | apply Kd.R_drewN | apply Kd.R_drew)); exact HO4.out) (Kd.R_base ho17) hb); have n3_ := Aside0.mk (Kd.R_elder' (by (with_reducible repeat (first | apply Kd.R_alloc | apply Kd.R_drewN | apply Kd.R_drew)); exact HO112.out) (Kd.R_base ho17) hb); have n4_ := Aside0.mk (Kd.R_lower (Kd.R_new' (Kd.R_new' (Kd.R_new' (Kd.R_new' (Kd.R_newM (M := fun k_ => ((P0_ k_ ∨ P3_ k_ ∨ P4_ k_) ∨ w.heap.size ≤ k_)) ho17 (by first | exact HK.out.1 | exact (show Kept w _ (fun k_ => P0_ k_ ∨ P3_ k_ ∨ P4_ k_) from by repeat (first | (with_reducible first | exact HK.out | apply Kept.alloc | apply Kept.drewN | apply Kept.drew) | exact HK.out)).1) (fun k_ h_ => .inr h_)) (Kd.R_lt (by (with_reducible repeat (first | apply Kd.R_alloc | apply Kd.R_drewN | apply Kd.R_drew)); exact HO0.out))) (Kd.R_lt (by (with_reducible repeat (first | apply Kd.R_alloc | apply Kd.R_drewN | apply Kd.R_drew)); exact HO3.out))) (Kd.R_lt (by (with_reducible repeat (first | apply Kd.R_alloc | apply Kd.R_drewN | apply Kd.R_drew)); exact HO4.out))) (Kd.R_lt (by (with_reducible repeat (first | apply Kd.R_alloc | apply Kd.R_drewN | apply Kd.R_drew)); exact HO112.out))) (below_size (by repeat (first | (with_reducible first | exact HB.out | apply below_alloc | apply pw_below_drewN | apply below_drew1) | exact HB.out)))); have n5_ := Aside0.mk (Kept.below (S := (fun k_ => P0_ k_ ∨ P3_ k_ ∨ P4_ k_)) (by repeat (first | (with_reducible first | exact HK.out | apply Kept.alloc | apply Kept.drewN | apply Kept.drew) | exact HK.out)) hb); have n6_ := Aside0.mk (below_step (by repeat (first | (with_reducible first | exact HB.out | apply below_alloc | apply pw_below_drewN | apply below_drew1) | exact HB.out)) hb); clear HO0; clear HO3; clear HO4; clear HO112; clear HK; clear HB; have HO0 := n0_; have HO3 := n1_; have HO4 := n2_; have HO112 := n3_; have HO115 := n4_; have HK := n5_; have hq8_0 := cell_kept HG0.out HK.out HGN.out; have hq8_1 := cell_kept HG1.out HK.out HGN.out; have hq8_2 := cell_kept HG2.out HK.out HGN.out; have HB := n6_; clear n0_ n1_ n2_ n3_ n4_ n5_ n6_; clear hb ho17) | ((with_reducible refine gate_dst (N := 34) rfl ?_); refine Kd.R_make Kd.bool _ 4 rfl (N := 34) rfl 39 _ _ rfl ji8 rfl rfl Try.underlying39 (.bool false) 1 info4 rfl (by decide) (by omega) false (ok := fun _ => True) (okp := fun _ => True) rfl (fun _ hk => hk) trivial (of_decide_eq_true (by first | (with_reducible assumption) | assumption)) (Nat.le_trans (Nat.mul_le_mul_right _ (of_decide_eq_true (by first | (with_reducible assumption) | assumption) : ji8.toNat ≤ 281474976710656)) (by omega)) (Below.refl _ _) (Nat.le_refl _) ?_; intro v117 w18 ho19 hb hg_ hnew_; clear hg_ hnew_; (first | rw [← Ny116.out] at ho19 | (simp only [Int.reduceToNat] at ho19; rw [← Ny116.out] at ho19)); have n0_ := Aside0.mk (Kd.R_below (by (with_reducible repeat (first | apply Kd.R_alloc | apply Kd.R_drewN | apply Kd.R_drew)); exact HO0.out) hb); have n1_ := Aside0.mk (Kd.R_below (by (with_reducible repeat (first | apply Kd.R_alloc | apply Kd.R_drewN | apply Kd.R_drew)); exact HO3.out) hb); have n2_ := Aside0.mk (Kd.R_below (by (with_reducible repeat (first | apply Kd.R_alloc | apply Kd.R_drewN | apply Kd.R_drew)); exact HO4.out) hb); have n3_ := Aside0.mk (Kd.R_below (by (with_reducible repeat (first | apply Kd.R_alloc | apply Kd.R_drewN | apply Kd.R_drew)); exact HO112.out) hb); have n4_ := Aside0.mk (Kd.R_below (by (with_reducible repeat (first | apply Kd.R_alloc | apply Kd.R_drewN | apply Kd.R_drew)); exact HO115.out) hb); have n5_ := Aside0.mk (Kd.R_lower (Kd.R_newM (M := fun k_ => ((P0_ k_ ∨ P3_ k_ ∨ P4_ k_) ∨ w.heap.size ≤ k_)) ho19 (by first | exact HK.out.1 | exact (show Kept w _ (fun k_ => P0_ k_ ∨ P3_ k_ ∨ P4_ k_) from by repeat (first | (with_reducible first | exact HK.out | apply Kept.alloc | apply Kept.drewN | apply Kept.drew) | exact HK.out)).1) (fun k_ h_ => .inr h_)) (below_size (by repeat (first | (with_reducible first | exact HB.out | apply below_alloc | apply pw_below_drewN | apply below_drew1) | exact HB.out)))); have n6_ := Aside0.mk (Kept.below (S := (fun k_ => P0_ k_ ∨ P3_ k_ ∨ P4_ k_)) (by repeat (first | (with_reducible first | exact HK.out | apply Kept.alloc | apply Kept.drewN | apply Kept.drew) | exact HK.out)) hb); have n7_ := Aside0.mk (below_step (by repeat (first | (with_reducible first | exact HB.out | apply below_alloc | apply pw_below_drewN | apply below_drew1) | exact HB.out)) hb); clear HO0; clear HO3; clear HO4; clear HO112; clear HO115; clear HK; clear HB; have HO0 := n0_; have HO3 := n1_; have HO4 := n2_; have HO112 := n3_; have HO115 := n4_; have HO118 := n5_; have HK := n6_; have hq9_0 := cell_kept HG0.out HK.out HGN.out; have hq9_1 := cell_kept HG1.out HK.out HGN.out; have hq9_2 := cell_kept HG2.out HK.out HGN.out; have HB := n7_; clear n0_ n1_ n2_ n3_ n4_ n5_ n6_ n7_; clear hb ho19; obtain ⟨Ao20, co20, eo20⟩ := Kd.R_slice HO115.out; subst eo20))
     try go_step3
     have hq15_0 := cell_kept HG0.out HK.out HGN.out
     have hq15_1 := cell_kept HG1.out HK.out HGN.out
     have hq15_2 := cell_kept HG2.out HK.out HGN.out
     try go_wp2_with (first | ((with_reducible refine gate_store (t := 3) (p := 25) rfl ?_); refine store_event (t := 3) (p := 25) (v := ?vo_w13) (w1 := (w.setCell ⟨go7, (0 : Int).toNat, none⟩ (.int .i64 a2))) ?hg ?ho ?hn ?hr ?_; (case ho => rfl); (case hg => rfl); (case hn => rfl); (case hr => first | (go_simp; done) | (go_simp; rfl)); intro w13 hw; have hg : w.grownBy w13 (some go7) := (by rw [hw]; exact HP12.2); have hp_ : Kd.R (Kd.int .i64) 3 w13 w0.heap.size (fun k_ => ((P0_ k_ ∨ P3_ k_ ∨ P4_ k_) ∨ w.heap.size ≤ k_) ∧ some k_ ≠ (u9000_ : Value).ownBlock ∧ some k_ ≠ (u9001_ : Value).ownBlock) (.slice (some ⟨go7, 0, none⟩) l4.length co7) y109 := (by rw [hw, Ny109.out]; exact HP12.1); clear HP12; have n0_ := Aside0.mk (Kd.R_after (v := (.slice (some ⟨go7, 0, none⟩) l4.length co7)) (v1 := (.slice (some ⟨go7, 0, none⟩) l4.length co7)) (ok := (fun k_ => ((P0_ k_ ∨ P3_ k_ ∨ P4_ k_) ∨ w.heap.size ≤ k_) ∧ some k_ ≠ (u9001_ : Value).ownBlock)) (by (with_reducible repeat (first | apply Kd.R_alloc | apply Kd.R_drewN | apply Kd.R_drew)); exact Kd.R_mono HO0.out (fun _ hk => ⟨⟨hk.1, hk.2.1⟩, hk.2.2⟩)) hg (.inl rfl)); have n1_ := Aside0.mk (Kd.R_after (v := (.slice (some ⟨go7, 0, none⟩) l4.length co7)) (v1 := (.slice (some ⟨go7, 0, none⟩) l4.length co7)) (ok := (fun k_ => ((P0_ k_ ∨ P3_ k_ ∨ P4_ k_) ∨ w.heap.size ≤ k_) ∧ some k_ ≠ (u9000_ : Value).ownBlock)) (by (with_reducible repeat (first | apply Kd.R_alloc | apply Kd.R_drewN | apply Kd.R_drew)); exact Kd.R_mono HO3.out (fun _ hk => ⟨⟨hk.1, hk.2.1⟩, hk.2.2⟩)) hg (.inl rfl)); have n2_ := Aside0.mk (hp_); have n3_ := Aside0.mk ((by rw [hw]; exact below_set (HB.out) GB7.out : Below w0.heap.size w0 w13)); have n4_ := Aside0.mk (Kept.of_grown (S := (fun k_ => P0_ k_ ∨ P3_ k_ ∨ P4_ k_)) hg (by repeat (first | (with_reducible first | exact HK.out | apply Kept.alloc | apply Kept.drewN | apply Kept.drew) | exact HK.out)) (fun k_ e_ => (HO4.out.1 k_ e_).1)); clear HO0; clear HO3; clear HO4; clear HB; clear HK; have HO0 := n0_; have HO3 := n1_; have HO4 := n2_; have HB := n3_; have HK := n4_; have hq11_0 := cell_kept HG0.out HK.out HGN.out; have hq11_1 := cell_kept HG1.out HK.out HGN.out; have hq11_2 := cell_kept HG2.out HK.out HGN.out; clear n0_ n1_ n2_ n3_ n4_; clear hg hw hp_) | ((with_reducible refine gate_dst (N := 28) rfl ?_); refine Kd.R_make (Kd.int .i64) _ 3 rfl (N := 28) rfl 23 _ _ rfl ji8 rfl rfl Try.underlying23 (.int .i64 0) 8 info3 rfl (by decide) (by omega) 0 (ok := fun _ => True) (okp := fun _ => True) rfl (fun _ hk => hk) trivial (of_decide_eq_true (by first | (with_reducible assumption) | assumption)) (Nat.le_trans (Nat.mul_le_mul_right _ (of_decide_eq_true (by first | (with_reducible assumption) | assumption) : ji8.toNat ≤ 35184372088832)) (by omega)) (Below.refl _ _) (Nat.le_refl _) ?_; intro v111 w14 ho15 hb hg_ hnew_; clear hg_ hnew_; (first | rw [← Ny110.out] at ho15 | (simp only [Int.reduceToNat] at ho15; rw [← Ny110.out] at ho15)); have n0_ := Aside0.mk (Kd.R_elder' (by (with_reducible repeat (first | apply Kd.R_alloc | apply Kd.R_drewN | apply Kd.R_drew)); exact HO0.out) (Kd.R_base ho15) hb); have n1_ := Aside0.mk (Kd.R_elder' (by (with_reducible repeat (first | apply Kd.R_alloc | apply Kd.R_drewN | apply Kd.R_drew)); exact HO3.out) (Kd.R_base ho15) hb); have n2_ := Aside0.mk (Kd.R_elder' (by (with_reducible repeat (first | apply Kd.R_alloc | apply Kd.R_drewN | apply Kd.R_drew)); exact HO4.out) (Kd.R_base ho15) hb); have n3_ := Aside0.mk (Kd.R_lower (Kd.R_new' (Kd.R_new' (Kd.R_new' (Kd.R_newM (M := fun k_ => ((P0_ k_ ∨ P3_ k_ ∨ P4_ k_) ∨ w.heap.size ≤ k_)) ho15 (by first | exact HK.out.1 | exact (show Kept w _ (fun k_ => P0_ k_ ∨ P3_ k_ ∨ P4_ k_) from by repeat (first | (with_reducible first | exact HK.out | apply Kept.alloc | apply Kept.drewN | apply Kept.drew) | exact HK.out)).1) (fun k_ h_ => .inr h_)) (Kd.R_lt (by (with_reducible repeat (first | apply Kd.R_alloc | apply Kd.R_drewN | apply Kd.R_drew)); exact HO0.out))) (Kd.R_lt (by (with_reducible repeat (first | apply Kd.R_alloc | apply Kd.R_drewN | apply Kd.R_drew)); exact HO3.out))) (Kd.R_lt (by (with_reducible repeat (first | apply Kd.R_alloc | apply Kd.R_drewN | apply Kd.R_drew)); exact HO4.out))) (below_size (by repeat (first | (with_reducible first | exact HB.out | apply below_alloc | apply pw_below_drewN | apply below_drew1) | exact HB.out)))); have n4_ := Aside0.mk (Kept.below (S := (fun k_ => P0_ k_ ∨ P3_ k_ ∨ P4_ k_)) (by repeat (first | (with_reducible first | exact HK.out | apply Kept.alloc | apply Kept.drewN | apply Kept.drew) | exact HK.out)) hb); have n5_ := Aside0.mk (below_step (by repeat (first | (with_reducible first | exact HB.out | apply below_alloc | apply pw_below_drewN | apply below_drew1) | exact HB.out)) hb); clear HO0; clear HO3; clear HO4; clear HK; clear HB; have HO0 := n0_; have HO3 := n1_; have HO4 := n2_; have HO112 := n3_; have HK := n4_; have hq12_0 := cell_kept HG0.out HK.out HGN.out; have hq12_1 := cell_kept HG1.out HK.out HGN.out; have hq12_2 := cell_kept HG2.out HK.out HGN.out; have HB := n5_; clear n0_ n1_ n2_ n3_ n4_ n5_; clear hb ho15) | ((with_reducible refine gate_dst (N := 31) rfl ?_); refine Kd.R_make (Kd.int .i64) _ 3 rfl (N := 31) rfl 23 _ _ rfl ji8 rfl rfl Try.underlying23 (.int .i64 0) 8 info3 rfl (by decide) (by omega) 0 (ok := fun _ => True) (okp := fun _ => True) rfl (fun _ hk => hk) trivial (of_decide_eq_true (by first | (with_reducible assumption) | assumption)) (Nat.le_trans (Nat.mul_le_mul_right _ (of_decide_eq_true (by first | (with_reducible assumption) | assumption) : ji8.toNat ≤ 35184372088832)) (by omega)) (Below.refl _ _) (Nat.le_refl _) ?_; intro v114 w16 ho17 hb hg_ hnew_; clear hg_ hnew_; (first | rw [← Ny113.out] at ho17 | (simp only [Int.reduceToNat] at ho17; rw [← Ny113.out] at ho17)); have n0_ := Aside0.mk (Kd.R_elder' (by (with_reducible repeat (first | apply Kd.R_alloc | apply Kd.R_drewN | apply Kd.R_drew)); exact HO0.out) (Kd.R_base ho17) hb); have n1_ := Aside0.mk (Kd.R_elder' (by (with_reducible repeat (first | apply Kd.R_alloc | apply Kd.R_drewN | apply Kd.R_drew)); exact HO3.out) (Kd.R_base ho17) hb); have n2_ := Aside0.mk (Kd.R_elder' (by (with_reducible repeat (first | apply Kd.R_alloc | apply Kd.R_drewN | apply Kd.R_drew)); exact HO4.out) (Kd.R_base ho17) hb); have n3_ := Aside0.mk (Kd.R_elder' (by (with_reducible repeat (first | apply Kd.R_alloc | apply Kd.R_drewN | apply Kd.R_drew)); exact HO112.out) (Kd.R_base ho17) hb); have n4_ := Aside0.mk (Kd.R_lower (Kd.R_new' (Kd.R_new' (Kd.R_new' (Kd.R_new' (Kd.R_newM (M := fun k_ => ((P0_ k_ ∨ P3_ k_ ∨ P4_ k_) ∨ w.heap.size ≤ k_)) ho17 (by first | exact HK.out.1 | exact (show Kept w _ (fun k_ => P0_ k_ ∨ P3_ k_ ∨ P4_ k_) from by repeat (first | (with_reducible first | exact HK.out | apply Kept.alloc | apply Kept.drewN | apply Kept.drew) | exact HK.out)).1) (fun k_ h_ => .inr h_)) (Kd.R_lt (by (with_reducible repeat (first | apply Kd.R_alloc | apply Kd.R_drewN | apply Kd.R_drew)); exact HO0.out))) (Kd.R_lt (by (with_reducible repeat (first | apply Kd.R_alloc | apply Kd.R_drewN | apply Kd.R_drew)); exact HO3.out))) (Kd.R_lt (by (with_reducible repeat (first | apply Kd.R_alloc | apply Kd.R_drewN | apply Kd.R_drew)); exact HO4.out))) (Kd.R_lt (by (with_reducible repeat (first | apply Kd.R_alloc | apply Kd.R_drewN | apply Kd.R_drew)); exact HO112.out))) (below_size (by repeat (first | (with_reducible first | exact HB.out | apply below_alloc | apply pw_below_drewN | apply below_drew1) | exact HB.out)))); have n5_ := Aside0.mk (Kept.below (S := (fun k_ => P0_ k_ ∨ P3_ k_ ∨ P4_ k_)) (by repeat (first | (with_reducible first | exact HK.out | apply Kept.alloc | apply Kept.drewN | apply Kept.drew) | exact HK.out)) hb); have n6_ := Aside0.mk (below_step (by repeat (first | (with_reducible first | exact HB.out | apply below_alloc | apply pw_below_drewN | apply below_drew1) | exact HB.out)) hb); clear HO0; clear HO3; clear HO4; clear HO112; clear HK; clear HB; have HO0 := n0_; have HO3 := n1_; have HO4 := n2_; have HO112 := n3_; have HO115 := n4_; have HK := n5_; have hq13_0 := cell_kept HG0.out HK.out HGN.out; have hq13_1 := cell_kept HG1.out HK.out HGN.out; have hq13_2 := cell_kept HG2.out HK.out HGN.out; have HB := n6_; clear n0_ n1_ n2_ n3_ n4_ n5_ n6_; clear hb ho17) | ((with_reducible refine gate_dst (N := 34) rfl ?_); refine Kd.R_make Kd.bool _ 4 rfl (N := 34) rfl 39 _ _ rfl ji8 rfl rfl Try.underlying39 (.bool false) 1 info4 rfl (by decide) (by omega) false (ok := fun _ => True) (okp := fun _ => True) rfl (fun _ hk => hk) trivial (of_decide_eq_true (by first | (with_reducible assumption) | assumption)) (Nat.le_trans (Nat.mul_le_mul_right _ (of_decide_eq_true (by first | (with_reducible assumption) | assumption) : ji8.toNat ≤ 281474976710656)) (by omega)) (Below.refl _ _) (Nat.le_refl _) ?_; intro v117 w18 ho19 hb hg_ hnew_; clear hg_ hnew_; (first | rw [← Ny116.out] at ho19 | (simp only [Int.reduceToNat] at ho19; rw [← Ny116.out] at ho19)); have n0_ := Aside0.mk (Kd.R_below (by (with_reducible repeat (first | apply Kd.R_alloc | apply Kd.R_drewN | apply Kd.R_drew)); exact HO0.out) hb); have n1_ := Aside0.mk (Kd.R_below (by (with_reducible repeat (first | apply Kd.R_alloc | apply Kd.R_drewN | apply Kd.R_drew)); exact HO3.out) hb); have n2_ := Aside0.mk (Kd.R_below (by (with_reducible repeat (first | apply Kd.R_alloc | apply Kd.R_drewN | apply Kd.R_drew)); exact HO4.out) hb); have n3_ := Aside0.mk (Kd.R_below (by (with_reducible repeat (first | apply Kd.R_alloc | apply Kd.R_drewN | apply Kd.R_drew)); exact HO112.out) hb); have n4_ := Aside0.mk (Kd.R_below (by (with_reducible repeat (first | apply Kd.R_alloc | apply Kd.R_drewN | apply Kd.R_drew)); exact HO115.out) hb); have n5_ := Aside0.mk (Kd.R_lower (Kd.R_newM (M := fun k_ => ((P0_ k_ ∨ P3_ k_ ∨ P4_ k_) ∨ w.heap.size ≤ k_)) ho19 (by first | exact HK.out.1 | exact (show Kept w _ (fun k_ => P0_ k_ ∨ P3_ k_ ∨ P4_ k_) from by repeat (first | (with_reducible first | exact HK.out | apply Kept.alloc | apply Kept.drewN | apply Kept.drew) | exact HK.out)).1) (fun k_ h_ => .inr h_)) (below_size (by repeat (first | (with_reducible first | exact HB.out | apply below_alloc | apply pw_below_drewN | apply below_drew1) | exact HB.out)))); have n6_ := Aside0.mk (Kept.below (S := (fun k_ => P0_ k_ ∨ P3_ k_ ∨ P4_ k_)) (by repeat (first | (with_reducible first | exact HK.out | apply Kept.alloc | apply Kept.drewN | apply Kept.drew) | exact HK.out)) hb); have n7_ := Aside0.mk (below_step (by repeat (first | (with_reducible first | exact HB.out | apply below_alloc | apply pw_below_drewN | apply below_drew1) | exact HB.out)) hb); clear HO0; clear HO3; clear HO4; clear HO112; clear HO115; clear HK; clear HB; have HO0 := n0_; have HO3 := n1_; have HO4 := n2_; have HO112 := n3_; have HO115 := n4_; have HO118 := n5_; have HK := n6_; have hq14_0 := cell_kept HG0.out HK.out HGN.out; have hq14_1 := cell_kept HG1.out HK.out HGN.out; have hq14_2 := cell_kept HG2.out HK.out HGN.out; have HB := n7_; clear n0_ n1_ n2_ n3_ n4_ n5_ n6_ n7_; clear hb ho19; obtain ⟨Ao20, co20, eo20⟩ := Kd.R_slice HO115.out; subst eo20))
     try go_step3
     go_loopg [37] k (fun kq v37 w' => ∃ (x8_1 : List Int) (x37_1 : Int), v37 = .int .i64 x37_1 ∧ Aside0 (assign_solved_add.l0 kq l0 l1 l3 y109 (l1.length : Int) y110 x8_1 y116 (y113.length : Int) x37_1 = some (r1, r2, r3)) ∧ Aside0 (kq ≤ k) ∧ Aside0 (Kd.R (Kd.int .i64) 3 w' w0.heap.size (fun k_ => ((P0_ k_ ∨ P3_ k_ ∨ P4_ k_) ∨ w.heap.size ≤ k_) ∧ some k_ ≠ (u9001_ : Value).ownBlock ∧ some k_ ≠ ((.slice (some ⟨go7, 0, none⟩) l4.length co7) : Value).ownBlock ∧ some k_ ≠ (v111 : Value).ownBlock ∧ some k_ ≠ ((.slice Ao20 y113.length co20) : Value).ownBlock) u9000_ l0) ∧ Aside0 (Kd.R (Kd.int .i64) 3 w' w0.heap.size (fun k_ => ((P0_ k_ ∨ P3_ k_ ∨ P4_ k_) ∨ w.heap.size ≤ k_) ∧ some k_ ≠ (u9000_ : Value).ownBlock ∧ some k_ ≠ ((.slice (some ⟨go7, 0, none⟩) l4.length co7) : Value).ownBlock ∧ some k_ ≠ (v111 : Value).ownBlock ∧ some k_ ≠ ((.slice Ao20 y113.length co20) : Value).ownBlock) u9001_ l3) ∧ Aside0 (Kd.R (Kd.int .i64) 3 w' w0.heap.size (fun k_ => ((P0_ k_ ∨ P3_ k_ ∨ P4_ k_) ∨ w.heap.size ≤ k_) ∧ some k_ ≠ (u9000_ : Value).ownBlock ∧ some k_ ≠ (u9001_ : Value).ownBlock ∧ some k_ ≠ (v111 : Value).ownBlock ∧ some k_ ≠ ((.slice Ao20 y113.length co20) : Value).ownBlock) (.slice (some ⟨go7, 0, none⟩) l4.length co7) y109) ∧ Aside0 (Kd.R (Kd.int .i64) 3 w' w0.heap.size (fun k_ => ((P0_ k_ ∨ P3_ k_ ∨ P4_ k_) ∨ w.heap.size ≤ k_) ∧ some k_ ≠ (u9000_ : Value).ownBlock ∧ some k_ ≠ (u9001_ : Value).ownBlock ∧ some k_ ≠ ((.slice (some ⟨go7, 0, none⟩) l4.length co7) : Value).ownBlock ∧ some k_ ≠ ((.slice Ao20 y113.length co20) : Value).ownBlock) v111 y110) ∧ Aside0 (Kd.R (Kd.int .i64) 3 w' w0.heap.size (fun k_ => ((P0_ k_ ∨ P3_ k_ ∨ P4_ k_) ∨ w.heap.size ≤ k_) ∧ some k_ ≠ (u9000_ : Value).ownBlock ∧ some k_ ≠ (u9001_ : Value).ownBlock ∧ some k_ ≠ ((.slice (some ⟨go7, 0, none⟩) l4.length co7) : Value).ownBlock ∧ some k_ ≠ (v111 : Value).ownBlock) (.slice Ao20 y113.length co20) x8_1) ∧ Aside0 (Kd.R Kd.bool 4 w' w0.heap.size (fun k_ => ((P0_ k_ ∨ P3_ k_ ∨ P4_ k_) ∨ w.heap.size ≤ k_)) v117 y116) ∧ Aside0 (Kept w w' (fun k_ => P0_ k_ ∨ P3_ k_ ∨ P4_ k_)) ∧ Aside0 (Below w0.heap.size w0 w'))
     case atStart => exact ⟨(y113), (0), (by first | rfl | (simp; done) | (simp [*]; done)), H', ⟨Nat.le_refl _⟩, ⟨by (with_reducible repeat (first | apply Kd.R_alloc | apply Kd.R_drewN | apply Kd.R_drew)); exact Kd.R_mono HO0.out (fun _ hk => ⟨hk.1.1.1.1, ⟨hk.1.1.1.2, ⟨hk.1.1.2, ⟨hk.1.2, hk.2⟩⟩⟩⟩)⟩, ⟨by (with_reducible repeat (first | apply Kd.R_alloc | apply Kd.R_drewN | apply Kd.R_drew)); exact Kd.R_mono HO3.out (fun _ hk => ⟨hk.1.1.1.1, ⟨hk.1.1.1.2, ⟨hk.1.1.2, ⟨hk.1.2, hk.2⟩⟩⟩⟩)⟩, ⟨by (with_reducible repeat (first | apply Kd.R_alloc | apply Kd.R_drewN | apply Kd.R_drew)); exact Kd.R_mono HO4.out (fun _ hk => ⟨hk.1.1.1, ⟨hk.1.1.2.1, ⟨hk.1.1.2.2, ⟨hk.1.2, hk.2⟩⟩⟩⟩)⟩, ⟨by (with_reducible repeat (first | apply Kd.R_alloc | apply Kd.R_drewN | apply Kd.R_drew)); exact Kd.R_mono HO112.out (fun _ hk => ⟨hk.1.1.1.1.1, ⟨hk.1.1.1.2, ⟨hk.1.1.2, ⟨hk.1.2, hk.2⟩⟩⟩⟩)⟩, ⟨by (with_reducible repeat (first | apply Kd.R_alloc | apply Kd.R_drewN | apply Kd.R_drew)); exact Kd.R_mono HO115.out (fun _ hk => ⟨hk.1.1.1.1.1, ⟨hk.1.1.1.2, ⟨hk.1.1.2, ⟨hk.1.2, hk.2⟩⟩⟩⟩)⟩, ⟨by (with_reducible repeat (first | apply Kd.R_alloc | apply Kd.R_drewN | apply Kd.R_drew)); exact Kd.R_mono HO118.out (fun _ hk => hk.1)⟩, ⟨by repeat (first | (with_reducible first | exact HK.out | apply Kept.alloc | apply Kept.drewN | apply Kept.drew) | exact HK.out)⟩, ⟨by repeat (first | (with_reducible first | exact HB.out | apply below_alloc | apply pw_below_drewN | apply below_drew1) | exact HB.out)⟩⟩
     case round =>
      clear H'
      try clear c1
      try clear p2
      try clear c3
      try clear p3
      try clear p4
      try clear c6
      try clear c6b0
      try clear c6b1
      try clear p6
      try clear p7
      try clear q7
      try clear hx7
      try clear qi7
      try clear hf7
      try clear c9
      try clear c9b0
      try clear c9b1
      try clear c10
      try clear c10b0
      try clear c10b1
      try clear c11
      try clear c11b0
      try clear c11b1
      try clear hx7_0
      try clear p7
      try clear q7
      obtain ⟨x8_1, x37_1, rfl, HA, HK1, HO_0, HO_3, HO_4, HO_7, HO_8, HO_9, HK, HB⟩ := hrel
      have hl4_1 := (Kd.R_reads' HO_4.out).1
      rw [hl4_1] at HO_4
      (try simp only [hl4_1])
      (try simp only [hl4_1] at HO_0)
      (try simp only [hl4_1] at HO_3)
      (try simp only [hl4_1] at HO_7)
      (try simp only [hl4_1] at HO_8)
      (try simp only [hl4_1] at HO_9)
      have hl8_1 := (Kd.R_reads' HO_8.out).1
      rw [hl8_1] at HO_8
      (try simp only [hl8_1])
      (try simp only [hl8_1] at HO_0)
      (try simp only [hl8_1] at HO_3)
      (try simp only [hl8_1] at HO_4)
      (try simp only [hl8_1] at HO_7)
      (try simp only [hl8_1] at HO_9)
      cases gk with
      | zero => exact absurd HA.out (by simp [assign_solved_add.l0])
      | succ k1 =>
       have H := HA.out
       clear HA
       simp only [assign_solved_add.l0] at H
       by_cases c21 : x37_1 < (y113.length : Int)
       ·
        rw [if_pos c21] at H
        have c21b0 : decide (x37_1 < (y113.length : Int)) = true := decide_eq_true c21
        (try simp only [hl4_1] at c21b0)
        (try simp only [hl8_1] at c21b0)
        clear c21
        by_cases c22 : 0 ≤ x37_1
        ·
         rw [if_pos c22] at H
         have c22b0 : decide (0 ≤ x37_1) = true := decide_eq_true c22
         clear c22
         by_cases c23 : x37_1 < (x8_1.length : Int)
         ·
          rw [if_pos c23] at H
          have c23b0 : decide (x37_1 < (x8_1.length : Int)) = true := decide_eq_true c23
          (try simp only [hl4_1] at c23b0)
          (try simp only [hl8_1] at c23b0)
          clear c23
          obtain ⟨y119, hy119⟩ : ∃ y_ : List Int, y_ = (x8_1.set (x37_1 : Int).toNat 1152921504606846976) := ⟨_, rfl⟩
          replace H : (assign_solved_add.l0 k1 l0 l1 l3 y109 (l1.length : Int) y110 y119 y116 (y113.length : Int) (wrap64 (x37_1 + 1))) = some (r1, r2, r3) := by first | (rw [hy119]; with_reducible exact H) | (have H2_ := (Option.bind_some _ _).symm.trans H; rw [hy119]; with_reducible exact H2_) | (have H2_ := (Option.bind_some _ _).symm.trans H; with_reducible exact H2_) | with_reducible exact H | (rw [hy119]; exact H) | exact H
          have Ny119 := Aside0.mk hy119
          clear hy119
          have H' := Aside0.mk H
          clear H
          have p24 : 0 ≤ (x37_1 : Int) := of_decide_eq_true (by first | (with_reducible assumption) | assumption)
          have q24 : (x37_1 : Int) < ((x8_1.length : Int) : Int) := of_decide_eq_true (by first | (with_reducible assumption) | assumption)
          obtain ⟨go24, co24, eo24, gb24, gl24, cl24, HG24⟩ := Kd.R_form HO_8.out (by omega)
          (first | cases eo24 | (injection eo24 with ea_ en_ ec_; (first | subst ea_ | (injection ea_ with ea_; subst ea_)); subst ec_; clear en_))
          have GB24 := Aside0.mk gb24
          have GG24 := Aside0.mk HG24
          clear gb24 gl24 HG24
          have HMgo24 := Aside0.mk (show ((P0_ go24 ∨ P3_ go24 ∨ P4_ go24) ∨ w.heap.size ≤ go24) from (HO_8.out.1 _ rfl).1)
          obtain ⟨hx24_0, hf24_0⟩ := Kd.R_celln 0 HO_8.out (x37_1 : Int) p24 q24
          replace p24 := eq_true p24
          replace q24 := eq_true q24
          have HP25 := Kd.R_putg HO_8.out (x37_1 : Int) 1152921504606846976
          have hq17_0 := cell_kept HG0.out HK.out HGN.out
          have hq17_1 := cell_kept HG1.out HK.out HGN.out
          have hq17_2 := cell_kept HG2.out HK.out HGN.out
          go_wp2_with (first | ((with_reducible refine gate_store (t := 3) (p := 42) rfl ?_); refine store_event (t := 3) (p := 42) (v := ?vo_w26) (w1 := (wr.setCell ⟨go24, (x37_1 : Int).toNat, none⟩ (.int .i64 1152921504606846976))) ?hg ?ho ?hn ?hr ?_; (case ho => rfl); (case hg => rfl); (case hn => rfl); (case hr => first | (go_simp; done) | (go_simp; rfl)); intro w26 hw; have hg : wr.grownBy w26 (some go24) := (by rw [hw]; exact HP25.2); have hp_ : Kd.R (Kd.int .i64) 3 w26 w0.heap.size (fun k_ => ((P0_ k_ ∨ P3_ k_ ∨ P4_ k_) ∨ w.heap.size ≤ k_) ∧ some k_ ≠ (u9000_ : Value).ownBlock ∧ some k_ ≠ (u9001_ : Value).ownBlock ∧ some k_ ≠ (.slice (some ⟨go7, 0, none⟩) y109.length co7 : Value).ownBlock ∧ some k_ ≠ (v111 : Value).ownBlock) (.slice (some ⟨go24, 0, none⟩) x8_1.length co20) y119 := (by rw [hw, Ny119.out]; exact HP25.1); clear HP25; have n0_ := Aside0.mk (Kd.R_after (v := (.slice (some ⟨go24, 0, none⟩) x8_1.length co20)) (v1 := (.slice (some ⟨go24, 0, none⟩) x8_1.length co20)) (ok := (fun k_ => ((P0_ k_ ∨ P3_ k_ ∨ P4_ k_) ∨ w.heap.size ≤ k_) ∧ some k_ ≠ (u9001_ : Value).ownBlock ∧ some k_ ≠ (.slice (some ⟨go7, 0, none⟩) y109.length co7 : Value).ownBlock ∧ some k_ ≠ (v111 : Value).ownBlock)) (by (with_reducible repeat (first | apply Kd.R_alloc | apply Kd.R_drewN | apply Kd.R_drew)); exact Kd.R_mono HO_0.out (fun _ hk => ⟨⟨hk.1, ⟨hk.2.1, ⟨hk.2.2.1, hk.2.2.2.1⟩⟩⟩, hk.2.2.2.2⟩)) hg (.inl rfl)); have n1_ := Aside0.mk (Kd.R_after (v := (.slice (some ⟨go24, 0, none⟩) x8_1.length co20)) (v1 := (.slice (some ⟨go24, 0, none⟩) x8_1.length co20)) (ok := (fun k_ => ((P0_ k_ ∨ P3_ k_ ∨ P4_ k_) ∨ w.heap.size ≤ k_) ∧ some k_ ≠ (u9000_ : Value).ownBlock ∧ some k_ ≠ (.slice (some ⟨go7, 0, none⟩) y109.length co7 : Value).ownBlock ∧ some k_ ≠ (v111 : Value).ownBlock)) (by (with_reducible repeat (first | apply Kd.R_alloc | apply Kd.R_drewN | apply Kd.R_drew)); exact Kd.R_mono HO_3.out (fun _ hk => ⟨⟨hk.1, ⟨hk.2.1, ⟨hk.2.2.1, hk.2.2.2.1⟩⟩⟩, hk.2.2.2.2⟩)) hg (.inl rfl)); have n2_ := Aside0.mk (Kd.R_after (v := (.slice (some ⟨go24, 0, none⟩) x8_1.length co20)) (v1 := (.slice (some ⟨go24, 0, none⟩) x8_1.length co20)) (ok := (fun k_ => ((P0_ k_ ∨ P3_ k_ ∨ P4_ k_) ∨ w.heap.size ≤ k_) ∧ some k_ ≠ (u9000_ : Value).ownBlock ∧ some k_ ≠ (u9001_ : Value).ownBlock ∧ some k_ ≠ (v111 : Value).ownBlock)) (by (with_reducible repeat (first | apply Kd.R_alloc | apply Kd.R_drewN | apply Kd.R_drew)); exact Kd.R_mono HO_4.out (fun _ hk => ⟨⟨hk.1, ⟨hk.2.1, ⟨hk.2.2.1, hk.2.2.2.1⟩⟩⟩, hk.2.2.2.2⟩)) hg (.inl rfl)); have n3_ := Aside0.mk (Kd.R_after (v := (.slice (some ⟨go24, 0, none⟩) x8_1.length co20)) (v1 := (.slice (some ⟨go24, 0, none⟩) x8_1.length co20)) (ok := (fun k_ => ((P0_ k_ ∨ P3_ k_ ∨ P4_ k_) ∨ w.heap.size ≤ k_) ∧ some k_ ≠ (u9000_ : Value).ownBlock ∧ some k_ ≠ (u9001_ : Value).ownBlock ∧ some k_ ≠ (.slice (some ⟨go7, 0, none⟩) y109.length co7 : Value).ownBlock)) (by (with_reducible repeat (first | apply Kd.R_alloc | apply Kd.R_drewN | apply Kd.R_drew)); exact Kd.R_mono HO_7.out (fun _ hk => ⟨⟨hk.1, ⟨hk.2.1, ⟨hk.2.2.1, hk.2.2.2.1⟩⟩⟩, hk.2.2.2.2⟩)) hg (.inl rfl)); have n4_ := Aside0.mk (hp_); have n5_ := Aside0.mk (Kd.R_over' (v := (.slice (some ⟨go24, 0, none⟩) x8_1.length co20)) (by (with_reducible repeat (first | apply Kd.R_alloc | apply Kd.R_drewN | apply Kd.R_drew)); exact HO_9.out) (Kd.R_typed HO_8.out) (by decide) hg); have n6_ := Aside0.mk ((by rw [hw]; exact below_set (HB.out) GB24.out : Below w0.heap.size w0 w26)); have n7_ := Aside0.mk (Kept.of_grown (S := (fun k_ => P0_ k_ ∨ P3_ k_ ∨ P4_ k_)) hg (by repeat (first | (with_reducible first | exact HK.out | apply Kept.alloc | apply Kept.drewN | apply Kept.drew) | exact HK.out)) (fun k_ e_ => (HO_8.out.1 k_ e_).1)); clear HO_0; clear HO_3; clear HO_4; clear HO_7; clear HO_8; clear HO_9; clear HB; clear HK; have HO_0 := n0_; have HO_3 := n1_; have HO_4 := n2_; have HO_7 := n3_; have HO_8 := n4_; have HO_9 := n5_; have HB := n6_; have HK := n7_; have hq16_0 := cell_kept HG0.out HK.out HGN.out; have hq16_1 := cell_kept HG1.out HK.out HGN.out; have hq16_2 := cell_kept HG2.out HK.out HGN.out; clear n0_ n1_ n2_ n3_ n4_ n5_ n6_ n7_; clear hg hw hp_))
          (try simp only [← hl4_1, ← hl8_1])
          go_roundg k1
          case measure => have := HK1.out; omega
          case rel => exact ⟨(y119), (wrap64 (x37_1 + 1)), (by first | rfl | (simp; done) | (simp [*]; done)), H', ⟨by have := HK1.out; omega⟩, ⟨by (try simp only [hl4_1]); (try simp only [hl8_1]); (with_reducible repeat (first | apply Kd.R_alloc | apply Kd.R_drewN | apply Kd.R_drew)); exact Kd.R_mono HO_0.out (fun _ hk => ⟨hk.1.1, ⟨hk.1.2.1, ⟨hk.1.2.2.1, ⟨hk.1.2.2.2, hk.2⟩⟩⟩⟩)⟩, ⟨by (try simp only [hl4_1]); (try simp only [hl8_1]); (with_reducible repeat (first | apply Kd.R_alloc | apply Kd.R_drewN | apply Kd.R_drew)); exact Kd.R_mono HO_3.out (fun _ hk => ⟨hk.1.1, ⟨hk.1.2.1, ⟨hk.1.2.2.1, ⟨hk.1.2.2.2, hk.2⟩⟩⟩⟩)⟩, ⟨by (try simp only [hl4_1]); (try simp only [hl8_1]); (with_reducible repeat (first | apply Kd.R_alloc | apply Kd.R_drewN | apply Kd.R_drew)); exact Kd.R_mono HO_4.out (fun _ hk => ⟨hk.1.1, ⟨hk.1.2.1, ⟨hk.1.2.2.1, ⟨hk.1.2.2.2, hk.2⟩⟩⟩⟩)⟩, ⟨by (try simp only [hl4_1]); (try simp only [hl8_1]); (with_reducible repeat (first | apply Kd.R_alloc | apply Kd.R_drewN | apply Kd.R_drew)); exact Kd.R_mono HO_7.out (fun _ hk => ⟨hk.1.1, ⟨hk.1.2.1, ⟨hk.1.2.2.1, ⟨hk.1.2.2.2, hk.2⟩⟩⟩⟩)⟩, ⟨by (try simp only [hl4_1]); (try simp only [hl8_1]); (with_reducible repeat (first | apply Kd.R_alloc | apply Kd.R_drewN | apply Kd.R_drew)); exact HO_8.out⟩, ⟨by (try simp only [hl4_1]); (try simp only [hl8_1]); (with_reducible repeat (first | apply Kd.R_alloc | apply Kd.R_drewN | apply Kd.R_drew)); exact HO_9.out⟩, ⟨by repeat (first | (with_reducible first | exact HK.out | apply Kept.alloc | apply Kept.drewN | apply Kept.drew) | exact HK.out)⟩, ⟨by repeat (first | (with_reducible first | exact HB.out | apply below_alloc | apply pw_below_drewN | apply below_drew1) | exact HB.out)⟩⟩
         ·
          rw [if_neg c23] at H
          exact absurd H (by simp)
        ·
         rw [if_neg c22] at H
         exact absurd H (by simp)
       ·
        rw [if_neg c21] at H
        have c21b0 : decide (x37_1 < (y113.length : Int)) = false := decide_eq_false c21
        (try simp only [hl4_1] at c21b0)
        (try simp only [hl8_1] at c21b0)
        clear c21
        have H' := Aside0.mk H
        clear H
        have hq18_0 := cell_kept HG0.out HK.out HGN.out
        have hq18_1 := cell_kept HG1.out HK.out HGN.out
        have hq18_2 := cell_kept HG2.out HK.out HGN.out
        go_wp2
        try go_step3
        have hq19_0 := cell_kept HG0.out HK.out HGN.out
        have hq19_1 := cell_kept HG1.out HK.out HGN.out
        have hq19_2 := cell_kept HG2.out HK.out HGN.out
        try go_wp2
        try go_step3
        go_loopg [11] k1 (fun kq v11 w' => ∃ (x0_2 : List Int) (x3_2 : List Int) (x7_2 : List Int) (x8_2 : List Int) (x9_2 : List Bool) (x11_2 : Int), v11 = .int .i64 x11_2 ∧ Aside0 (assign_solved_add.l1 kq x0_2 l1 x3_2 y109 (l1.length : Int) x7_2 x8_2 x9_2 x11_2 = some (r1, r2, r3)) ∧ Aside0 (kq ≤ k1) ∧ Aside0 (Kd.R (Kd.int .i64) 3 w' w0.heap.size (fun k_ => ((P0_ k_ ∨ P3_ k_ ∨ P4_ k_) ∨ w.heap.size ≤ k_) ∧ some k_ ≠ (u9001_ : Value).ownBlock ∧ some k_ ≠ ((.slice (some ⟨go7, 0, none⟩) y109.length co7) : Value).ownBlock ∧ some k_ ≠ (v111 : Value).ownBlock ∧ some k_ ≠ ((.slice Ao20 x8_1.length co20) : Value).ownBlock) u9000_ x0_2) ∧ Aside0 (Kd.R (Kd.int .i64) 3 w' w0.heap.size (fun k_ => ((P0_ k_ ∨ P3_ k_ ∨ P4_ k_) ∨ w.heap.size ≤ k_) ∧ some k_ ≠ (u9000_ : Value).ownBlock ∧ some k_ ≠ ((.slice (some ⟨go7, 0, none⟩) y109.length co7) : Value).ownBlock ∧ some k_ ≠ (v111 : Value).ownBlock ∧ some k_ ≠ ((.slice Ao20 x8_1.length co20) : Value).ownBlock) u9001_ x3_2) ∧ Aside0 (Kd.R (Kd.int .i64) 3 w' w0.heap.size (fun k_ => ((P0_ k_ ∨ P3_ k_ ∨ P4_ k_) ∨ w.heap.size ≤ k_) ∧ some k_ ≠ (u9000_ : Value).ownBlock ∧ some k_ ≠ (u9001_ : Value).ownBlock ∧ some k_ ≠ (v111 : Value).ownBlock ∧ some k_ ≠ ((.slice Ao20 x8_1.length co20) : Value).ownBlock) (.slice (some ⟨go7, 0, none⟩) y109.length co7) y109) ∧ Aside0 (Kd.R (Kd.int .i64) 3 w' w0.heap.size (fun k_ => ((P0_ k_ ∨ P3_ k_ ∨ P4_ k_) ∨ w.heap.size ≤ k_) ∧ some k_ ≠ (u9000_ : Value).ownBlock ∧ some k_ ≠ (u9001_ : Value).ownBlock ∧ some k_ ≠ ((.slice (some ⟨go7, 0, none⟩) y109.length co7) : Value).ownBlock ∧ some k_ ≠ ((.slice Ao20 x8_1.length co20) : Value).ownBlock) v111 x7_2) ∧ Aside0 (Kd.R (Kd.int .i64) 3 w' w0.heap.size (fun k_ => ((P0_ k_ ∨ P3_ k_ ∨ P4_ k_) ∨ w.heap.size ≤ k_) ∧ some k_ ≠ (u9000_ : Value).ownBlock ∧ some k_ ≠ (u9001_ : Value).ownBlock ∧ some k_ ≠ ((.slice (some ⟨go7, 0, none⟩) y109.length co7) : Value).ownBlock ∧ some k_ ≠ (v111 : Value).ownBlock) (.slice Ao20 x8_1.length co20) x8_2) ∧ Aside0 (Kd.R Kd.bool 4 w' w0.heap.size (fun k_ => ((P0_ k_ ∨ P3_ k_ ∨ P4_ k_) ∨ w.heap.size ≤ k_)) v117 x9_2) ∧ Aside0 (Kept w w' (fun k_ => P0_ k_ ∨ P3_ k_ ∨ P4_ k_)) ∧ Aside0 (Below w0.heap.size w0 w'))
        case atStart => exact ⟨(l0), (l3), (y110), (x8_1), (y116), (0), (by first | rfl | (simp; done) | (simp [*]; done)), H', ⟨Nat.le_refl _⟩, ⟨by (try simp only [hl4_1]); (try simp only [hl8_1]); (with_reducible repeat (first | apply Kd.R_alloc | apply Kd.R_drewN | apply Kd.R_drew)); exact HO_0.out⟩, ⟨by (try simp only [hl4_1]); (try simp only [hl8_1]); (with_reducible repeat (first | apply Kd.R_alloc | apply Kd.R_drewN | apply Kd.R_drew)); exact HO_3.out⟩, ⟨by (try simp only [hl4_1]); (try simp only [hl8_1]); (with_reducible repeat (first | apply Kd.R_alloc | apply Kd.R_drewN | apply Kd.R_drew)); exact HO_4.out⟩, ⟨by (try simp only [hl4_1]); (try simp only [hl8_1]); (with_reducible repeat (first | apply Kd.R_alloc | apply Kd.R_drewN | apply Kd.R_drew)); exact HO_7.out⟩, ⟨by (try simp only [hl4_1]); (try simp only [hl8_1]); (with_reducible repeat (first | apply Kd.R_alloc | apply Kd.R_drewN | apply Kd.R_drew)); exact HO_8.out⟩, ⟨by (try simp only [hl4_1]); (try simp only [hl8_1]); (with_reducible repeat (first | apply Kd.R_alloc | apply Kd.R_drewN | apply Kd.R_drew)); exact HO_9.out⟩, ⟨by repeat (first | (with_reducible first | exact HK.out | apply Kept.alloc | apply Kept.drewN | apply Kept.drew) | exact HK.out)⟩, ⟨by repeat (first | (with_reducible first | exact HB.out | apply below_alloc | apply pw_below_drewN | apply below_drew1) | exact HB.out)⟩⟩
        case round =>
         clear H'
         try clear c1
         try clear c2
         try clear p2
         try clear q2
         try clear hx2
         try clear c3
         try clear p3
         try clear p4
         try clear c6
         try clear c6b0
         try clear c6b1
         try clear p6
         try clear p7
         try clear q7
         try clear hx7
         try clear qi7
         try clear hf7
         try clear c9
         try clear c9b0
         try clear c9b1
         try clear c10
         try clear c10b0
         try clear c10b1
         try clear c11
         try clear c11b0
         try clear c11b1
         try clear c21
         try clear c21b0
         try clear c22
         try clear c22b0
         try clear c23
         try clear c23b0
         try clear p24
         try clear q24
         try clear hx24
         try clear hf24
         try clear hx24_0
         try clear hx7_0
         try clear p2
         try clear p24
         try clear p3
         try clear p4
         try clear p6
         try clear p7
         try clear q24
         try clear q7
         obtain ⟨x0_2, x3_2, x7_2, x8_2, x9_2, x11_2, rfl, HA, HK2, HO_0, HO_3, HO_4, HO_7, HO_8, HO_9, HK, HB⟩ := hrel
         have hl8_2 := (Kd.R_reads' HO_8.out).1
         rw [hl8_2] at HO_8
         (try simp only [hl8_2])
         (try simp only [hl8_2] at HO_0)
         (try simp only [hl8_2] at HO_3)
         (try simp only [hl8_2] at HO_4)
         (try simp only [hl8_2] at HO_7)
         (try simp only [hl8_2] at HO_9)
         cases gk with
         | zero => exact absurd HA.out (by simp [assign_solved_add.l1])
         | succ k2 =>
          have H := HA.out
          clear HA
          simp only [assign_solved_add.l1] at H
          by_cases c27 : 0 ≤ x11_2
          ·
           rw [if_pos c27] at H
           have c27b0 : decide (0 ≤ x11_2) = true := decide_eq_true c27
           clear c27
           by_cases c28 : x11_2 < (x9_2.length : Int)
           ·
            rw [if_pos c28] at H
            have c28b0 : decide (x11_2 < (x9_2.length : Int)) = true := decide_eq_true c28
            (try simp only [hl4_1] at c28b0)
            (try simp only [hl8_1] at c28b0)
            (try simp only [hl8_2] at c28b0)
            clear c28
            obtain ⟨y120, hy120⟩ : ∃ y_ : List Bool, y_ = (x9_2.set (x11_2 : Int).toNat true) := ⟨_, rfl⟩
            replace H : (if x11_2 < (y109.length : Int) then (assign_solved_add.l2 k2 x0_2 l1 x3_2 y109 (l1.length : Int) x7_2 x8_2 y120 x11_2 (rd y109 x11_2) 0 1152921504606846976 1) else (none)) = some (r1, r2, r3) := by first | (rw [hy120]; with_reducible exact H) | (have H2_ := (Option.bind_some _ _).symm.trans H; rw [hy120]; with_reducible exact H2_) | (have H2_ := (Option.bind_some _ _).symm.trans H; with_reducible exact H2_) | with_reducible exact H | (rw [hy120]; exact H) | exact H
            have Ny120 := Aside0.mk hy120
            clear hy120
            by_cases c30 : x11_2 < (y109.length : Int)
            ·
             rw [if_pos c30] at H
             have c30b0 : decide (x11_2 < (y109.length : Int)) = true := decide_eq_true c30
             (try simp only [hl4_1] at c30b0)
             (try simp only [hl8_1] at c30b0)
             (try simp only [hl8_2] at c30b0)
             clear c30
             have H' := Aside0.mk H
             clear H
             have p29 : 0 ≤ (x11_2 : Int) := of_decide_eq_true (by first | (with_reducible assumption) | assumption)
             have q29 : (x11_2 : Int) < ((x9_2.length : Int) : Int) := of_decide_eq_true (by first | (with_reducible assumption) | assumption)
             obtain ⟨go29, co29, eo29, gb29, gl29, cl29, HG29⟩ := Kd.R_form HO_9.out (by omega)
             (first | cases eo29 | (injection eo29 with ea_ en_ ec_; (first | subst ea_ | (injection ea_ with ea_; subst ea_)); subst ec_; clear en_))
             have GB29 := Aside0.mk gb29
             have GG29 := Aside0.mk HG29
             clear gb29 gl29 HG29
             have HMgo29 := Aside0.mk (show ((P0_ go29 ∨ P3_ go29 ∨ P4_ go29) ∨ w.heap.size ≤ go29) from (HO_9.out.1 _ rfl))
             obtain ⟨hx29_0, hf29_0⟩ := Kd.R_celln false HO_9.out (x11_2 : Int) p29 q29
             replace p29 := eq_true p29
             replace q29 := eq_true q29
             have HP31 := Kd.R_putg HO_9.out (x11_2 : Int) true
             have hq21_0 := cell_kept HG0.out HK.out HGN.out
             have hq21_1 := cell_kept HG1.out HK.out HGN.out
             have hq21_2 := cell_kept HG2.out HK.out HGN.out
             go_wp2_with (first | ((with_reducible refine gate_store (t := 4) (p := 46) rfl ?_); refine store_event (t := 4) (p := 46) (v := ?vo_w32) (w1 := (wr.setCell ⟨go29, (x11_2 : Int).toNat, none⟩ (.bool true))) ?hg ?ho ?hn ?hr ?_; (case ho => rfl); (case hg => rfl); (case hn => rfl); (case hr => first | (go_simp; done) | (go_simp; rfl)); intro w32 hw; have hg : wr.grownBy w32 (some go29) := (by rw [hw]; exact HP31.2); have hp_ : Kd.R Kd.bool 4 w32 w0.heap.size (fun k_ => ((P0_ k_ ∨ P3_ k_ ∨ P4_ k_) ∨ w.heap.size ≤ k_)) (.slice (some ⟨go29, 0, none⟩) x9_2.length co29) y120 := (by rw [hw, Ny120.out]; exact HP31.1); clear HP31; have n0_ := Aside0.mk (Kd.R_over' (v := (.slice (some ⟨go29, 0, none⟩) x9_2.length co29)) (by (with_reducible repeat (first | apply Kd.R_alloc | apply Kd.R_drewN | apply Kd.R_drew)); exact HO_0.out) (Kd.R_typed HO_9.out) (by decide) hg); have n1_ := Aside0.mk (Kd.R_over' (v := (.slice (some ⟨go29, 0, none⟩) x9_2.length co29)) (by (with_reducible repeat (first | apply Kd.R_alloc | apply Kd.R_drewN | apply Kd.R_drew)); exact HO_3.out) (Kd.R_typed HO_9.out) (by decide) hg); have n2_ := Aside0.mk (Kd.R_over' (v := (.slice (some ⟨go29, 0, none⟩) x9_2.length co29)) (by (with_reducible repeat (first | apply Kd.R_alloc | apply Kd.R_drewN | apply Kd.R_drew)); exact HO_4.out) (Kd.R_typed HO_9.out) (by decide) hg); have n3_ := Aside0.mk (Kd.R_over' (v := (.slice (some ⟨go29, 0, none⟩) x9_2.length co29)) (by (with_reducible repeat (first | apply Kd.R_alloc | apply Kd.R_drewN | apply Kd.R_drew)); exact HO_7.out) (Kd.R_typed HO_9.out) (by decide) hg); have n4_ := Aside0.mk (Kd.R_over' (v := (.slice (some ⟨go29, 0, none⟩) x9_2.length co29)) (by (with_reducible repeat (first | apply Kd.R_alloc | apply Kd.R_drewN | apply Kd.R_drew)); exact HO_8.out) (Kd.R_typed HO_9.out) (by decide) hg); have n5_ := Aside0.mk (hp_); have n6_ := Aside0.mk ((by rw [hw]; exact below_set (HB.out) GB29.out : Below w0.heap.size w0 w32)); have n7_ := Aside0.mk (Kept.of_grown (S := (fun k_ => P0_ k_ ∨ P3_ k_ ∨ P4_ k_)) hg (by repeat (first | (with_reducible first | exact HK.out | apply Kept.alloc | apply Kept.drewN | apply Kept.drew) | exact HK.out)) (fun k_ e_ => (HO_9.out.1 k_ e_))); clear HO_0; clear HO_3; clear HO_4; clear HO_7; clear HO_8; clear HO_9; clear HB; clear HK; have HO_0 := n0_; have HO_3 := n1_; have HO_4 := n2_; have HO_7 := n3_; have HO_8 := n4_; have HO_9 := n5_; have HB := n6_; have HK := n7_; have hq20_0 := cell_kept HG0.out HK.out HGN.out; have hq20_1 := cell_kept HG1.out HK.out HGN.out; have hq20_2 := cell_kept HG2.out HK.out HGN.out; clear n0_ n1_ n2_ n3_ n4_ n5_ n6_ n7_; clear hg hw hp_; have p121 : 0 ≤ (x11_2 : Int) := of_decide_eq_true (by first | (with_reducible assumption) | assumption); have q121 : x11_2 < (y109.length : Int) := of_decide_eq_true (by first | (with_reducible assumption) | assumption); obtain ⟨ad121, e121, hx121_0⟩ := Kd.at_int (Kd.R_reads' HO_4.out).2.2 x11_2 p121 q121; obtain rfl : (⟨go7, 0, none⟩ : Addr) = ad121 := (by injection e121); (first | simp only [add_plain] at hx121_0 | simp only [add_at] at hx121_0 | simp only [Addr.add, Nat.zero_add] at hx121_0 | skip); replace p121 := eq_true p121; replace q121 := eq_true q121))
             try go_step3
             have hq23_0 := cell_kept HG0.out HK.out HGN.out
             have hq23_1 := cell_kept HG1.out HK.out HGN.out
             have hq23_2 := cell_kept HG2.out HK.out HGN.out
             try go_wp2_with (first | ((with_reducible refine gate_store (t := 4) (p := 46) rfl ?_); refine store_event (t := 4) (p := 46) (v := ?vo_w32) (w1 := (wr.setCell ⟨go29, (x11_2 : Int).toNat, none⟩ (.bool true))) ?hg ?ho ?hn ?hr ?_; (case ho => rfl); (case hg => rfl); (case hn => rfl); (case hr => first | (go_simp; done) | (go_simp; rfl)); intro w32 hw; have hg : wr.grownBy w32 (some go29) := (by rw [hw]; exact HP31.2); have hp_ : Kd.R Kd.bool 4 w32 w0.heap.size (fun k_ => ((P0_ k_ ∨ P3_ k_ ∨ P4_ k_) ∨ w.heap.size ≤ k_)) (.slice (some ⟨go29, 0, none⟩) x9_2.length co29) y120 := (by rw [hw, Ny120.out]; exact HP31.1); clear HP31; have n0_ := Aside0.mk (Kd.R_over' (v := (.slice (some ⟨go29, 0, none⟩) x9_2.length co29)) (by (with_reducible repeat (first | apply Kd.R_alloc | apply Kd.R_drewN | apply Kd.R_drew)); exact HO_0.out) (Kd.R_typed HO_9.out) (by decide) hg); have n1_ := Aside0.mk (Kd.R_over' (v := (.slice (some ⟨go29, 0, none⟩) x9_2.length co29)) (by (with_reducible repeat (first | apply Kd.R_alloc | apply Kd.R_drewN | apply Kd.R_drew)); exact HO_3.out) (Kd.R_typed HO_9.out) (by decide) hg); have n2_ := Aside0.mk (Kd.R_over' (v := (.slice (some ⟨go29, 0, none⟩) x9_2.length co29)) (by (with_reducible repeat (first | apply Kd.R_alloc | apply Kd.R_drewN | apply Kd.R_drew)); exact HO_4.out) (Kd.R_typed HO_9.out) (by decide) hg); have n3_ := Aside0.mk (Kd.R_over' (v := (.slice (some ⟨go29, 0, none⟩) x9_2.length co29)) (by (with_reducible repeat (first | apply Kd.R_alloc | apply Kd.R_drewN | apply Kd.R_drew)); exact HO_7.out) (Kd.R_typed HO_9.out) (by decide) hg); have n4_ := Aside0.mk (Kd.R_over' (v := (.slice (some ⟨go29, 0, none⟩) x9_2.length co29)) (by (with_reducible repeat (first | apply Kd.R_alloc | apply Kd.R_drewN | apply Kd.R_drew)); exact HO_8.out) (Kd.R_typed HO_9.out) (by decide) hg); have n5_ := Aside0.mk (hp_); have n6_ := Aside0.mk ((by rw [hw]; exact below_set (HB.out) GB29.out : Below w0.heap.size w0 w32)); have n7_ := Aside0.mk (Kept.of_grown (S := (fun k_ => P0_ k_ ∨ P3_ k_ ∨ P4_ k_)) hg (by repeat (first | (with_reducible first | exact HK.out | apply Kept.alloc | apply Kept.drewN | apply Kept.drew) | exact HK.out)) (fun k_ e_ => (HO_9.out.1 k_ e_))); clear HO_0; clear HO_3; clear HO_4; clear HO_7; clear HO_8; clear HO_9; clear HB; clear HK; have HO_0 := n0_; have HO_3 := n1_; have HO_4 := n2_; have HO_7 := n3_; have HO_8 := n4_; have HO_9 := n5_; have HB := n6_; have HK := n7_; have hq22_0 := cell_kept HG0.out HK.out HGN.out; have hq22_1 := cell_kept HG1.out HK.out HGN.out; have hq22_2 := cell_kept HG2.out HK.out HGN.out; clear n0_ n1_ n2_ n3_ n4_ n5_ n6_ n7_; clear hg hw hp_; have p121 : 0 ≤ (x11_2 : Int) := of_decide_eq_true (by first | (with_reducible assumption) | assumption); have q121 : x11_2 < (y109.length : Int) := of_decide_eq_true (by first | (with_reducible assumption) | assumption); obtain ⟨ad121, e121, hx121_0⟩ := Kd.at_int (Kd.R_reads' HO_4.out).2.2 x11_2 p121 q121; obtain rfl : (⟨go7, 0, none⟩ : Addr) = ad121 := (by injection e121); (first | simp only [add_plain] at hx121_0 | simp only [add_at] at hx121_0 | simp only [Addr.add, Nat.zero_add] at hx121_0 | skip); replace p121 := eq_true p121; replace q121 := eq_true q121))
             try go_step3
             go_loopg [13, 14, 15] k2 (fun kq v13 v14 v15 w' => ∃ (x7_3 : List Int) (x8_3 : List Int) (x13_3 : Int) (x14_3 : Int) (x15_3 : Int), v13 = .int .i64 x13_3 ∧ v14 = .int .i64 x14_3 ∧ v15 = .int .i64 x15_3 ∧ Aside0 (assign_solved_add.l2 kq x0_2 l1 x3_2 y109 (l1.length : Int) x7_3 x8_3 y120 x11_2 (rd y109 x11_2) x13_3 x14_3 x15_3 = some (r1, r2, r3)) ∧ Aside0 (kq ≤ k2) ∧ Aside0 (Kd.R (Kd.int .i64) 3 w' w0.heap.size (fun k_ => ((P0_ k_ ∨ P3_ k_ ∨ P4_ k_) ∨ w.heap.size ≤ k_) ∧ some k_ ≠ (u9001_ : Value).ownBlock ∧ some k_ ≠ ((.slice (some ⟨go7, 0, none⟩) y109.length co7) : Value).ownBlock ∧ some k_ ≠ (v111 : Value).ownBlock ∧ some k_ ≠ ((.slice Ao20 x8_2.length co20) : Value).ownBlock) u9000_ x0_2) ∧ Aside0 (Kd.R (Kd.int .i64) 3 w' w0.heap.size (fun k_ => ((P0_ k_ ∨ P3_ k_ ∨ P4_ k_) ∨ w.heap.size ≤ k_) ∧ some k_ ≠ (u9000_ : Value).ownBlock ∧ some k_ ≠ ((.slice (some ⟨go7, 0, none⟩) y109.length co7) : Value).ownBlock ∧ some k_ ≠ (v111 : Value).ownBlock ∧ some k_ ≠ ((.slice Ao20 x8_2.length co20) : Value).ownBlock) u9001_ x3_2) ∧ Aside0 (Kd.R (Kd.int .i64) 3 w' w0.heap.size (fun k_ => ((P0_ k_ ∨ P3_ k_ ∨ P4_ k_) ∨ w.heap.size ≤ k_) ∧ some k_ ≠ (u9000_ : Value).ownBlock ∧ some k_ ≠ (u9001_ : Value).ownBlock ∧ some k_ ≠ (v111 : Value).ownBlock ∧ some k_ ≠ ((.slice Ao20 x8_2.length co20) : Value).ownBlock) (.slice (some ⟨go7, 0, none⟩) y109.length co7) y109) ∧ Aside0 (Kd.R (Kd.int .i64) 3 w' w0.heap.size (fun k_ => ((P0_ k_ ∨ P3_ k_ ∨ P4_ k_) ∨ w.heap.size ≤ k_) ∧ some k_ ≠ (u9000_ : Value).ownBlock ∧ some k_ ≠ (u9001_ : Value).ownBlock ∧ some k_ ≠ ((.slice (some ⟨go7, 0, none⟩) y109.length co7) : Value).ownBlock ∧ some k_ ≠ ((.slice Ao20 x8_2.length co20) : Value).ownBlock) v111 x7_3) ∧ Aside0 (Kd.R (Kd.int .i64) 3 w' w0.heap.size (fun k_ => ((P0_ k_ ∨ P3_ k_ ∨ P4_ k_) ∨ w.heap.size ≤ k_) ∧ some k_ ≠ (u9000_ : Value).ownBlock ∧ some k_ ≠ (u9001_ : Value).ownBlock ∧ some k_ ≠ ((.slice (some ⟨go7, 0, none⟩) y109.length co7) : Value).ownBlock ∧ some k_ ≠ (v111 : Value).ownBlock) (.slice Ao20 x8_2.length co20) x8_3) ∧ Aside0 (Kd.R Kd.bool 4 w' w0.heap.size (fun k_ => ((P0_ k_ ∨ P3_ k_ ∨ P4_ k_) ∨ w.heap.size ≤ k_)) (.slice (some ⟨go29, 0, none⟩) x9_2.length co29) y120) ∧ Aside0 (Kept w w' (fun k_ => P0_ k_ ∨ P3_ k_ ∨ P4_ k_)) ∧ Aside0 (Below w0.heap.size w0 w'))
             case atStart => exact ⟨(x7_2), (x8_2), (0), (1152921504606846976), (1), (by first | rfl | (simp; done) | (simp [*]; done)), (by first | rfl | (simp; done) | (simp [*]; done)), (by first | rfl | (simp; done) | (simp [*]; done)), H', ⟨Nat.le_refl _⟩, ⟨by (try simp only [hl4_1]); (try simp only [hl8_1]); (try simp only [hl8_2]); (with_reducible repeat (first | apply Kd.R_alloc | apply Kd.R_drewN | apply Kd.R_drew)); exact HO_0.out⟩, ⟨by (try simp only [hl4_1]); (try simp only [hl8_1]); (try simp only [hl8_2]); (with_reducible repeat (first | apply Kd.R_alloc | apply Kd.R_drewN | apply Kd.R_drew)); exact HO_3.out⟩, ⟨by (try simp only [hl4_1]); (try simp only [hl8_1]); (try simp only [hl8_2]); (with_reducible repeat (first | apply Kd.R_alloc | apply Kd.R_drewN | apply Kd.R_drew)); exact HO_4.out⟩, ⟨by (try simp only [hl4_1]); (try simp only [hl8_1]); (try simp only [hl8_2]); (with_reducible repeat (first | apply Kd.R_alloc | apply Kd.R_drewN | apply Kd.R_drew)); exact HO_7.out⟩, ⟨by (try simp only [hl4_1]); (try simp only [hl8_1]); (try simp only [hl8_2]); (with_reducible repeat (first | apply Kd.R_alloc | apply Kd.R_drewN | apply Kd.R_drew)); exact HO_8.out⟩, ⟨by (try simp only [hl4_1]); (try simp only [hl8_1]); (try simp only [hl8_2]); (with_reducible repeat (first | apply Kd.R_alloc | apply Kd.R_drewN | apply Kd.R_drew)); exact HO_9.out⟩, ⟨by repeat (first | (with_reducible first | exact HK.out | apply Kept.alloc | apply Kept.drewN | apply Kept.drew) | exact HK.out)⟩, ⟨by repeat (first | (with_reducible first | exact HB.out | apply below_alloc | apply pw_below_drewN | apply below_drew1) | exact HB.out)⟩⟩
             case round =>
              clear H'
              try clear c1
              try clear p1
              try clear q1
              try clear hx1
              try clear c2
              try clear p2
              try clear q2
              try clear hx2
              try clear c3
              try clear p3
              try clear p4
              try clear c6
              try clear c6b0
              try clear c6b1
              try clear p6
              try clear p7
              try clear q7
              try clear hx7
              try clear qi7
              try clear hf7
              try clear c9
              try clear c9b0
              try clear c9b1
              try clear c10
              try clear c10b0
              try clear c10b1
              try clear c11
              try clear c11b0
              try clear c11b1
              try clear p12
              try clear q12
              try clear hx12
              try clear c21
              try clear c21b0
              try clear c22
              try clear c22b0
              try clear c23
              try clear c23b0
              try clear p24
              try clear q24
              try clear hx24
              try clear hf24
              try clear c27
              try clear c27b0
              try clear c28
              try clear c28b0
              try clear p29
              try clear q29
              try clear hx29
              try clear hf29
              try clear c30
              try clear c30b0
              try clear c31
              try clear hx121_0
              try clear hx24_0
              try clear hx29_0
              try clear hx7_0
              try clear p121
              try clear p2
              try clear p24
              try clear p29
              try clear p3
              try clear p4
              try clear p6
              try clear p7
              try clear q121
              try clear q2
              try clear q24
              try clear q29
              try clear q7
              obtain ⟨x7_3, x8_3, x13_3, x14_3, x15_3, rfl, rfl, rfl, HA, HK3, HO_0, HO_3, HO_4, HO_7, HO_8, HO_9, HK, HB⟩ := hrel
              have hl8_3 := (Kd.R_reads' HO_8.out).1
              rw [hl8_3] at HO_8
              (try simp only [hl8_3])
              (try simp only [hl8_3] at HO_0)
              (try simp only [hl8_3] at HO_3)
              (try simp only [hl8_3] at HO_4)
              (try simp only [hl8_3] at HO_7)
              (try simp only [hl8_3] at HO_9)
              have hl9_3 := (Kd.R_reads' HO_9.out).1
              rw [hl9_3] at HO_9
              (try simp only [hl9_3])
              (try simp only [hl9_3] at HO_0)
              (try simp only [hl9_3] at HO_3)
              (try simp only [hl9_3] at HO_4)
              (try simp only [hl9_3] at HO_7)
              (try simp only [hl9_3] at HO_8)
              cases gk with
              | zero => exact absurd HA.out (by simp [assign_solved_add.l2])
              | succ k3 =>
               have H := HA.out
               clear HA
               simp only [assign_solved_add.l2] at H
               by_cases c33 : x15_3 ≤ (l1.length : Int)
               ·
                rw [if_pos c33] at H
                have c33b0 : decide (x15_3 ≤ (l1.length : Int)) = true := decide_eq_true c33
                (try simp only [hl4_1] at c33b0)
                (try simp only [hl8_1] at c33b0)
                (try simp only [hl8_2] at c33b0)
                (try simp only [hl8_3] at c33b0)
                (try simp only [hl9_3] at c33b0)
                clear c33
                by_cases c34 : 0 ≤ x15_3
                ·
                 rw [if_pos c34] at H
                 have c34b0 : decide (0 ≤ x15_3) = true := decide_eq_true c34
                 clear c34
                 by_cases c35 : x15_3 < (y120.length : Int)
                 ·
                  rw [if_pos c35] at H
                  have c35b0 : decide (x15_3 < (y120.length : Int)) = true := decide_eq_true c35
                  (try simp only [hl4_1] at c35b0)
                  (try simp only [hl8_1] at c35b0)
                  (try simp only [hl8_2] at c35b0)
                  (try simp only [hl8_3] at c35b0)
                  (try simp only [hl9_3] at c35b0)
                  clear c35
                  obtain ⟨bq36, hbq36⟩ : ∃ b_ : Bool, b_ = (rdOf false y120 x15_3) := ⟨_, rfl⟩
                  replace H : (if bq36 = true then (assign_solved_add.l2 k3 x0_2 l1 x3_2 y109 (l1.length : Int) x7_3 x8_3 y120 x11_2 (rd y109 x11_2) x13_3 x14_3 (wrap64 (x15_3 + 1))) else (if 0 ≤ (wrap64 ((rd y109 x11_2) - 1)) then (if (wrap64 ((rd y109 x11_2) - 1)) < (l1.length : Int) then (if 0 ≤ (wrap64 (x15_3 - 1)) then (if (wrap64 (x15_3 - 1)) < ((rd_L1 l1 (wrap64 ((rd y109 x11_2) - 1))).length : Int) then (if 0 ≤ (rd y109 x11_2) then (if (rd y109 x11_2) < (x0_2.length : Int) then (if x15_3 < (x3_2.length : Int) then (if x15_3 < (x8_3.length : Int) then (if (wrap64 ((wrap64 ((rd (rd_L1 l1 (wrap64 ((rd y109 x11_2) - 1))) (wrap64 (x15_3 - 1))) - (rd x0_2 (rd y109 x11_2)))) - (rd x3_2 x15_3))) < (rd x8_3 x15_3) then (if x15_3 < (x7_3.length : Int) then (assign_solved_add.j3 k3 x0_2 l1 x3_2 y109 (l1.length : Int) (x7_3.set (x15_3 : Int).toNat x11_2) (x8_3.set (x15_3 : Int).toNat (wrap64 ((wrap64 ((rd (rd_L1 l1 (wrap64 ((rd y109 x11_2) - 1))) (wrap64 (x15_3 - 1))) - (rd x0_2 (rd y109 x11_2)))) - (rd x3_2 x15_3)))) y120 x11_2 (rd y109 x11_2) x13_3 x14_3 x15_3) else (none)) else (assign_solved_add.j3 k3 x0_2 l1 x3_2 y109 (l1.length : Int) x7_3 x8_3 y120 x11_2 (rd y109 x11_2) x13_3 x14_3 x15_3)) else (none)) else (none)) else (none)) else (none)) else (none)) else (none)) else (none)) else (none))) = some (r1, r2, r3) := by rw [← hbq36] at H; exact H
                  have Nbq36 := Aside0.mk hbq36
                  clear hbq36
                  by_cases c37 : bq36 = true
                  ·
                   subst c37
                   have H1 : (assign_solved_add.l2 k3 x0_2 l1 x3_2 y109 (l1.length : Int) x7_3 x8_3 y120 x11_2 (rd y109 x11_2) x13_3 x14_3 (wrap64 (x15_3 + 1))) = some (r1, r2, r3) := by rw [if_pos rfl] at H; exact H
                   clear H
                   have H := H1
                   clear H1
                   have H' := Aside0.mk H
                   clear H
                   have p122 : 0 ≤ (x15_3 : Int) := of_decide_eq_true (by first | (with_reducible assumption) | assumption)
                   have q122 : x15_3 < (y120.length : Int) := of_decide_eq_true (by first | (with_reducible assumption) | assumption)
                   obtain ⟨ad122, e122, hx122_0⟩ := Kd.at_bool (Kd.R_reads' HO_9.out).2.2 x15_3 p122 q122
                   (try rw [← Nbq36.out] at hx122_0)
                   obtain rfl : (⟨go29, 0, none⟩ : Addr) = ad122 := (by injection e122)
                   (first | simp only [add_plain] at hx122_0 | simp only [add_at] at hx122_0 | simp only [Addr.add, Nat.zero_add] at hx122_0 | skip)
                   replace p122 := eq_true p122
                   replace q122 := eq_true q122
                   have hq24_0 := cell_kept HG0.out HK.out HGN.out
                   have hq24_1 := cell_kept HG1.out HK.out HGN.out
                   have hq24_2 := cell_kept HG2.out HK.out HGN.out
                   go_wp2
                   (try simp only [← hl8_3, ← hl9_3])
                   go_roundg k3
                   case measure => have := HK1.out; have := HK2.out; have := HK3.out; omega
                   case rel => exact ⟨(x7_3), (x8_3), (x13_3), (x14_3), (wrap64 (x15_3 + 1)), (by first | rfl | (simp; done) | (simp [*]; done)), (by first | rfl | (simp; done) | (simp [*]; done)), (by first | rfl | (simp; done) | (simp [*]; done)), H', ⟨by have := HK1.out; have := HK2.out; have := HK3.out; omega⟩, ⟨by (try simp only [hl4_1]); (try simp only [hl8_1]); (try simp only [hl8_2]); (try simp only [hl8_3]); (try simp only [hl9_3]); (with_reducible repeat (first | apply Kd.R_alloc | apply Kd.R_drewN | apply Kd.R_drew)); exact HO_0.out⟩, ⟨by (try simp only [hl4_1]); (try simp only [hl8_1]); (try simp only [hl8_2]); (try simp only [hl8_3]); (try simp only [hl9_3]); (with_reducible repeat (first | apply Kd.R_alloc | apply Kd.R_drewN | apply Kd.R_drew)); exact HO_3.out⟩, ⟨by (try simp only [hl4_1]); (try simp only [hl8_1]); (try simp only [hl8_2]); (try simp only [hl8_3]); (try simp only [hl9_3]); (with_reducible repeat (first | apply Kd.R_alloc | apply Kd.R_drewN | apply Kd.R_drew)); exact HO_4.out⟩, ⟨by (try simp only [hl4_1]); (try simp only [hl8_1]); (try simp only [hl8_2]); (try simp only [hl8_3]); (try simp only [hl9_3]); (with_reducible repeat (first | apply Kd.R_alloc | apply Kd.R_drewN | apply Kd.R_drew)); exact HO_7.out⟩, ⟨by (try simp only [hl4_1]); (try simp only [hl8_1]); (try simp only [hl8_2]); (try simp only [hl8_3]); (try simp only [hl9_3]); (with_reducible repeat (first | apply Kd.R_alloc | apply Kd.R_drewN | apply Kd.R_drew)); exact HO_8.out⟩, ⟨by (try simp only [hl4_1]); (try simp only [hl8_1]); (try simp only [hl8_2]); (try simp only [hl8_3]); (try simp only [hl9_3]); (with_reducible repeat (first | apply Kd.R_alloc | apply Kd.R_drewN | apply Kd.R_drew)); exact HO_9.out⟩, ⟨by repeat (first | (with_reducible first | exact HK.out | apply Kept.alloc | apply Kept.drewN | apply Kept.drew) | exact HK.out)⟩, ⟨by repeat (first | (with_reducible first | exact HB.out | apply below_alloc | apply pw_below_drewN | apply below_drew1) | exact HB.out)⟩⟩
                  ·
                   replace c37 := Bool.eq_false_iff.mpr c37
                   subst c37
                   have H1 : (if 0 ≤ (wrap64 ((rd y109 x11_2) - 1)) then (if (wrap64 ((rd y109 x11_2) - 1)) < (l1.length : Int) then (if 0 ≤ (wrap64 (x15_3 - 1)) then (if (wrap64 (x15_3 - 1)) < ((rd_L1 l1 (wrap64 ((rd y109 x11_2) - 1))).length : Int) then (if 0 ≤ (rd y109 x11_2) then (if (rd y109 x11_2) < (x0_2.length : Int) then (if x15_3 < (x3_2.length : Int) then (if x15_3 < (x8_3.length : Int) then (if (wrap64 ((wrap64 ((rd (rd_L1 l1 (wrap64 ((rd y109 x11_2) - 1))) (wrap64 (x15_3 - 1))) - (rd x0_2 (rd y109 x11_2)))) - (rd x3_2 x15_3))) < (rd x8_3 x15_3) then (if x15_3 < (x7_3.length : Int) then (assign_solved_add.j3 k3 x0_2 l1 x3_2 y109 (l1.length : Int) (x7_3.set (x15_3 : Int).toNat x11_2) (x8_3.set (x15_3 : Int).toNat (wrap64 ((wrap64 ((rd (rd_L1 l1 (wrap64 ((rd y109 x11_2) - 1))) (wrap64 (x15_3 - 1))) - (rd x0_2 (rd y109 x11_2)))) - (rd x3_2 x15_3)))) y120 x11_2 (rd y109 x11_2) x13_3 x14_3 x15_3) else (none)) else (assign_solved_add.j3 k3 x0_2 l1 x3_2 y109 (l1.length : Int) x7_3 x8_3 y120 x11_2 (rd y109 x11_2) x13_3 x14_3 x15_3)) else (none)) else (none)) else (none)) else (none)) else (none)) else (none)) else (none)) else (none)) = some (r1, r2, r3) := by rw [if_neg (show ¬ (false = true) by decide)] at H; exact H
                   clear H
                   have H := H1
                   clear H1
                   obtain ⟨ji38, hji38⟩ : ∃ j_ : Int, (wrap64 ((rd y109 x11_2) - 1)) = j_ := ⟨_, rfl⟩
                   replace H : (if 0 ≤ (ji38) then (if (ji38) < (l1.length : Int) then (if 0 ≤ (wrap64 (x15_3 - 1)) then (if (wrap64 (x15_3 - 1)) < ((rd_L1 l1 (ji38)).length : Int) then (if 0 ≤ (rd y109 x11_2) then (if (rd y109 x11_2) < (x0_2.length : Int) then (if x15_3 < (x3_2.length : Int) then (if x15_3 < (x8_3.length : Int) then (if (wrap64 ((wrap64 ((rd (rd_L1 l1 (ji38)) (wrap64 (x15_3 - 1))) - (rd x0_2 (rd y109 x11_2)))) - (rd x3_2 x15_3))) < (rd x8_3 x15_3) then (if x15_3 < (x7_3.length : Int) then (assign_solved_add.j3 k3 x0_2 l1 x3_2 y109 (l1.length : Int) (x7_3.set (x15_3 : Int).toNat x11_2) (x8_3.set (x15_3 : Int).toNat (wrap64 ((wrap64 ((rd (rd_L1 l1 (ji38)) (wrap64 (x15_3 - 1))) - (rd x0_2 (rd y109 x11_2)))) - (rd x3_2 x15_3)))) y120 x11_2 (rd y109 x11_2) x13_3 x14_3 x15_3) else (none)) else (assign_solved_add.j3 k3 x0_2 l1 x3_2 y109 (l1.length : Int) x7_3 x8_3 y120 x11_2 (rd y109 x11_2) x13_3 x14_3 x15_3)) else (none)) else (none)) else (none)) else (none)) else (none)) else (none)) else (none)) else (none)) = some (r1, r2, r3) := by first | (rw [hji38] at H; exact H) | (simp only [hji38] at H ⊢; exact H)
                   have hji38w : (IntKind.i64.wrap ((rd y109 x11_2) - 1)) = ji38 := (i64_w _).trans hji38
                   by_cases c39 : 0 ≤ (ji38)
                   ·
                    rw [if_pos c39] at H
                    have c39b0 : decide (0 ≤ (ji38)) = true := decide_eq_true c39
                    clear c39
                    by_cases c40 : (ji38) < (l1.length : Int)
                    ·
                     rw [if_pos c40] at H
                     have c40b0 : decide ((ji38) < (l1.length : Int)) = true := decide_eq_true c40
                     (try simp only [hl4_1] at c40b0)
                     (try simp only [hl8_1] at c40b0)
                     (try simp only [hl8_2] at c40b0)
                     (try simp only [hl8_3] at c40b0)
                     (try simp only [hl9_3] at c40b0)
                     clear c40
                     obtain ⟨ji41, hji41⟩ : ∃ j_ : Int, (wrap64 (x15_3 - 1)) = j_ := ⟨_, rfl⟩
                     replace H : (if 0 ≤ (ji41) then (if (ji41) < ((rd_L1 l1 (ji38)).length : Int) then (if 0 ≤ (rd y109 x11_2) then (if (rd y109 x11_2) < (x0_2.length : Int) then (if x15_3 < (x3_2.length : Int) then (if x15_3 < (x8_3.length : Int) then (if (wrap64 ((wrap64 ((rd (rd_L1 l1 (ji38)) (ji41)) - (rd x0_2 (rd y109 x11_2)))) - (rd x3_2 x15_3))) < (rd x8_3 x15_3) then (if x15_3 < (x7_3.length : Int) then (assign_solved_add.j3 k3 x0_2 l1 x3_2 y109 (l1.length : Int) (x7_3.set (x15_3 : Int).toNat x11_2) (x8_3.set (x15_3 : Int).toNat (wrap64 ((wrap64 ((rd (rd_L1 l1 (ji38)) (ji41)) - (rd x0_2 (rd y109 x11_2)))) - (rd x3_2 x15_3)))) y120 x11_2 (rd y109 x11_2) x13_3 x14_3 x15_3) else (none)) else (assign_solved_add.j3 k3 x0_2 l1 x3_2 y109 (l1.length : Int) x7_3 x8_3 y120 x11_2 (rd y109 x11_2) x13_3 x14_3 x15_3)) else (none)) else (none)) else (none)) else (none)) else (none)) else (none)) = some (r1, r2, r3) := by first | (rw [hji41] at H; exact H) | (simp only [hji41] at H ⊢; exact H)
                     have hji41w : (IntKind.i64.wrap (x15_3 - 1)) = ji41 := (i64_w _).trans hji41
                     by_cases c42 : 0 ≤ (ji41)
                     ·
                      rw [if_pos c42] at H
                      have c42b0 : decide (0 ≤ (ji41)) = true := decide_eq_true c42
                      clear c42
                      by_cases c43 : (ji41) < ((rd_L1 l1 (ji38)).length : Int)
                      ·
                       rw [if_pos c43] at H
                       have c43b0 : decide ((ji41) < ((rd_L1 l1 (ji38)).length : Int)) = true := decide_eq_true c43
                       (try simp only [hl4_1] at c43b0)
                       (try simp only [hl8_1] at c43b0)
                       (try simp only [hl8_2] at c43b0)
                       (try simp only [hl8_3] at c43b0)
                       (try simp only [hl9_3] at c43b0)
                       clear c43
                       by_cases c44 : 0 ≤ (rd y109 x11_2)
                       ·
                        rw [if_pos c44] at H
                        have c44b0 : decide (0 ≤ (rd y109 x11_2)) = true := decide_eq_true c44
                        clear c44
                        by_cases c45 : (rd y109 x11_2) < (x0_2.length : Int)
                        ·
                         rw [if_pos c45] at H
                         have c45b0 : decide ((rd y109 x11_2) < (x0_2.length : Int)) = true := decide_eq_true c45
                         (try simp only [hl4_1] at c45b0)
                         (try simp only [hl8_1] at c45b0)
                         (try simp only [hl8_2] at c45b0)
                         (try simp only [hl8_3] at c45b0)
                         (try simp only [hl9_3] at c45b0)
                         clear c45
                         by_cases c46 : x15_3 < (x3_2.length : Int)
                         ·
                          rw [if_pos c46] at H
                          have c46b0 : decide (x15_3 < (x3_2.length : Int)) = true := decide_eq_true c46
                          (try simp only [hl4_1] at c46b0)
                          (try simp only [hl8_1] at c46b0)
                          (try simp only [hl8_2] at c46b0)
                          (try simp only [hl8_3] at c46b0)
                          (try simp only [hl9_3] at c46b0)
                          clear c46
                          by_cases c47 : x15_3 < (x8_3.length : Int)
                          ·
                           rw [if_pos c47] at H
                           have c47b0 : decide (x15_3 < (x8_3.length : Int)) = true := decide_eq_true c47
                           (try simp only [hl4_1] at c47b0)
                           (try simp only [hl8_1] at c47b0)
                           (try simp only [hl8_2] at c47b0)
                           (try simp only [hl8_3] at c47b0)
                           (try simp only [hl9_3] at c47b0)
                           clear c47
                           have HC48 := Aside0.mk H
                           clear H
                           have p122 : 0 ≤ (x15_3 : Int) := of_decide_eq_true (by first | (with_reducible assumption) | assumption)
                           have q122 : x15_3 < (y120.length : Int) := of_decide_eq_true (by first | (with_reducible assumption) | assumption)
                           obtain ⟨ad122, e122, hx122_0⟩ := Kd.at_bool (Kd.R_reads' HO_9.out).2.2 x15_3 p122 q122
                           (try rw [← Nbq36.out] at hx122_0)
                           obtain rfl : (⟨go29, 0, none⟩ : Addr) = ad122 := (by injection e122)
                           (first | simp only [add_plain] at hx122_0 | simp only [add_at] at hx122_0 | simp only [Addr.add, Nat.zero_add] at hx122_0 | skip)
                           replace p122 := eq_true p122
                           replace q122 := eq_true q122
                           have hq25_0 := cell_kept HG0.out HK.out HGN.out
                           have hq25_1 := cell_kept HG1.out HK.out HGN.out
                           have hq25_2 := cell_kept HG2.out HK.out HGN.out
                           try go_wp2
                           have n0_ := Aside0.mk (Kd.R_drew HO_0.out)
                           have n1_ := Aside0.mk (Kd.R_drew HO_3.out)
                           have n2_ := Aside0.mk (Kd.R_drew HO_4.out)
                           have n3_ := Aside0.mk (Kd.R_drew HO_7.out)
                           have n4_ := Aside0.mk (Kd.R_drew HO_8.out)
                           have n5_ := Aside0.mk (Kd.R_drew HO_9.out)
                           have n6_ := Aside0.mk (Kept.drew HK.out)
                           have n7_ := Aside0.mk (below_drew1 HB.out)
                           clear HO_0
                           clear HO_3
                           clear HO_4
                           clear HO_7
                           clear HO_8
                           clear HO_9
                           clear HK
                           clear HB
                           have HO_0 := n0_
                           have HO_3 := n1_
                           have HO_4 := n2_
                           have HO_7 := n3_
                           have HO_8 := n4_
                           have HO_9 := n5_
                           have HK := n6_
                           have hq26_0 := cell_kept HG0.out HK.out HGN.out
                           have hq26_1 := cell_kept HG1.out HK.out HGN.out
                           have hq26_2 := cell_kept HG2.out HK.out HGN.out
                           have HB := n7_
                           clear n0_ n1_ n2_ n3_ n4_ n5_ n6_ n7_
                           have p123 : 0 ≤ ((ji38) : Int) := of_decide_eq_true (by first | (with_reducible assumption) | assumption)
                           have q123 : (ji38) < (l1.length : Int) := of_decide_eq_true (by first | (with_reducible assumption) | assumption)
                           obtain ⟨ad123, A123_0, c123_0, e123, hx123_0, hl123_0, hi123_0⟩ := at_L1 (Kd.C_kept_now HR1.out HK.out) (ji38) p123 q123
                           have hw123_0 := hx123_0
                           cases e123
                           have HR123_0 := Aside0.mk hi123_0
                           have HC123_0 := Aside0.mk hl123_0
                           clear hi123_0 hl123_0
                           replace p123 := eq_true p123
                           replace q123 := eq_true q123
                           have p124 : 0 ≤ ((ji41) : Int) := of_decide_eq_true (by first | (with_reducible assumption) | assumption)
                           have q124 : (ji41) < ((rd_L1 l1 (ji38)).length : Int) := of_decide_eq_true (by first | (with_reducible assumption) | assumption)
                           obtain ⟨ad124, e124, hx124_0⟩ := Kd.at_int (by repeat (first | (with_reducible exact HR123_0.out) | (with_reducible refine Kd.C_alloc ?_ _) | (with_reducible refine Kd.C_drewN ?_ _) | (with_reducible refine Kd.C_drew ?_) | exact HR123_0.out)) (ji41) p124 q124
                           cases e124
                           replace p124 := eq_true p124
                           replace q124 := eq_true q124
                           obtain ⟨Ao50, co50, eo50⟩ := Kd.R_slice HO_0.out
                           (first | subst eo50 | (injection eo50 with f1_ f2_ f3_; have f4_ := f1_.symm; have f5_ := f3_.symm; clear f1_ f2_ f3_; subst f4_; subst f5_))
                           have p125 : 0 ≤ ((rd y109 x11_2) : Int) := of_decide_eq_true (by first | (with_reducible assumption) | assumption)
                           have q125 : (rd y109 x11_2) < (x0_2.length : Int) := of_decide_eq_true (by first | (with_reducible assumption) | assumption)
                           obtain ⟨ad125, e125, hx125_0⟩ := Kd.at_int (Kd.R_reads' HO_0.out).2.2 (rd y109 x11_2) p125 q125
                           cases e125
                           replace p125 := eq_true p125
                           replace q125 := eq_true q125
                           obtain ⟨Ao51, co51, eo51⟩ := Kd.R_slice HO_3.out
                           (first | subst eo51 | (injection eo51 with f1_ f2_ f3_; have f4_ := f1_.symm; have f5_ := f3_.symm; clear f1_ f2_ f3_; subst f4_; subst f5_))
                           have p126 : 0 ≤ (x15_3 : Int) := of_decide_eq_true (by first | (with_reducible assumption) | assumption)
                           have q126 : x15_3 < (x3_2.length : Int) := of_decide_eq_true (by first | (with_reducible assumption) | assumption)
                           obtain ⟨ad126, e126, hx126_0⟩ := Kd.at_int (Kd.R_reads' HO_3.out).2.2 x15_3 p126 q126
                           cases e126
                           replace p126 := eq_true p126
                           replace q126 := eq_true q126
                           have hq27_0 := cell_kept HG0.out HK.out HGN.out
                           have hq27_1 := cell_kept HG1.out HK.out HGN.out
                           have hq27_2 := cell_kept HG2.out HK.out HGN.out
                           refine start_ (n := 26) (S := fun w' => w'.cell? (ad123.add ((ji38)).toNat) = some (.slice (some ad124) (rd_L1 l1 (ji38)).length c123_0) ∧ w'.cell? (ad124.add ((ji41)).toNat) = some (.int .i64 (rd (rd_L1 l1 (ji38)) (ji41))) ∧ w'.cell? (ad125.add ((rd y109 x11_2)).toNat) = some (.int .i64 (rd x0_2 (rd y109 x11_2))) ∧ w'.cell? (ad126.add (x15_3).toNat) = some (.int .i64 (rd x3_2 x15_3)) ∧ w'.cell? ⟨g, 0, none⟩ = _ ∧ w'.cell? ⟨g, 1, none⟩ = _ ∧ w'.cell? ⟨g, 2, none⟩ = _) (ds := []) #[false, false, false, false, false, false, false, false, false, false, false, false, false, false, false, false, false, false, false, false, false, false, false, false, false, false] (by kernel_rfl) rfl rfl ⟨hx123_0, hx124_0, hx125_0, hx126_0, hq27_0, hq27_1, hq27_2⟩ (fun hHeld => ?_); refine with_tabW assign_solved_add.tab17 assign_solved_add.bits17 (fun HT_ HW_ => ?_)
                           generalize wr.drew = w49 at HO_0 HO_3 HO_4 HO_7 HO_8 HO_9 HK HB HR123_0 hx123_0 hx124_0 hx125_0 hx126_0 hHeld hq27_0 hq27_1 hq27_2 ⊢
                           refine pure_ (i := 0) (N := some 63) (v := ?_) (a' := ?_) #[true, false, false, false, false, false, false, false, false, false, false, false, false, false, false, false, false, false, false, false, false, false, false, false, false, false] rfl rfl (any_of HT_.out (by kernel_rfl)) (fun _ _ _ h => h) (Or.inl ⟨by rfl, ?_⟩) ?_ ?_
                           rotate_left
                           ·
                            intro w'
                            go_simp
                            with_reducible rfl
                           rotate_left
                           ·
                            simp only [Act.put, List.setIfInBounds_toArray, List.set_cons_zero, List.set_cons_succ, i64_w, i32_w]
                            rfl
                           refine pure_ (i := 1) (N := some 64) (v := ?_) (a' := ?_) #[true, true, false, false, false, false, false, false, false, false, false, false, false, false, false, false, false, false, false, false, false, false, false, false, false, false] rfl rfl (any_of HT_.out (by kernel_rfl)) (fun _ _ _ h => h) (Or.inl ⟨by rfl, ?_⟩) ?_ ?_
                           rotate_left
                           ·
                            intro w'
                            go_simp
                            with_reducible rfl
                           rotate_left
                           ·
                            simp only [Act.put, List.setIfInBounds_toArray, List.set_cons_zero, List.set_cons_succ, i64_w, i32_w]
                            rfl
                           refine pure_ (i := 2) (N := some 65) (v := ?_) (a' := ?_) #[true, true, true, false, false, false, false, false, false, false, false, false, false, false, false, false, false, false, false, false, false, false, false, false, false, false] rfl rfl (any_of HT_.out (by kernel_rfl)) (fun _ _ _ h => h) (Or.inl ⟨by rfl, ?_⟩) ?_ ?_
                           rotate_left
                           ·
                            intro w'
                            go_simp
                            with_reducible rfl
                           rotate_left
                           ·
                            simp only [Act.put, List.setIfInBounds_toArray, List.set_cons_zero, List.set_cons_succ, i64_w, i32_w]
                            rfl
                           refine pure_ (i := 3) (N := some 66) (v := ?_) (a' := ?_) #[true, true, true, true, false, false, false, false, false, false, false, false, false, false, false, false, false, false, false, false, false, false, false, false, false, false] rfl rfl (any_of HT_.out (by kernel_rfl)) (fun _ _ _ h => h) (Or.inl ⟨by rfl, ?_⟩) ?_ ?_
                           rotate_left
                           ·
                            intro w'
                            go_simp
                            with_reducible rfl
                           rotate_left
                           ·
                            simp only [Act.put, List.setIfInBounds_toArray, List.set_cons_zero, List.set_cons_succ, i64_w, i32_w]
                            rfl
                           refine pure_ (i := 5) (N := some 68) (v := ?_) (a' := ?_) #[true, true, true, true, false, true, false, false, false, false, false, false, false, false, false, false, false, false, false, false, false, false, false, false, false, false] rfl rfl (any_of HT_.out (by kernel_rfl)) (fun _ _ _ h => h) (Or.inl ⟨by rfl, ?_⟩) ?_ ?_
                           rotate_left
                           ·
                            intro w'
                            go_simp
                            with_reducible rfl
                           rotate_left
                           ·
                            simp only [Act.put, List.setIfInBounds_toArray, List.set_cons_zero, List.set_cons_succ, i64_w, i32_w]
                            rfl
                           refine pure_ (i := 6) (N := some 69) (v := ?_) (a' := ?_) #[true, true, true, true, false, true, true, false, false, false, false, false, false, false, false, false, false, false, false, false, false, false, false, false, false, false] rfl rfl (any_of HT_.out (by kernel_rfl)) (fun _ _ _ h => h) (Or.inl ⟨by rfl, ?_⟩) ?_ ?_
                           rotate_left
                           ·
                            intro w'
                            go_simp
                            with_reducible rfl
                           rotate_left
                           ·
                            simp only [Act.put, List.setIfInBounds_toArray, List.set_cons_zero, List.set_cons_succ, i64_w, i32_w]
                            rfl
                           refine pure_ (i := 9) (N := some 72) (v := ?_) (a' := ?_) #[true, true, true, true, false, true, true, false, false, true, false, false, false, false, false, false, false, false, false, false, false, false, false, false, false, false] rfl rfl (any_of HT_.out (by kernel_rfl)) (fun _ _ _ h => h) (Or.inl ⟨by rfl, ?_⟩) ?_ ?_
                           rotate_left
                           ·
                            intro w'
                            go_simp
                            with_reducible rfl
                           rotate_left
                           ·
                            simp only [Act.put, List.setIfInBounds_toArray, List.set_cons_zero, List.set_cons_succ, i64_w, i32_w]
                            rfl
                           refine pure_ (i := 10) (N := some 73) (v := ?_) (a' := ?_) #[true, true, true, true, false, true, true, false, false, true, true, false, false, false, false, false, false, false, false, false, false, false, false, false, false, false] rfl rfl (any_of HT_.out (by kernel_rfl)) (fun _ _ _ h => h) (Or.inl ⟨by rfl, ?_⟩) ?_ ?_
                           rotate_left
                           ·
                            intro w'
                            go_simp
                            with_reducible rfl
                           rotate_left
                           ·
                            simp only [Act.put, List.setIfInBounds_toArray, List.set_cons_zero, List.set_cons_succ, i64_w, i32_w]
                            rfl
                           refine pure_ (i := 11) (N := some 74) (v := ?_) (a' := ?_) #[true, true, true, true, false, true, true, false, false, true, true, true, false, false, false, false, false, false, false, false, false, false, false, false, false, false] rfl rfl (any_of HT_.out (by kernel_rfl)) (fun _ _ _ h => h) (Or.inl ⟨by rfl, ?_⟩) ?_ ?_
                           rotate_left
                           ·
                            intro w'
                            go_simp
                            with_reducible rfl
                           rotate_left
                           ·
                            simp only [Act.put, List.setIfInBounds_toArray, List.set_cons_zero, List.set_cons_succ, i64_w, i32_w]
                            rfl
                           refine take_ (i := 12) (N := some 75) (v := ?_) (a' := ?_) #[true, true, true, true, false, true, true, false, false, true, true, true, true, false, false, false, false, false, false, false, false, false, false, false, false, false] rfl rfl (take_ofW HT_.out HW_.out (by kernel_rfl)) (fun _ _ _ h => h) (Or.inl ⟨by rfl, ?_⟩) hHeld ?_ ?_
                           rotate_left
                           ·
                            rintro w' ⟨s0, s1, s2, s3, sq0, sq1, sq2⟩
                            go_simp
                            with_reducible rfl
                           rotate_left
                           ·
                            simp only [Act.put, List.setIfInBounds_toArray, List.set_cons_zero, List.set_cons_succ, i64_w, i32_w]
                            rfl
                           refine pure_ (i := 13) (N := some 76) (v := ?_) (a' := ?_) #[true, true, true, true, false, true, true, false, false, true, true, true, true, true, false, false, false, false, false, false, false, false, false, false, false, false] rfl rfl (any_of HT_.out (by kernel_rfl)) (fun _ _ _ h => h) (Or.inl ⟨by rfl, ?_⟩) ?_ ?_
                           rotate_left
                           ·
                            intro w'
                            go_simp
                            with_reducible rfl
                           rotate_left
                           ·
                            simp only [Act.put, List.setIfInBounds_toArray, List.set_cons_zero, List.set_cons_succ, i64_w, i32_w]
                            rfl
                           refine pure_ (i := 14) (N := some 77) (v := ?_) (a' := ?_) #[true, true, true, true, false, true, true, false, false, true, true, true, true, true, true, false, false, false, false, false, false, false, false, false, false, false] rfl rfl (any_of HT_.out (by kernel_rfl)) (fun _ _ _ h => h) (Or.inl ⟨by rfl, ?_⟩) ?_ ?_
                           rotate_left
                           ·
                            intro w'
                            go_simp
                            with_reducible rfl
                           rotate_left
                           ·
                            simp only [Act.put, List.setIfInBounds_toArray, List.set_cons_zero, List.set_cons_succ, i64_w, i32_w]
                            rfl
                           refine pure_ (i := 17) (N := some 80) (v := ?_) (a' := ?_) #[true, true, true, true, false, true, true, false, false, true, true, true, true, true, true, false, false, true, false, false, false, false, false, false, false, false] rfl rfl (any_of HT_.out (by kernel_rfl)) (fun _ _ _ h => h) (Or.inl ⟨by rfl, ?_⟩) ?_ ?_
                           rotate_left
                           ·
                            intro w'
                            go_simp
                            with_reducible rfl
                           rotate_left
                           ·
                            simp only [Act.put, List.setIfInBounds_toArray, List.set_cons_zero, List.set_cons_succ, i64_w, i32_w]
                            rfl
                           refine pure_ (i := 18) (N := some 81) (v := ?_) (a' := ?_) #[true, true, true, true, false, true, true, false, false, true, true, true, true, true, true, false, false, true, true, false, false, false, false, false, false, false] rfl rfl (any_of HT_.out (by kernel_rfl)) (fun _ _ _ h => h) (Or.inl ⟨by rfl, ?_⟩) ?_ ?_
                           rotate_left
                           ·
                            intro w'
                            go_simp
                            with_reducible rfl
                           rotate_left
                           ·
                            simp only [Act.put, List.setIfInBounds_toArray, List.set_cons_zero, List.set_cons_succ, i64_w, i32_w]
                            rfl
                           refine pure_ (i := 19) (N := some 82) (v := ?_) (a' := ?_) #[true, true, true, true, false, true, true, false, false, true, true, true, true, true, true, false, false, true, true, true, false, false, false, false, false, false] rfl rfl (any_of HT_.out (by kernel_rfl)) (fun _ _ _ h => h) (Or.inl ⟨by rfl, ?_⟩) ?_ ?_
                           rotate_left
                           ·
                            intro w'
                            go_simp
                            with_reducible rfl
                           rotate_left
                           ·
                            simp only [Act.put, List.setIfInBounds_toArray, List.set_cons_zero, List.set_cons_succ, i64_w, i32_w]
                            rfl
                           refine take_ (i := 20) (N := some 83) (v := ?_) (a' := ?_) #[true, true, true, true, false, true, true, false, false, true, true, true, true, true, true, false, false, true, true, true, true, false, false, false, false, false] rfl rfl (take_ofW HT_.out HW_.out (by kernel_rfl)) (fun _ _ _ h => h) (Or.inl ⟨by rfl, ?_⟩) hHeld ?_ ?_
                           rotate_left
                           ·
                            rintro w' ⟨s0, s1, s2, s3, sq0, sq1, sq2⟩
                            go_simp
                            with_reducible rfl
                           rotate_left
                           ·
                            simp only [Act.put, List.setIfInBounds_toArray, List.set_cons_zero, List.set_cons_succ, i64_w, i32_w]
                            rfl
                           refine pure_ (i := 21) (N := some 84) (v := ?_) (a' := ?_) #[true, true, true, true, false, true, true, false, false, true, true, true, true, true, true, false, false, true, true, true, true, true, false, false, false, false] rfl rfl (any_of HT_.out (by kernel_rfl)) (fun _ _ _ h => h) (Or.inl ⟨by rfl, ?_⟩) ?_ ?_
                           rotate_left
                           ·
                            intro w'
                            go_simp
                            with_reducible rfl
                           rotate_left
                           ·
                            simp only [Act.put, List.setIfInBounds_toArray, List.set_cons_zero, List.set_cons_succ, i64_w, i32_w]
                            rfl
                           refine pure_ (i := 22) (N := some 85) (v := ?_) (a' := ?_) #[true, true, true, true, false, true, true, false, false, true, true, true, true, true, true, false, false, true, true, true, true, true, true, false, false, false] rfl rfl (any_of HT_.out (by kernel_rfl)) (fun _ _ _ h => h) (Or.inl ⟨by rfl, ?_⟩) ?_ ?_
                           rotate_left
                           ·
                            intro w'
                            go_simp
                            with_reducible rfl
                           rotate_left
                           ·
                            simp only [Act.put, List.setIfInBounds_toArray, List.set_cons_zero, List.set_cons_succ, i64_w, i32_w]
                            rfl
                           refine take_ (i := 4) (N := some 67) (v := ?_) (a' := ?_) #[true, true, true, true, true, true, true, false, false, true, true, true, true, true, true, false, false, true, true, true, true, true, true, false, false, false] rfl rfl (take_ofW HT_.out HW_.out (by kernel_rfl)) (fun _ _ _ h => h) (Or.inl ⟨by rfl, ?_⟩) hHeld ?_ ?_
                           rotate_left
                           ·
                            rintro w' ⟨s0, s1, s2, s3, sq0, sq1, sq2⟩
                            go_simp
                            with_reducible rfl
                           rotate_left
                           ·
                            simp only [Act.put, List.setIfInBounds_toArray, List.set_cons_zero, List.set_cons_succ, i64_w, i32_w]
                            rfl
                           refine pure_ (i := 7) (N := some 70) (v := ?_) (a' := ?_) #[true, true, true, true, true, true, true, true, false, true, true, true, true, true, true, false, false, true, true, true, true, true, true, false, false, false] rfl rfl (any_of HT_.out (by kernel_rfl)) (fun _ _ _ h => h) (Or.inl ⟨by rfl, ?_⟩) ?_ ?_
                           rotate_left
                           ·
                            intro w'
                            go_simp
                            with_reducible rfl
                           rotate_left
                           ·
                            simp only [Act.put, List.setIfInBounds_toArray, List.set_cons_zero, List.set_cons_succ, i64_w, i32_w]
                            rfl
                           refine take_ (i := 8) (N := some 71) (v := ?_) (a' := ?_) #[true, true, true, true, true, true, true, true, true, true, true, true, true, true, true, false, false, true, true, true, true, true, true, false, false, false] rfl rfl (take_ofW HT_.out HW_.out (by kernel_rfl)) (fun _ _ _ h => h) (Or.inl ⟨by rfl, ?_⟩) hHeld ?_ ?_
                           rotate_left
                           ·
                            rintro w' ⟨s0, s1, s2, s3, sq0, sq1, sq2⟩
                            go_simp
                            with_reducible rfl
                           rotate_left
                           ·
                            simp only [Act.put, List.setIfInBounds_toArray, List.set_cons_zero, List.set_cons_succ, i64_w, i32_w]
                            rfl
                           refine take_ (i := 15) (N := some 78) (v := ?_) (a' := ?_) #[true, true, true, true, true, true, true, true, true, true, true, true, true, true, true, true, false, true, true, true, true, true, true, false, false, false] rfl rfl (take_ofW HT_.out HW_.out (by kernel_rfl)) (fun _ _ _ h => h) (Or.inl ⟨by rfl, ?_⟩) hHeld ?_ ?_
                           rotate_left
                           ·
                            rintro w' ⟨s0, s1, s2, s3, sq0, sq1, sq2⟩
                            go_simp
                            with_reducible rfl
                           rotate_left
                           ·
                            simp only [Act.put, List.setIfInBounds_toArray, List.set_cons_zero, List.set_cons_succ, i64_w, i32_w]
                            rfl
                           refine pure_ (i := 16) (N := some 79) (v := ?_) (a' := ?_) #[true, true, true, true, true, true, true, true, true, true, true, true, true, true, true, true, true, true, true, true, true, true, true, false, false, false] rfl rfl (any_of HT_.out (by kernel_rfl)) (fun _ _ _ h => h) (Or.inl ⟨by rfl, ?_⟩) ?_ ?_
                           rotate_left
                           ·
                            intro w'
                            go_simp
                            with_reducible rfl
                           rotate_left
                           ·
                            simp only [Act.put, List.setIfInBounds_toArray, List.set_cons_zero, List.set_cons_succ, i64_w, i32_w]
                            rfl
                           refine take_ (i := 23) (N := some 86) (v := ?_) (a' := ?_) #[true, true, true, true, true, true, true, true, true, true, true, true, true, true, true, true, true, true, true, true, true, true, true, true, false, false] rfl rfl (take_ofW HT_.out HW_.out (by kernel_rfl)) (fun _ _ _ h => h) (Or.inl ⟨by rfl, ?_⟩) hHeld ?_ ?_
                           rotate_left
                           ·
                            rintro w' ⟨s0, s1, s2, s3, sq0, sq1, sq2⟩
                            go_simp
                            with_reducible rfl
                           rotate_left
                           ·
                            simp only [Act.put, List.setIfInBounds_toArray, List.set_cons_zero, List.set_cons_succ, i64_w, i32_w]
                            rfl
                           refine pure_ (i := 24) (N := some 87) (v := ?_) (a' := ?_) #[true, true, true, true, true, true, true, true, true, true, true, true, true, true, true, true, true, true, true, true, true, true, true, true, true, false] rfl rfl (any_of HT_.out (by kernel_rfl)) (fun _ _ _ h => h) (Or.inl ⟨by rfl, ?_⟩) ?_ ?_
                           rotate_left
                           ·
                            intro w'
                            go_simp
                            with_reducible rfl
                           rotate_left
                           ·
                            simp only [Act.put, List.setIfInBounds_toArray, List.set_cons_zero, List.set_cons_succ, i64_w, i32_w]
                            rfl
                           refine pure_ (i := 25) (N := some 16) (v := ?_) (a' := ?_) #[true, true, true, true, true, true, true, true, true, true, true, true, true, true, true, true, true, true, true, true, true, true, true, true, true, true] rfl rfl (any_of HT_.out (by kernel_rfl)) (fun _ _ _ h => h) (Or.inl ⟨by rfl, ?_⟩) ?_ ?_
                           rotate_left
                           ·
                            intro w'
                            go_simp
                            with_reducible rfl
                           rotate_left
                           ·
                            simp only [Act.put, List.setIfInBounds_toArray, List.set_cons_zero, List.set_cons_succ, i64_w, i32_w]
                            rfl
                           refine done_ (done_of HT_.out (by kernel_rfl)) ?_
                           have p127 : 0 ≤ (x15_3 : Int) := of_decide_eq_true (by first | (with_reducible assumption) | assumption)
                           have q127 : x15_3 < (x8_3.length : Int) := of_decide_eq_true (by first | (with_reducible assumption) | assumption)
                           obtain ⟨ad127, e127, hx127_0⟩ := Kd.at_int (Kd.R_reads' HO_8.out).2.2 x15_3 p127 q127
                           cases e127
                           replace p127 := eq_true p127
                           replace q127 := eq_true q127
                           have hq28_0 := cell_kept HG0.out HK.out HGN.out
                           have hq28_1 := cell_kept HG1.out HK.out HGN.out
                           have hq28_2 := cell_kept HG2.out HK.out HGN.out
                           go_upto_if 93 with (fail)
                           go_cut [] (fun wc => ∃ (kq : Nat) (x7_47 : List Int) (x8_47 : List Int), Aside0 (assign_solved_add.j3 kq x0_2 l1 x3_2 y109 (l1.length : Int) x7_47 x8_47 y120 x11_2 (rd y109 x11_2) x13_3 x14_3 x15_3 = some (r1, r2, r3)) ∧ Aside0 (kq ≤ k3) ∧ Aside0 (Kd.R (Kd.int .i64) 3 wc w0.heap.size (fun k_ => ((P0_ k_ ∨ P3_ k_ ∨ P4_ k_) ∨ w.heap.size ≤ k_) ∧ some k_ ≠ ((.slice (some ad126) x3_2.length co51) : Value).ownBlock ∧ some k_ ≠ ((.slice (some ⟨go7, 0, none⟩) y109.length co7) : Value).ownBlock ∧ some k_ ≠ (v111 : Value).ownBlock ∧ some k_ ≠ ((.slice (some ad127) x8_3.length co20) : Value).ownBlock) (.slice (some ad125) x0_2.length co50) x0_2) ∧ Aside0 (Kd.R (Kd.int .i64) 3 wc w0.heap.size (fun k_ => ((P0_ k_ ∨ P3_ k_ ∨ P4_ k_) ∨ w.heap.size ≤ k_) ∧ some k_ ≠ ((.slice (some ad125) x0_2.length co50) : Value).ownBlock ∧ some k_ ≠ ((.slice (some ⟨go7, 0, none⟩) y109.length co7) : Value).ownBlock ∧ some k_ ≠ (v111 : Value).ownBlock ∧ some k_ ≠ ((.slice (some ad127) x8_3.length co20) : Value).ownBlock) (.slice (some ad126) x3_2.length co51) x3_2) ∧ Aside0 (Kd.R (Kd.int .i64) 3 wc w0.heap.size (fun k_ => ((P0_ k_ ∨ P3_ k_ ∨ P4_ k_) ∨ w.heap.size ≤ k_) ∧ some k_ ≠ ((.slice (some ad125) x0_2.length co50) : Value).ownBlock ∧ some k_ ≠ ((.slice (some ad126) x3_2.length co51) : Value).ownBlock ∧ some k_ ≠ (v111 : Value).ownBlock ∧ some k_ ≠ ((.slice (some ad127) x8_3.length co20) : Value).ownBlock) (.slice (some ⟨go7, 0, none⟩) y109.length co7) y109) ∧ Aside0 (Kd.R (Kd.int .i64) 3 wc w0.heap.size (fun k_ => ((P0_ k_ ∨ P3_ k_ ∨ P4_ k_) ∨ w.heap.size ≤ k_) ∧ some k_ ≠ ((.slice (some ad125) x0_2.length co50) : Value).ownBlock ∧ some k_ ≠ ((.slice (some ad126) x3_2.length co51) : Value).ownBlock ∧ some k_ ≠ ((.slice (some ⟨go7, 0, none⟩) y109.length co7) : Value).ownBlock ∧ some k_ ≠ ((.slice (some ad127) x8_3.length co20) : Value).ownBlock) v111 x7_47) ∧ Aside0 (Kd.R (Kd.int .i64) 3 wc w0.heap.size (fun k_ => ((P0_ k_ ∨ P3_ k_ ∨ P4_ k_) ∨ w.heap.size ≤ k_) ∧ some k_ ≠ ((.slice (some ad125) x0_2.length co50) : Value).ownBlock ∧ some k_ ≠ ((.slice (some ad126) x3_2.length co51) : Value).ownBlock ∧ some k_ ≠ ((.slice (some ⟨go7, 0, none⟩) y109.length co7) : Value).ownBlock ∧ some k_ ≠ (v111 : Value).ownBlock) (.slice (some ad127) x8_3.length co20) x8_47) ∧ Aside0 (Kd.R Kd.bool 4 wc w0.heap.size (fun k_ => ((P0_ k_ ∨ P3_ k_ ∨ P4_ k_) ∨ w.heap.size ≤ k_)) (.slice (some ⟨go29, 0, none⟩) y120.length co29) y120) ∧ Aside0 (Kept w wc (fun k_ => P0_ k_ ∨ P3_ k_ ∨ P4_ k_)) ∧ Aside0 (Below w0.heap.size w0 wc))
                           case first =>
                            have H := HC48.out
                            clear HC48
                            by_cases c52 : (wrap64 ((wrap64 ((rd (rd_L1 l1 (ji38)) (ji41)) - (rd x0_2 (rd y109 x11_2)))) - (rd x3_2 x15_3))) < (rd x8_3 x15_3)
                            ·
                             rw [if_pos c52] at H
                             have c52b0 : decide ((wrap64 ((wrap64 ((rd (rd_L1 l1 (ji38)) (ji41)) - (rd x0_2 (rd y109 x11_2)))) - (rd x3_2 x15_3))) < (rd x8_3 x15_3)) = true := decide_eq_true c52
                             (try simp only [hji8] at c52b0)
                             (try simp only [hji38] at c52b0)
                             (try simp only [hji41] at c52b0)
                             clear c52
                             (first | rw [c52b0] | (simp only [i64_w, i32_w]; rw [c52b0]) | skip)
                             obtain ⟨y128, hy128⟩ : ∃ y_ : List Int, y_ = (x8_3.set (x15_3 : Int).toNat (wrap64 ((wrap64 ((rd (rd_L1 l1 (ji38)) (ji41)) - (rd x0_2 (rd y109 x11_2)))) - (rd x3_2 x15_3)))) := ⟨_, rfl⟩
                             replace H : (if x15_3 < (x7_3.length : Int) then (assign_solved_add.j3 k3 x0_2 l1 x3_2 y109 (l1.length : Int) (x7_3.set (x15_3 : Int).toNat x11_2) y128 y120 x11_2 (rd y109 x11_2) x13_3 x14_3 x15_3) else (none)) = some (r1, r2, r3) := by first | (rw [hy128]; with_reducible exact H) | (have H2_ := (Option.bind_some _ _).symm.trans H; rw [hy128]; with_reducible exact H2_) | (have H2_ := (Option.bind_some _ _).symm.trans H; with_reducible exact H2_) | with_reducible exact H | (rw [hy128]; exact H) | exact H
                             have Ny128 := Aside0.mk hy128
                             clear hy128
                             by_cases c54 : x15_3 < (x7_3.length : Int)
                             ·
                              rw [if_pos c54] at H
                              have c54b0 : decide (x15_3 < (x7_3.length : Int)) = true := decide_eq_true c54
                              (try simp only [hl4_1] at c54b0)
                              (try simp only [hl8_1] at c54b0)
                              (try simp only [hl8_2] at c54b0)
                              (try simp only [hl8_3] at c54b0)
                              (try simp only [hl9_3] at c54b0)
                              clear c54
                              obtain ⟨y129, hy129⟩ : ∃ y_ : List Int, y_ = (x7_3.set (x15_3 : Int).toNat x11_2) := ⟨_, rfl⟩
                              replace H : (assign_solved_add.j3 k3 x0_2 l1 x3_2 y109 (l1.length : Int) y129 y128 y120 x11_2 (rd y109 x11_2) x13_3 x14_3 x15_3) = some (r1, r2, r3) := by first | (rw [hy129]; with_reducible exact H) | (have H2_ := (Option.bind_some _ _).symm.trans H; rw [hy129]; with_reducible exact H2_) | (have H2_ := (Option.bind_some _ _).symm.trans H; with_reducible exact H2_) | with_reducible exact H | (rw [hy129]; exact H) | exact H
                              have Ny129 := Aside0.mk hy129
                              clear hy129
                              have H' := Aside0.mk H
                              clear H
                              have p53 : 0 ≤ (x15_3 : Int) := of_decide_eq_true (by first | (with_reducible assumption) | assumption)
                              have q53 : (x15_3 : Int) < ((x8_3.length : Int) : Int) := of_decide_eq_true (by first | (with_reducible assumption) | assumption)
                              obtain ⟨go53, co53, eo53, gb53, gl53, cl53, HG53⟩ := Kd.R_form HO_8.out (by omega)
                              (first | cases eo53 | (injection eo53 with ea_ en_ ec_; (first | subst ea_ | (injection ea_ with ea_; subst ea_)); subst ec_; clear en_))
                              have GB53 := Aside0.mk gb53
                              have GG53 := Aside0.mk HG53
                              clear gb53 gl53 HG53
                              have HMgo53 := Aside0.mk (show ((P0_ go53 ∨ P3_ go53 ∨ P4_ go53) ∨ w.heap.size ≤ go53) from (HO_8.out.1 _ rfl).1)
                              (first | simp only [add_plain] at hx127_0 | skip)
                              obtain ⟨hx53_0, hf53_0⟩ := Kd.R_celln 0 HO_8.out (x15_3 : Int) p53 q53
                              replace p53 := eq_true p53
                              replace q53 := eq_true q53
                              have HP56 := Kd.R_putg HO_8.out (x15_3 : Int) (wrap64 ((wrap64 ((rd (rd_L1 l1 (ji38)) (ji41)) - (rd x0_2 (rd y109 x11_2)))) - (rd x3_2 x15_3)))
                              have hq31_0 := cell_kept HG0.out HK.out HGN.out
                              have hq31_1 := cell_kept HG1.out HK.out HGN.out
                              have hq31_2 := cell_kept HG2.out HK.out HGN.out
                              go_wp2_with (first | ((with_reducible refine gate_store (t := 3) (p := 100) rfl ?_); refine store_event (t := 3) (p := 100) (v := ?vo_w57) (w1 := (w49.setCell ⟨go53, (x15_3 : Int).toNat, none⟩ (.int .i64 (wrap64 ((wrap64 ((rd (rd_L1 l1 (ji38)) (ji41)) - (rd x0_2 (rd y109 x11_2)))) - (rd x3_2 x15_3)))))) ?hg ?ho ?hn ?hr ?_; (case ho => rfl); (case hg => rfl); (case hn => rfl); (case hr => first | (go_simp; done) | (go_simp; rfl)); intro w57 hw; have hg : w49.grownBy w57 (some go53) := (by rw [hw]; exact HP56.2); have hp_ : Kd.R (Kd.int .i64) 3 w57 w0.heap.size (fun k_ => ((P0_ k_ ∨ P3_ k_ ∨ P4_ k_) ∨ w.heap.size ≤ k_) ∧ some k_ ≠ (.slice (some ad125) x0_2.length co50 : Value).ownBlock ∧ some k_ ≠ (.slice (some ad126) x3_2.length co51 : Value).ownBlock ∧ some k_ ≠ (.slice (some ⟨go7, 0, none⟩) y109.length co7 : Value).ownBlock ∧ some k_ ≠ (v111 : Value).ownBlock) (.slice (some ⟨go53, 0, none⟩) x8_3.length co20) y128 := (by rw [hw, Ny128.out]; exact HP56.1); clear HP56; have n0_ := Aside0.mk (Kd.R_after (v := (.slice (some ⟨go53, 0, none⟩) x8_3.length co20)) (v1 := (.slice (some ⟨go53, 0, none⟩) x8_3.length co20)) (ok := (fun k_ => ((P0_ k_ ∨ P3_ k_ ∨ P4_ k_) ∨ w.heap.size ≤ k_) ∧ some k_ ≠ (.slice (some ad126) x3_2.length co51 : Value).ownBlock ∧ some k_ ≠ (.slice (some ⟨go7, 0, none⟩) y109.length co7 : Value).ownBlock ∧ some k_ ≠ (v111 : Value).ownBlock)) (by (with_reducible repeat (first | apply Kd.R_alloc | apply Kd.R_drewN | apply Kd.R_drew)); exact Kd.R_mono HO_0.out (fun _ hk => ⟨⟨hk.1, ⟨hk.2.1, ⟨hk.2.2.1, hk.2.2.2.1⟩⟩⟩, hk.2.2.2.2⟩)) hg (.inl rfl)); have n1_ := Aside0.mk (Kd.R_after (v := (.slice (some ⟨go53, 0, none⟩) x8_3.length co20)) (v1 := (.slice (some ⟨go53, 0, none⟩) x8_3.length co20)) (ok := (fun k_ => ((P0_ k_ ∨ P3_ k_ ∨ P4_ k_) ∨ w.heap.size ≤ k_) ∧ some k_ ≠ (.slice (some ad125) x0_2.length co50 : Value).ownBlock ∧ some k_ ≠ (.slice (some ⟨go7, 0, none⟩) y109.length co7 : Value).ownBlock ∧ some k_ ≠ (v111 : Value).ownBlock)) (by (with_reducible repeat (first | apply Kd.R_alloc | apply Kd.R_drewN | apply Kd.R_drew)); exact Kd.R_mono HO_3.out (fun _ hk => ⟨⟨hk.1, ⟨hk.2.1, ⟨hk.2.2.1, hk.2.2.2.1⟩⟩⟩, hk.2.2.2.2⟩)) hg (.inl rfl)); have n2_ := Aside0.mk (Kd.R_after (v := (.slice (some ⟨go53, 0, none⟩) x8_3.length co20)) (v1 := (.slice (some ⟨go53, 0, none⟩) x8_3.length co20)) (ok := (fun k_ => ((P0_ k_ ∨ P3_ k_ ∨ P4_ k_) ∨ w.heap.size ≤ k_) ∧ some k_ ≠ (.slice (some ad125) x0_2.length co50 : Value).ownBlock ∧ some k_ ≠ (.slice (some ad126) x3_2.length co51 : Value).ownBlock ∧ some k_ ≠ (v111 : Value).ownBlock)) (by (with_reducible repeat (first | apply Kd.R_alloc | apply Kd.R_drewN | apply Kd.R_drew)); exact Kd.R_mono HO_4.out (fun _ hk => ⟨⟨hk.1, ⟨hk.2.1, ⟨hk.2.2.1, hk.2.2.2.1⟩⟩⟩, hk.2.2.2.2⟩)) hg (.inl rfl)); have n3_ := Aside0.mk (Kd.R_after (v := (.slice (some ⟨go53, 0, none⟩) x8_3.length co20)) (v1 := (.slice (some ⟨go53, 0, none⟩) x8_3.length co20)) (ok := (fun k_ => ((P0_ k_ ∨ P3_ k_ ∨ P4_ k_) ∨ w.heap.size ≤ k_) ∧ some k_ ≠ (.slice (some ad125) x0_2.length co50 : Value).ownBlock ∧ some k_ ≠ (.slice (some ad126) x3_2.length co51 : Value).ownBlock ∧ some k_ ≠ (.slice (some ⟨go7, 0, none⟩) y109.length co7 : Value).ownBlock)) (by (with_reducible repeat (first | apply Kd.R_alloc | apply Kd.R_drewN | apply Kd.R_drew)); exact Kd.R_mono HO_7.out (fun _ hk => ⟨⟨hk.1, ⟨hk.2.1, ⟨hk.2.2.1, hk.2.2.2.1⟩⟩⟩, hk.2.2.2.2⟩)) hg (.inl rfl)); have n4_ := Aside0.mk (hp_); have n5_ := Aside0.mk (Kd.R_over' (v := (.slice (some ⟨go53, 0, none⟩) x8_3.length co20)) (by (with_reducible repeat (first | apply Kd.R_alloc | apply Kd.R_drewN | apply Kd.R_drew)); exact HO_9.out) (Kd.R_typed HO_8.out) (by decide) hg); have n6_ := Aside0.mk ((by rw [hw]; exact below_set (HB.out) GB53.out : Below w0.heap.size w0 w57)); have n7_ := Aside0.mk (Kept.of_grown (S := (fun k_ => P0_ k_ ∨ P3_ k_ ∨ P4_ k_)) hg (by repeat (first | (with_reducible first | exact HK.out | apply Kept.alloc | apply Kept.drewN | apply Kept.drew) | exact HK.out)) (fun k_ e_ => (HO_8.out.1 k_ e_).1)); clear HO_0; clear HO_3; clear HO_4; clear HO_7; clear HO_8; clear HO_9; clear HB; clear HK; have HO_0 := n0_; have HO_3 := n1_; have HO_4 := n2_; have HO_7 := n3_; have HO_8 := n4_; have HO_9 := n5_; have HB := n6_; have HK := n7_; have hq29_0 := cell_kept HG0.out HK.out HGN.out; have hq29_1 := cell_kept HG1.out HK.out HGN.out; have hq29_2 := cell_kept HG2.out HK.out HGN.out; clear n0_ n1_ n2_ n3_ n4_ n5_ n6_ n7_; clear hg hw hp_; have p55 : 0 ≤ (x15_3 : Int) := of_decide_eq_true (by first | (with_reducible assumption) | assumption); have q55 : (x15_3 : Int) < ((x7_3.length : Int) : Int) := of_decide_eq_true (by first | (with_reducible assumption) | assumption); obtain ⟨go55, co55, eo55, gb55, gl55, cl55, HG55⟩ := Kd.R_form HO_7.out (by omega); (first | cases eo55 | (injection eo55 with ea_ en_ ec_; (first | subst ea_ | (injection ea_ with ea_; subst ea_)); subst ec_; clear en_)); have GB55 := Aside0.mk gb55; have GG55 := Aside0.mk HG55; clear gb55 gl55 HG55; have HMgo55 := Aside0.mk (show ((P0_ go55 ∨ P3_ go55 ∨ P4_ go55) ∨ w.heap.size ≤ go55) from (HO_7.out.1 _ rfl).1.1); obtain ⟨hx55_0, hf55_0⟩ := Kd.R_celln 0 HO_7.out (x15_3 : Int) p55 q55; replace p55 := eq_true p55; replace q55 := eq_true q55; have n_ := Aside0.mk (Kd.R_mono (ok' := (fun k_ => ((P0_ k_ ∨ P3_ k_ ∨ P4_ k_) ∨ w.heap.size ≤ k_) ∧ some k_ ≠ (.slice (some ad125) x0_2.length co50 : Value).ownBlock ∧ some k_ ≠ (.slice (some ad126) x3_2.length co51 : Value).ownBlock ∧ some k_ ≠ (.slice (some ⟨go7, 0, none⟩) y109.length co7 : Value).ownBlock ∧ some k_ ≠ (.slice (some ⟨go53, 0, none⟩) x8_3.length co20 : Value).ownBlock)) HO_7.out (fun k_ hk => ⟨hk.1.1, ⟨hk.1.2.1, ⟨hk.1.2.2.1, ⟨hk.1.2.2.2, hk.2⟩⟩⟩⟩)); clear HO_7; have HO_7 := n_; clear n_; obtain ⟨hy58_, hz58_⟩ := Kd.R_celln 0 HO_7.out (x15_3 : Int) (of_decide_eq_true (by first | (with_reducible assumption) | assumption)) (of_decide_eq_true (by first | (with_reducible assumption) | assumption)); have HP58 := Kd.R_putg HO_7.out (x15_3 : Int) x11_2) | ((with_reducible refine gate_store (t := 3) (p := 101) rfl ?_); refine store_event (t := 3) (p := 101) (v := ?vo_w59) (w1 := (w57.setCell ⟨go55, (x15_3 : Int).toNat, none⟩ (.int .i64 x11_2))) ?hg ?ho ?hn ?hr ?_; (case ho => rfl); (case hg => rfl); (case hn => rfl); (case hr => first | (go_simp; done) | (go_simp; rfl)); intro w59 hw; have hg : w57.grownBy w59 (some go55) := (by rw [hw]; exact HP58.2); have hp_ : Kd.R (Kd.int .i64) 3 w59 w0.heap.size (fun k_ => ((P0_ k_ ∨ P3_ k_ ∨ P4_ k_) ∨ w.heap.size ≤ k_) ∧ some k_ ≠ (.slice (some ad125) x0_2.length co50 : Value).ownBlock ∧ some k_ ≠ (.slice (some ad126) x3_2.length co51 : Value).ownBlock ∧ some k_ ≠ (.slice (some ⟨go7, 0, none⟩) y109.length co7 : Value).ownBlock ∧ some k_ ≠ (.slice (some ⟨go53, 0, none⟩) x8_3.length co20 : Value).ownBlock) (.slice (some ⟨go55, 0, none⟩) x7_3.length co55) y129 := (by rw [hw, Ny129.out]; exact HP58.1); clear HP58; have n0_ := Aside0.mk (Kd.R_after (v := (.slice (some ⟨go55, 0, none⟩) x7_3.length co55)) (v1 := (.slice (some ⟨go55, 0, none⟩) x7_3.length co55)) (ok := (fun k_ => ((P0_ k_ ∨ P3_ k_ ∨ P4_ k_) ∨ w.heap.size ≤ k_) ∧ some k_ ≠ (.slice (some ad126) x3_2.length co51 : Value).ownBlock ∧ some k_ ≠ (.slice (some ⟨go7, 0, none⟩) y109.length co7 : Value).ownBlock ∧ some k_ ≠ (.slice (some ⟨go53, 0, none⟩) x8_3.length co20 : Value).ownBlock)) (by (with_reducible repeat (first | apply Kd.R_alloc | apply Kd.R_drewN | apply Kd.R_drew)); exact Kd.R_mono HO_0.out (fun _ hk => ⟨⟨hk.1.1, ⟨hk.1.2.1, ⟨hk.1.2.2.1, hk.2⟩⟩⟩, hk.1.2.2.2⟩)) hg (.inl rfl)); have n1_ := Aside0.mk (Kd.R_after (v := (.slice (some ⟨go55, 0, none⟩) x7_3.length co55)) (v1 := (.slice (some ⟨go55, 0, none⟩) x7_3.length co55)) (ok := (fun k_ => ((P0_ k_ ∨ P3_ k_ ∨ P4_ k_) ∨ w.heap.size ≤ k_) ∧ some k_ ≠ (.slice (some ad125) x0_2.length co50 : Value).ownBlock ∧ some k_ ≠ (.slice (some ⟨go7, 0, none⟩) y109.length co7 : Value).ownBlock ∧ some k_ ≠ (.slice (some ⟨go53, 0, none⟩) x8_3.length co20 : Value).ownBlock)) (by (with_reducible repeat (first | apply Kd.R_alloc | apply Kd.R_drewN | apply Kd.R_drew)); exact Kd.R_mono HO_3.out (fun _ hk => ⟨⟨hk.1.1, ⟨hk.1.2.1, ⟨hk.1.2.2.1, hk.2⟩⟩⟩, hk.1.2.2.2⟩)) hg (.inl rfl)); have n2_ := Aside0.mk (Kd.R_after (v := (.slice (some ⟨go55, 0, none⟩) x7_3.length co55)) (v1 := (.slice (some ⟨go55, 0, none⟩) x7_3.length co55)) (ok := (fun k_ => ((P0_ k_ ∨ P3_ k_ ∨ P4_ k_) ∨ w.heap.size ≤ k_) ∧ some k_ ≠ (.slice (some ad125) x0_2.length co50 : Value).ownBlock ∧ some k_ ≠ (.slice (some ad126) x3_2.length co51 : Value).ownBlock ∧ some k_ ≠ (.slice (some ⟨go53, 0, none⟩) x8_3.length co20 : Value).ownBlock)) (by (with_reducible repeat (first | apply Kd.R_alloc | apply Kd.R_drewN | apply Kd.R_drew)); exact Kd.R_mono HO_4.out (fun _ hk => ⟨⟨hk.1.1, ⟨hk.1.2.1, ⟨hk.1.2.2.1, hk.2⟩⟩⟩, hk.1.2.2.2⟩)) hg (.inl rfl)); have n3_ := Aside0.mk (hp_); have n4_ := Aside0.mk (Kd.R_after (v := (.slice (some ⟨go55, 0, none⟩) x7_3.length co55)) (v1 := (.slice (some ⟨go55, 0, none⟩) x7_3.length co55)) (ok := (fun k_ => ((P0_ k_ ∨ P3_ k_ ∨ P4_ k_) ∨ w.heap.size ≤ k_) ∧ some k_ ≠ (.slice (some ad125) x0_2.length co50 : Value).ownBlock ∧ some k_ ≠ (.slice (some ad126) x3_2.length co51 : Value).ownBlock ∧ some k_ ≠ (.slice (some ⟨go7, 0, none⟩) y109.length co7 : Value).ownBlock)) (by (with_reducible repeat (first | apply Kd.R_alloc | apply Kd.R_drewN | apply Kd.R_drew)); exact Kd.R_mono HO_8.out (fun _ hk => ⟨⟨hk.1, ⟨hk.2.1, ⟨hk.2.2.1, hk.2.2.2.1⟩⟩⟩, hk.2.2.2.2⟩)) hg (.inl rfl)); have n5_ := Aside0.mk (Kd.R_over' (v := (.slice (some ⟨go55, 0, none⟩) x7_3.length co55)) (by (with_reducible repeat (first | apply Kd.R_alloc | apply Kd.R_drewN | apply Kd.R_drew)); exact HO_9.out) (Kd.R_typed HO_7.out) (by decide) hg); have n6_ := Aside0.mk ((by rw [hw]; exact below_set (HB.out) GB55.out : Below w0.heap.size w0 w59)); have n7_ := Aside0.mk (Kept.of_grown (S := (fun k_ => P0_ k_ ∨ P3_ k_ ∨ P4_ k_)) hg (by repeat (first | (with_reducible first | exact HK.out | apply Kept.alloc | apply Kept.drewN | apply Kept.drew) | exact HK.out)) (fun k_ e_ => (HO_7.out.1 k_ e_).1)); clear HO_0; clear HO_3; clear HO_4; clear HO_7; clear HO_8; clear HO_9; clear HB; clear HK; have HO_0 := n0_; have HO_3 := n1_; have HO_4 := n2_; have HO_7 := n3_; have HO_8 := n4_; have HO_9 := n5_; have HB := n6_; have HK := n7_; have hq30_0 := cell_kept HG0.out HK.out HGN.out; have hq30_1 := cell_kept HG1.out HK.out HGN.out; have hq30_2 := cell_kept HG2.out HK.out HGN.out; clear n0_ n1_ n2_ n3_ n4_ n5_ n6_ n7_; clear hg hw hp_))
                              go_meet
                              case rel => exact ⟨_, (y129), (y128), H', ⟨by have := HK1.out; have := HK2.out; have := HK3.out; first | omega | exact Nat.le_refl _⟩, ⟨by (try simp only [hl4_1]); (try simp only [hl8_1]); (try simp only [hl8_2]); (try simp only [hl8_3]); (try simp only [hl9_3]); (with_reducible repeat (first | apply Kd.R_alloc | apply Kd.R_drewN | apply Kd.R_drew)); exact Kd.R_mono HO_0.out (fun _ hk => ⟨hk.1.1, ⟨hk.1.2.1, ⟨hk.1.2.2.1, ⟨hk.2, hk.1.2.2.2⟩⟩⟩⟩)⟩, ⟨by (try simp only [hl4_1]); (try simp only [hl8_1]); (try simp only [hl8_2]); (try simp only [hl8_3]); (try simp only [hl9_3]); (with_reducible repeat (first | apply Kd.R_alloc | apply Kd.R_drewN | apply Kd.R_drew)); exact Kd.R_mono HO_3.out (fun _ hk => ⟨hk.1.1, ⟨hk.1.2.1, ⟨hk.1.2.2.1, ⟨hk.2, hk.1.2.2.2⟩⟩⟩⟩)⟩, ⟨by (try simp only [hl4_1]); (try simp only [hl8_1]); (try simp only [hl8_2]); (try simp only [hl8_3]); (try simp only [hl9_3]); (with_reducible repeat (first | apply Kd.R_alloc | apply Kd.R_drewN | apply Kd.R_drew)); exact Kd.R_mono HO_4.out (fun _ hk => ⟨hk.1.1, ⟨hk.1.2.1, ⟨hk.1.2.2.1, ⟨hk.2, hk.1.2.2.2⟩⟩⟩⟩)⟩, ⟨by (try simp only [hl4_1]); (try simp only [hl8_1]); (try simp only [hl8_2]); (try simp only [hl8_3]); (try simp only [hl9_3]); (with_reducible repeat (first | apply Kd.R_alloc | apply Kd.R_drewN | apply Kd.R_drew)); exact HO_7.out⟩, ⟨by (try simp only [hl4_1]); (try simp only [hl8_1]); (try simp only [hl8_2]); (try simp only [hl8_3]); (try simp only [hl9_3]); (with_reducible repeat (first | apply Kd.R_alloc | apply Kd.R_drewN | apply Kd.R_drew)); exact Kd.R_mono HO_8.out (fun _ hk => ⟨hk.1.1, ⟨hk.1.2.1, ⟨hk.1.2.2.1, ⟨hk.1.2.2.2, hk.2⟩⟩⟩⟩)⟩, ⟨by (try simp only [hl4_1]); (try simp only [hl8_1]); (try simp only [hl8_2]); (try simp only [hl8_3]); (try simp only [hl9_3]); (with_reducible repeat (first | apply Kd.R_alloc | apply Kd.R_drewN | apply Kd.R_drew)); exact HO_9.out⟩, ⟨by repeat (first | (with_reducible first | exact HK.out | apply Kept.alloc | apply Kept.drewN | apply Kept.drew) | exact HK.out)⟩, ⟨by repeat (first | (with_reducible first | exact HB.out | apply below_alloc | apply pw_below_drewN | apply below_drew1) | exact HB.out)⟩⟩
                             ·
                              rw [if_neg c54] at H
                              exact absurd H (by simp)
                            ·
                             rw [if_neg c52] at H
                             have c52b0 : decide ((wrap64 ((wrap64 ((rd (rd_L1 l1 (ji38)) (ji41)) - (rd x0_2 (rd y109 x11_2)))) - (rd x3_2 x15_3))) < (rd x8_3 x15_3)) = false := decide_eq_false c52
                             (try simp only [hji8] at c52b0)
                             (try simp only [hji38] at c52b0)
                             (try simp only [hji41] at c52b0)
                             clear c52
                             (first | rw [c52b0] | (simp only [i64_w, i32_w]; rw [c52b0]) | skip)
                             have H' := Aside0.mk H
                             clear H
                             have hq32_0 := cell_kept HG0.out HK.out HGN.out
                             have hq32_1 := cell_kept HG1.out HK.out HGN.out
                             have hq32_2 := cell_kept HG2.out HK.out HGN.out
                             go_wp2
                             go_meet
                             case rel => exact ⟨_, (x7_3), (x8_3), H', ⟨by have := HK1.out; have := HK2.out; have := HK3.out; first | omega | exact Nat.le_refl _⟩, ⟨by (try simp only [hl4_1]); (try simp only [hl8_1]); (try simp only [hl8_2]); (try simp only [hl8_3]); (try simp only [hl9_3]); (with_reducible repeat (first | apply Kd.R_alloc | apply Kd.R_drewN | apply Kd.R_drew)); exact HO_0.out⟩, ⟨by (try simp only [hl4_1]); (try simp only [hl8_1]); (try simp only [hl8_2]); (try simp only [hl8_3]); (try simp only [hl9_3]); (with_reducible repeat (first | apply Kd.R_alloc | apply Kd.R_drewN | apply Kd.R_drew)); exact HO_3.out⟩, ⟨by (try simp only [hl4_1]); (try simp only [hl8_1]); (try simp only [hl8_2]); (try simp only [hl8_3]); (try simp only [hl9_3]); (with_reducible repeat (first | apply Kd.R_alloc | apply Kd.R_drewN | apply Kd.R_drew)); exact HO_4.out⟩, ⟨by (try simp only [hl4_1]); (try simp only [hl8_1]); (try simp only [hl8_2]); (try simp only [hl8_3]); (try simp only [hl9_3]); (with_reducible repeat (first | apply Kd.R_alloc | apply Kd.R_drewN | apply Kd.R_drew)); exact HO_7.out⟩, ⟨by (try simp only [hl4_1]); (try simp only [hl8_1]); (try simp only [hl8_2]); (try simp only [hl8_3]); (try simp only [hl9_3]); (with_reducible repeat (first | apply Kd.R_alloc | apply Kd.R_drewN | apply Kd.R_drew)); exact HO_8.out⟩, ⟨by (try simp only [hl4_1]); (try simp only [hl8_1]); (try simp only [hl8_2]); (try simp only [hl8_3]); (try simp only [hl9_3]); (with_reducible repeat (first | apply Kd.R_alloc | apply Kd.R_drewN | apply Kd.R_drew)); exact HO_9.out⟩, ⟨by repeat (first | (with_reducible first | exact HK.out | apply Kept.alloc | apply Kept.drewN | apply Kept.drew) | exact HK.out)⟩, ⟨by repeat (first | (with_reducible first | exact HB.out | apply below_alloc | apply pw_below_drewN | apply below_drew1) | exact HB.out)⟩⟩
                           case rest =>
                            clear HC48
                            try clear c1
                            try clear p1
                            try clear q1
                            try clear hx1
                            try clear c2
                            try clear p2
                            try clear q2
                            try clear hx2
                            try clear c3
                            try clear p3
                            try clear q3
                            try clear c4
                            try clear p4
                            try clear c5
                            try clear p5
                            try clear q5
                            try clear hx5
                            try clear hf5
                            try clear c6
                            try clear c6b0
                            try clear c6b1
                            try clear p6
                            try clear p7
                            try clear q7
                            try clear hx7
                            try clear qi7
                            try clear hf7
                            try clear c9
                            try clear c9b0
                            try clear c9b1
                            try clear c10
                            try clear c10b0
                            try clear c10b1
                            try clear c11
                            try clear c11b0
                            try clear c11b1
                            try clear c12
                            try clear p12
                            try clear q12
                            try clear hx12
                            try clear c21
                            try clear c21b0
                            try clear c22
                            try clear c22b0
                            try clear c23
                            try clear c23b0
                            try clear p24
                            try clear q24
                            try clear hx24
                            try clear hf24
                            try clear c27
                            try clear c27b0
                            try clear c28
                            try clear c28b0
                            try clear p29
                            try clear q29
                            try clear hx29
                            try clear hf29
                            try clear c30
                            try clear c30b0
                            try clear c31
                            try clear c33
                            try clear c33b0
                            try clear c34
                            try clear c34b0
                            try clear c35
                            try clear c35b0
                            try clear q36
                            try clear c37
                            try clear c39
                            try clear c39b0
                            try clear c40
                            try clear c40b0
                            try clear c42
                            try clear c42b0
                            try clear c43
                            try clear c43b0
                            try clear c44
                            try clear c44b0
                            try clear c45
                            try clear c45b0
                            try clear c46
                            try clear c46b0
                            try clear c47
                            try clear c47b0
                            try clear c52
                            try clear c52b0
                            try clear p53
                            try clear q53
                            try clear hx53
                            try clear hf53
                            try clear c54
                            try clear c54b0
                            try clear p55
                            try clear q55
                            try clear hx55
                            try clear hf55
                            try clear hx121_0
                            try clear hx122_0
                            try clear hx123_0
                            try clear hx124_0
                            try clear hx125_0
                            try clear hx126_0
                            try clear hx127_0
                            try clear hx24_0
                            try clear hx29_0
                            try clear hx53_0
                            try clear hx55_0
                            try clear hx7_0
                            try clear p1
                            try clear p12
                            try clear p121
                            try clear p122
                            try clear p123
                            try clear p124
                            try clear p125
                            try clear p126
                            try clear p127
                            try clear p2
                            try clear p24
                            try clear p29
                            try clear p3
                            try clear p4
                            try clear p53
                            try clear p55
                            try clear p6
                            try clear p7
                            try clear q1
                            try clear q12
                            try clear q121
                            try clear q122
                            try clear q123
                            try clear q124
                            try clear q125
                            try clear q126
                            try clear q127
                            try clear q2
                            try clear q24
                            try clear q29
                            try clear q53
                            try clear q55
                            try clear q7
                            obtain ⟨kq, x7_47, x8_47, HA, HJ47, HO_0, HO_3, HO_4, HO_7, HO_8, HO_9, HK, HB⟩ := hcut
                            have hl8_47 := (Kd.R_reads' HO_8.out).1
                            rw [hl8_47] at HO_8
                            (try simp only [hl8_47])
                            (try simp only [hl8_47] at HO_0)
                            (try simp only [hl8_47] at HO_3)
                            (try simp only [hl8_47] at HO_4)
                            (try simp only [hl8_47] at HO_7)
                            (try simp only [hl8_47] at HO_9)
                            cases kq with
                            | zero => exact absurd HA.out (by simp [assign_solved_add.j3])
                            | succ kj47 =>
                             have H := HA.out
                             clear HA
                             simp only [assign_solved_add.j3] at H
                             by_cases c60 : 0 ≤ x15_3
                             ·
                              rw [if_pos c60] at H
                              have c60b0 : decide (0 ≤ x15_3) = true := decide_eq_true c60
                              clear c60
                              by_cases c61 : x15_3 < (x8_47.length : Int)
                              ·
                               rw [if_pos c61] at H
                               have c61b0 : decide (x15_3 < (x8_47.length : Int)) = true := decide_eq_true c61
                               (try simp only [hl4_1] at c61b0)
                               (try simp only [hl8_1] at c61b0)
                               (try simp only [hl8_2] at c61b0)
                               (try simp only [hl8_3] at c61b0)
                               (try simp only [hl9_3] at c61b0)
                               (try simp only [hl8_47] at c61b0)
                               clear c61
                               by_cases c62 : (rd x8_47 x15_3) < x14_3
                               ·
                                rw [if_pos c62] at H
                                have c62b0 : decide ((rd x8_47 x15_3) < x14_3) = true := decide_eq_true c62
                                clear c62
                                have H' := Aside0.mk H
                                clear H
                                have p130 : 0 ≤ (x15_3 : Int) := of_decide_eq_true (by first | (with_reducible assumption) | assumption)
                                have q130 : x15_3 < (x8_47.length : Int) := of_decide_eq_true (by first | (with_reducible assumption) | assumption)
                                obtain ⟨ad130, e130, hx130_0⟩ := Kd.at_int (Kd.R_reads' HO_8.out).2.2 x15_3 p130 q130
                                obtain rfl : ad127 = ad130 := (by injection e130)
                                replace p130 := eq_true p130
                                replace q130 := eq_true q130
                                have p131 : 0 ≤ (x15_3 : Int) := of_decide_eq_true (by first | (with_reducible assumption) | assumption)
                                have q131 : x15_3 < (x8_47.length : Int) := of_decide_eq_true (by first | (with_reducible assumption) | assumption)
                                obtain ⟨ad131, e131, hx131_0⟩ := Kd.at_int (Kd.R_reads' HO_8.out).2.2 x15_3 p131 q131
                                obtain rfl : ad127 = ad131 := (by injection e131)
                                replace p131 := eq_true p131
                                replace q131 := eq_true q131
                                have hq33_0 := cell_kept HG0.out HK.out HGN.out
                                have hq33_1 := cell_kept HG1.out HK.out HGN.out
                                have hq33_2 := cell_kept HG2.out HK.out HGN.out
                                go_wp2
                                (try simp only [← hl8_3, ← hl9_3, ← hl8_47])
                                go_roundg kj47
                                case measure => have := HK1.out; have := HK2.out; have := HK3.out; have := HJ47.out; omega
                                case rel => exact ⟨(x7_47), (x8_47), (x15_3), (rd x8_47 x15_3), (wrap64 (x15_3 + 1)), (by first | rfl | (simp; done) | (simp [*]; done)), (by first | rfl | (simp; done) | (simp [*]; done)), (by first | rfl | (simp; done) | (simp [*]; done)), H', ⟨by have := HK1.out; have := HK2.out; have := HK3.out; have := HJ47.out; omega⟩, ⟨by (try simp only [hl4_1]); (try simp only [hl8_1]); (try simp only [hl8_2]); (try simp only [hl8_3]); (try simp only [hl9_3]); (try simp only [hl8_47]); (with_reducible repeat (first | apply Kd.R_alloc | apply Kd.R_drewN | apply Kd.R_drew)); exact HO_0.out⟩, ⟨by (try simp only [hl4_1]); (try simp only [hl8_1]); (try simp only [hl8_2]); (try simp only [hl8_3]); (try simp only [hl9_3]); (try simp only [hl8_47]); (with_reducible repeat (first | apply Kd.R_alloc | apply Kd.R_drewN | apply Kd.R_drew)); exact HO_3.out⟩, ⟨by (try simp only [hl4_1]); (try simp only [hl8_1]); (try simp only [hl8_2]); (try simp only [hl8_3]); (try simp only [hl9_3]); (try simp only [hl8_47]); (with_reducible repeat (first | apply Kd.R_alloc | apply Kd.R_drewN | apply Kd.R_drew)); exact HO_4.out⟩, ⟨by (try simp only [hl4_1]); (try simp only [hl8_1]); (try simp only [hl8_2]); (try simp only [hl8_3]); (try simp only [hl9_3]); (try simp only [hl8_47]); (with_reducible repeat (first | apply Kd.R_alloc | apply Kd.R_drewN | apply Kd.R_drew)); exact HO_7.out⟩, ⟨by (try simp only [hl4_1]); (try simp only [hl8_1]); (try simp only [hl8_2]); (try simp only [hl8_3]); (try simp only [hl9_3]); (try simp only [hl8_47]); (with_reducible repeat (first | apply Kd.R_alloc | apply Kd.R_drewN | apply Kd.R_drew)); exact HO_8.out⟩, ⟨by (try simp only [hl4_1]); (try simp only [hl8_1]); (try simp only [hl8_2]); (try simp only [hl8_3]); (try simp only [hl9_3]); (try simp only [hl8_47]); (with_reducible repeat (first | apply Kd.R_alloc | apply Kd.R_drewN | apply Kd.R_drew)); exact HO_9.out⟩, ⟨by repeat (first | (with_reducible first | exact HK.out | apply Kept.alloc | apply Kept.drewN | apply Kept.drew) | exact HK.out)⟩, ⟨by repeat (first | (with_reducible first | exact HB.out | apply below_alloc | apply pw_below_drewN | apply below_drew1) | exact HB.out)⟩⟩
                               ·
                                rw [if_neg c62] at H
                                have c62b0 : decide ((rd x8_47 x15_3) < x14_3) = false := decide_eq_false c62
                                clear c62
                                have H' := Aside0.mk H
                                clear H
                                have p130 : 0 ≤ (x15_3 : Int) := of_decide_eq_true (by first | (with_reducible assumption) | assumption)
                                have q130 : x15_3 < (x8_47.length : Int) := of_decide_eq_true (by first | (with_reducible assumption) | assumption)
                                obtain ⟨ad130, e130, hx130_0⟩ := Kd.at_int (Kd.R_reads' HO_8.out).2.2 x15_3 p130 q130
                                obtain rfl : ad127 = ad130 := (by injection e130)
                                replace p130 := eq_true p130
                                replace q130 := eq_true q130
                                have hq34_0 := cell_kept HG0.out HK.out HGN.out
                                have hq34_1 := cell_kept HG1.out HK.out HGN.out
                                have hq34_2 := cell_kept HG2.out HK.out HGN.out
                                go_wp2
                                (try simp only [← hl8_3, ← hl9_3, ← hl8_47])
                                go_roundg kj47
                                case measure => have := HK1.out; have := HK2.out; have := HK3.out; have := HJ47.out; omega
                                case rel => exact ⟨(x7_47), (x8_47), (x13_3), (x14_3), (wrap64 (x15_3 + 1)), (by first | rfl | (simp; done) | (simp [*]; done)), (by first | rfl | (simp; done) | (simp [*]; done)), (by first | rfl | (simp; done) | (simp [*]; done)), H', ⟨by have := HK1.out; have := HK2.out; have := HK3.out; have := HJ47.out; omega⟩, ⟨by (try simp only [hl4_1]); (try simp only [hl8_1]); (try simp only [hl8_2]); (try simp only [hl8_3]); (try simp only [hl9_3]); (try simp only [hl8_47]); (with_reducible repeat (first | apply Kd.R_alloc | apply Kd.R_drewN | apply Kd.R_drew)); exact HO_0.out⟩, ⟨by (try simp only [hl4_1]); (try simp only [hl8_1]); (try simp only [hl8_2]); (try simp only [hl8_3]); (try simp only [hl9_3]); (try simp only [hl8_47]); (with_reducible repeat (first | apply Kd.R_alloc | apply Kd.R_drewN | apply Kd.R_drew)); exact HO_3.out⟩, ⟨by (try simp only [hl4_1]); (try simp only [hl8_1]); (try simp only [hl8_2]); (try simp only [hl8_3]); (try simp only [hl9_3]); (try simp only [hl8_47]); (with_reducible repeat (first | apply Kd.R_alloc | apply Kd.R_drewN | apply Kd.R_drew)); exact HO_4.out⟩, ⟨by (try simp only [hl4_1]); (try simp only [hl8_1]); (try simp only [hl8_2]); (try simp only [hl8_3]); (try simp only [hl9_3]); (try simp only [hl8_47]); (with_reducible repeat (first | apply Kd.R_alloc | apply Kd.R_drewN | apply Kd.R_drew)); exact HO_7.out⟩, ⟨by (try simp only [hl4_1]); (try simp only [hl8_1]); (try simp only [hl8_2]); (try simp only [hl8_3]); (try simp only [hl9_3]); (try simp only [hl8_47]); (with_reducible repeat (first | apply Kd.R_alloc | apply Kd.R_drewN | apply Kd.R_drew)); exact HO_8.out⟩, ⟨by (try simp only [hl4_1]); (try simp only [hl8_1]); (try simp only [hl8_2]); (try simp only [hl8_3]); (try simp only [hl9_3]); (try simp only [hl8_47]); (with_reducible repeat (first | apply Kd.R_alloc | apply Kd.R_drewN | apply Kd.R_drew)); exact HO_9.out⟩, ⟨by repeat (first | (with_reducible first | exact HK.out | apply Kept.alloc | apply Kept.drewN | apply Kept.drew) | exact HK.out)⟩, ⟨by repeat (first | (with_reducible first | exact HB.out | apply below_alloc | apply pw_below_drewN | apply below_drew1) | exact HB.out)⟩⟩
                              ·
                               rw [if_neg c61] at H
                               exact absurd H (by simp)
                             ·
                              rw [if_neg c60] at H
                              exact absurd H (by simp)
                          ·
                           rw [if_neg c47] at H
                           exact absurd H (by simp)
                         ·
                          rw [if_neg c46] at H
                          exact absurd H (by simp)
                        ·
                         rw [if_neg c45] at H
                         exact absurd H (by simp)
                       ·
                        rw [if_neg c44] at H
                        exact absurd H (by simp)
                      ·
                       rw [if_neg c43] at H
                       exact absurd H (by simp)
                     ·
                      rw [if_neg c42] at H
                      exact absurd H (by simp)
                    ·
                     rw [if_neg c40] at H
                     exact absurd H (by simp)
                   ·
                    rw [if_neg c39] at H
                    exact absurd H (by simp)
                 ·
                  rw [if_neg c35] at H
                  exact absurd H (by simp)
                ·
                 rw [if_neg c34] at H
                 exact absurd H (by simp)
               ·
                rw [if_neg c33] at H
                have c33b0 : decide (x15_3 ≤ (l1.length : Int)) = false := decide_eq_false c33
                (try simp only [hl4_1] at c33b0)
                (try simp only [hl8_1] at c33b0)
                (try simp only [hl8_2] at c33b0)
                (try simp only [hl8_3] at c33b0)
                (try simp only [hl9_3] at c33b0)
                clear c33
                have H' := Aside0.mk H
                clear H
                have hq35_0 := cell_kept HG0.out HK.out HGN.out
                have hq35_1 := cell_kept HG1.out HK.out HGN.out
                have hq35_2 := cell_kept HG2.out HK.out HGN.out
                go_wp2
                try go_step3
                have hq36_0 := cell_kept HG0.out HK.out HGN.out
                have hq36_1 := cell_kept HG1.out HK.out HGN.out
                have hq36_2 := cell_kept HG2.out HK.out HGN.out
                try go_wp2
                try go_step3
                go_loopg [115] k3 (fun kq v115 w' => ∃ (x0_4 : List Int) (x3_4 : List Int) (x8_4 : List Int) (x115_4 : Int), v115 = .int .i64 x115_4 ∧ Aside0 (assign_solved_add.l3 kq x0_4 l1 x3_4 y109 (l1.length : Int) x7_3 x8_4 y120 x13_3 x14_3 (wrap64 ((l1.length : Int) + 1)) x115_4 = some (r1, r2, r3)) ∧ Aside0 (kq ≤ k3) ∧ Aside0 (Kd.R (Kd.int .i64) 3 w' w0.heap.size (fun k_ => ((P0_ k_ ∨ P3_ k_ ∨ P4_ k_) ∨ w.heap.size ≤ k_) ∧ some k_ ≠ (u9001_ : Value).ownBlock ∧ some k_ ≠ ((.slice (some ⟨go7, 0, none⟩) y109.length co7) : Value).ownBlock ∧ some k_ ≠ (v111 : Value).ownBlock ∧ some k_ ≠ ((.slice Ao20 x8_3.length co20) : Value).ownBlock) u9000_ x0_4) ∧ Aside0 (Kd.R (Kd.int .i64) 3 w' w0.heap.size (fun k_ => ((P0_ k_ ∨ P3_ k_ ∨ P4_ k_) ∨ w.heap.size ≤ k_) ∧ some k_ ≠ (u9000_ : Value).ownBlock ∧ some k_ ≠ ((.slice (some ⟨go7, 0, none⟩) y109.length co7) : Value).ownBlock ∧ some k_ ≠ (v111 : Value).ownBlock ∧ some k_ ≠ ((.slice Ao20 x8_3.length co20) : Value).ownBlock) u9001_ x3_4) ∧ Aside0 (Kd.R (Kd.int .i64) 3 w' w0.heap.size (fun k_ => ((P0_ k_ ∨ P3_ k_ ∨ P4_ k_) ∨ w.heap.size ≤ k_) ∧ some k_ ≠ (u9000_ : Value).ownBlock ∧ some k_ ≠ (u9001_ : Value).ownBlock ∧ some k_ ≠ (v111 : Value).ownBlock ∧ some k_ ≠ ((.slice Ao20 x8_3.length co20) : Value).ownBlock) (.slice (some ⟨go7, 0, none⟩) y109.length co7) y109) ∧ Aside0 (Kd.R (Kd.int .i64) 3 w' w0.heap.size (fun k_ => ((P0_ k_ ∨ P3_ k_ ∨ P4_ k_) ∨ w.heap.size ≤ k_) ∧ some k_ ≠ (u9000_ : Value).ownBlock ∧ some k_ ≠ (u9001_ : Value).ownBlock ∧ some k_ ≠ ((.slice (some ⟨go7, 0, none⟩) y109.length co7) : Value).ownBlock ∧ some k_ ≠ ((.slice Ao20 x8_3.length co20) : Value).ownBlock) v111 x7_3) ∧ Aside0 (Kd.R (Kd.int .i64) 3 w' w0.heap.size (fun k_ => ((P0_ k_ ∨ P3_ k_ ∨ P4_ k_) ∨ w.heap.size ≤ k_) ∧ some k_ ≠ (u9000_ : Value).ownBlock ∧ some k_ ≠ (u9001_ : Value).ownBlock ∧ some k_ ≠ ((.slice (some ⟨go7, 0, none⟩) y109.length co7) : Value).ownBlock ∧ some k_ ≠ (v111 : Value).ownBlock) (.slice Ao20 x8_3.length co20) x8_4) ∧ Aside0 (Kd.R Kd.bool 4 w' w0.heap.size (fun k_ => ((P0_ k_ ∨ P3_ k_ ∨ P4_ k_) ∨ w.heap.size ≤ k_)) (.slice (some ⟨go29, 0, none⟩) y120.length co29) y120) ∧ Aside0 (Kept w w' (fun k_ => P0_ k_ ∨ P3_ k_ ∨ P4_ k_)) ∧ Aside0 (Below w0.heap.size w0 w'))
                case atStart => exact ⟨(x0_2), (x3_2), (x8_3), (0), (by first | rfl | (simp; done) | (simp [*]; done)), H', ⟨Nat.le_refl _⟩, ⟨by (try simp only [hl4_1]); (try simp only [hl8_1]); (try simp only [hl8_2]); (try simp only [hl8_3]); (try simp only [hl9_3]); (with_reducible repeat (first | apply Kd.R_alloc | apply Kd.R_drewN | apply Kd.R_drew)); exact HO_0.out⟩, ⟨by (try simp only [hl4_1]); (try simp only [hl8_1]); (try simp only [hl8_2]); (try simp only [hl8_3]); (try simp only [hl9_3]); (with_reducible repeat (first | apply Kd.R_alloc | apply Kd.R_drewN | apply Kd.R_drew)); exact HO_3.out⟩, ⟨by (try simp only [hl4_1]); (try simp only [hl8_1]); (try simp only [hl8_2]); (try simp only [hl8_3]); (try simp only [hl9_3]); (with_reducible repeat (first | apply Kd.R_alloc | apply Kd.R_drewN | apply Kd.R_drew)); exact HO_4.out⟩, ⟨by (try simp only [hl4_1]); (try simp only [hl8_1]); (try simp only [hl8_2]); (try simp only [hl8_3]); (try simp only [hl9_3]); (with_reducible repeat (first | apply Kd.R_alloc | apply Kd.R_drewN | apply Kd.R_drew)); exact HO_7.out⟩, ⟨by (try simp only [hl4_1]); (try simp only [hl8_1]); (try simp only [hl8_2]); (try simp only [hl8_3]); (try simp only [hl9_3]); (with_reducible repeat (first | apply Kd.R_alloc | apply Kd.R_drewN | apply Kd.R_drew)); exact HO_8.out⟩, ⟨by (try simp only [hl4_1]); (try simp only [hl8_1]); (try simp only [hl8_2]); (try simp only [hl8_3]); (try simp only [hl9_3]); (with_reducible repeat (first | apply Kd.R_alloc | apply Kd.R_drewN | apply Kd.R_drew)); exact HO_9.out⟩, ⟨by repeat (first | (with_reducible first | exact HK.out | apply Kept.alloc | apply Kept.drewN | apply Kept.drew) | exact HK.out)⟩, ⟨by repeat (first | (with_reducible first | exact HB.out | apply below_alloc | apply pw_below_drewN | apply below_drew1) | exact HB.out)⟩⟩
                case round =>
                 clear H'
                 try clear c1
                 try clear p1
                 try clear q1
                 try clear hx1
                 try clear c2
                 try clear p2
                 try clear q2
                 try clear hx2
                 try clear c3
                 try clear p3
                 try clear q3
                 try clear c4
                 try clear p4
                 try clear c5
                 try clear p5
                 try clear q5
                 try clear hx5
                 try clear hf5
                 try clear c6
                 try clear c6b0
                 try clear c6b1
                 try clear p6
                 try clear p7
                 try clear q7
                 try clear hx7
                 try clear qi7
                 try clear hf7
                 try clear c9
                 try clear c9b0
                 try clear c9b1
                 try clear c10
                 try clear c10b0
                 try clear c10b1
                 try clear c11
                 try clear c11b0
                 try clear c11b1
                 try clear c12
                 try clear p12
                 try clear q12
                 try clear hx12
                 try clear p13
                 try clear q13
                 try clear hx13
                 try clear c21
                 try clear c21b0
                 try clear c22
                 try clear c22b0
                 try clear c23
                 try clear c23b0
                 try clear p24
                 try clear q24
                 try clear hx24
                 try clear hf24
                 try clear c27
                 try clear c27b0
                 try clear c28
                 try clear c28b0
                 try clear p29
                 try clear q29
                 try clear hx29
                 try clear hf29
                 try clear c30
                 try clear c30b0
                 try clear c31
                 try clear c33
                 try clear c33b0
                 try clear c34
                 try clear c34b0
                 try clear c35
                 try clear c35b0
                 try clear q36
                 try clear c37
                 try clear c39
                 try clear c39b0
                 try clear c40
                 try clear c40b0
                 try clear c42
                 try clear c42b0
                 try clear c43
                 try clear c43b0
                 try clear c44
                 try clear c44b0
                 try clear c45
                 try clear c45b0
                 try clear c46
                 try clear c46b0
                 try clear c47
                 try clear c47b0
                 try clear c52
                 try clear c52b0
                 try clear p53
                 try clear q53
                 try clear hx53
                 try clear hf53
                 try clear c54
                 try clear c54b0
                 try clear p55
                 try clear q55
                 try clear hx55
                 try clear hf55
                 try clear c60
                 try clear c60b0
                 try clear c61
                 try clear c61b0
                 try clear c62
                 try clear c62b0
                 try clear hx121_0
                 try clear hx122_0
                 try clear hx123_0
                 try clear hx124_0
                 try clear hx125_0
                 try clear hx126_0
                 try clear hx127_0
                 try clear hx130_0
                 try clear hx131_0
                 try clear hx24_0
                 try clear hx29_0
                 try clear hx53_0
                 try clear hx55_0
                 try clear hx7_0
                 try clear p1
                 try clear p12
                 try clear p121
                 try clear p122
                 try clear p123
                 try clear p124
                 try clear p125
                 try clear p126
                 try clear p127
                 try clear p130
                 try clear p131
                 try clear p2
                 try clear p24
                 try clear p29
                 try clear p3
                 try clear p4
                 try clear p5
                 try clear p53
                 try clear p55
                 try clear p6
                 try clear p7
                 try clear q1
                 try clear q12
                 try clear q121
                 try clear q122
                 try clear q123
                 try clear q124
                 try clear q125
                 try clear q126
                 try clear q127
                 try clear q130
                 try clear q131
                 try clear q2
                 try clear q24
                 try clear q29
                 try clear q3
                 try clear q36
                 try clear q5
                 try clear q53
                 try clear q55
                 try clear q7
                 obtain ⟨x0_4, x3_4, x8_4, x115_4, rfl, HA, HK4, HO_0, HO_3, HO_4, HO_7, HO_8, HO_9, HK, HB⟩ := hrel
                 have hl8_4 := (Kd.R_reads' HO_8.out).1
                 rw [hl8_4] at HO_8
                 (try simp only [hl8_4])
                 (try simp only [hl8_4] at HO_0)
                 (try simp only [hl8_4] at HO_3)
                 (try simp only [hl8_4] at HO_4)
                 (try simp only [hl8_4] at HO_7)
                 (try simp only [hl8_4] at HO_9)
                 cases gk with
                 | zero => exact absurd HA.out (by simp [assign_solved_add.l3])
                 | succ k4 =>
                  have H := HA.out
                  clear HA
                  simp only [assign_solved_add.l3] at H
                  by_cases c63 : x115_4 < (wrap64 ((l1.length : Int) + 1))
                  ·
                   rw [if_pos c63] at H
                   have c63b0 : decide (x115_4 < (wrap64 ((l1.length : Int) + 1))) = true := decide_eq_true c63
                   (try simp only [hl4_1] at c63b0)
                   (try simp only [hl8_1] at c63b0)
                   (try simp only [hl8_2] at c63b0)
                   (try simp only [hl8_3] at c63b0)
                   (try simp only [hl9_3] at c63b0)
                   (try simp only [hl8_4] at c63b0)
                   (try simp only [hji8] at c63b0)
                   clear c63
                   by_cases c64 : 0 ≤ x115_4
                   ·
                    rw [if_pos c64] at H
                    have c64b0 : decide (0 ≤ x115_4) = true := decide_eq_true c64
                    clear c64
                    by_cases c65 : x115_4 < (y120.length : Int)
                    ·
                     rw [if_pos c65] at H
                     have c65b0 : decide (x115_4 < (y120.length : Int)) = true := decide_eq_true c65
                     (try simp only [hl4_1] at c65b0)
                     (try simp only [hl8_1] at c65b0)
                     (try simp only [hl8_2] at c65b0)
                     (try simp only [hl8_3] at c65b0)
                     (try simp only [hl9_3] at c65b0)
                     (try simp only [hl8_4] at c65b0)
                     clear c65
                     obtain ⟨bq66, hbq66⟩ : ∃ b_ : Bool, b_ = (rdOf false y120 x115_4) := ⟨_, rfl⟩
                     replace H : (if bq66 = true then (if x115_4 < (y109.length : Int) then (if 0 ≤ (rd y109 x115_4) then (if (rd y109 x115_4) < (x0_4.length : Int) then (if x115_4 < (x3_4.length : Int) then (assign_solved_add.l3 k4 (x0_4.set ((rd y109 x115_4) : Int).toNat (wrap64 ((rd x0_4 (rd y109 x115_4)) + x14_3))) l1 (x3_4.set (x115_4 : Int).toNat (wrap64 ((rd x3_4 x115_4) - x14_3))) y109 (l1.length : Int) x7_3 x8_4 y120 x13_3 x14_3 (wrap64 ((l1.length : Int) + 1)) (wrap64 (x115_4 + 1))) else (none)) else (none)) else (none)) else (none)) else (if x115_4 < (x8_4.length : Int) then (assign_solved_add.l3 k4 x0_4 l1 x3_4 y109 (l1.length : Int) x7_3 (x8_4.set (x115_4 : Int).toNat (wrap64 ((rd x8_4 x115_4) - x14_3))) y120 x13_3 x14_3 (wrap64 ((l1.length : Int) + 1)) (wrap64 (x115_4 + 1))) else (none))) = some (r1, r2, r3) := by rw [← hbq66] at H; exact H
                     have Nbq66 := Aside0.mk hbq66
                     clear hbq66
                     by_cases c67 : bq66 = true
                     ·
                      subst c67
                      have H1 : (if x115_4 < (y109.length : Int) then (if 0 ≤ (rd y109 x115_4) then (if (rd y109 x115_4) < (x0_4.length : Int) then (if x115_4 < (x3_4.length : Int) then (assign_solved_add.l3 k4 (x0_4.set ((rd y109 x115_4) : Int).toNat (wrap64 ((rd x0_4 (rd y109 x115_4)) + x14_3))) l1 (x3_4.set (x115_4 : Int).toNat (wrap64 ((rd x3_4 x115_4) - x14_3))) y109 (l1.length : Int) x7_3 x8_4 y120 x13_3 x14_3 (wrap64 ((l1.length : Int) + 1)) (wrap64 (x115_4 + 1))) else (none)) else (none)) else (none)) else (none)) = some (r1, r2, r3) := by rw [if_pos rfl] at H; exact H
                      clear H
                      have H := H1
                      clear H1
                      by_cases c68 : x115_4 < (y109.length : Int)
                      ·
                       rw [if_pos c68] at H
                       have c68b0 : decide (x115_4 < (y109.length : Int)) = true := decide_eq_true c68
                       (try simp only [hl4_1] at c68b0)
                       (try simp only [hl8_1] at c68b0)
                       (try simp only [hl8_2] at c68b0)
                       (try simp only [hl8_3] at c68b0)
                       (try simp only [hl9_3] at c68b0)
                       (try simp only [hl8_4] at c68b0)
                       clear c68
                       by_cases c69 : 0 ≤ (rd y109 x115_4)
                       ·
                        rw [if_pos c69] at H
                        have c69b0 : decide (0 ≤ (rd y109 x115_4)) = true := decide_eq_true c69
                        clear c69
                        by_cases c70 : (rd y109 x115_4) < (x0_4.length : Int)
                        ·
                         rw [if_pos c70] at H
                         have c70b0 : decide ((rd y109 x115_4) < (x0_4.length : Int)) = true := decide_eq_true c70
                         (try simp only [hl4_1] at c70b0)
                         (try simp only [hl8_1] at c70b0)
                         (try simp only [hl8_2] at c70b0)
                         (try simp only [hl8_3] at c70b0)
                         (try simp only [hl9_3] at c70b0)
                         (try simp only [hl8_4] at c70b0)
                         clear c70
                         obtain ⟨y135, hy135⟩ : ∃ y_ : List Int, y_ = (x0_4.set ((rd y109 x115_4) : Int).toNat (wrap64 ((rd x0_4 (rd y109 x115_4)) + x14_3))) := ⟨_, rfl⟩
                         replace H : (if x115_4 < (x3_4.length : Int) then (assign_solved_add.l3 k4 y135 l1 (x3_4.set (x115_4 : Int).toNat (wrap64 ((rd x3_4 x115_4) - x14_3))) y109 (l1.length : Int) x7_3 x8_4 y120 x13_3 x14_3 (wrap64 ((l1.length : Int) + 1)) (wrap64 (x115_4 + 1))) else (none)) = some (r1, r2, r3) := by first | (rw [hy135]; with_reducible exact H) | (have H2_ := (Option.bind_some _ _).symm.trans H; rw [hy135]; with_reducible exact H2_) | (have H2_ := (Option.bind_some _ _).symm.trans H; with_reducible exact H2_) | with_reducible exact H | (rw [hy135]; exact H) | exact H
                         have Ny135 := Aside0.mk hy135
                         clear hy135
                         by_cases c72 : x115_4 < (x3_4.length : Int)
                         ·
                          rw [if_pos c72] at H
                          have c72b0 : decide (x115_4 < (x3_4.length : Int)) = true := decide_eq_true c72
                          (try simp only [hl4_1] at c72b0)
                          (try simp only [hl8_1] at c72b0)
                          (try simp only [hl8_2] at c72b0)
                          (try simp only [hl8_3] at c72b0)
                          (try simp only [hl9_3] at c72b0)
                          (try simp only [hl8_4] at c72b0)
                          clear c72
                          obtain ⟨y137, hy137⟩ : ∃ y_ : List Int, y_ = (x3_4.set (x115_4 : Int).toNat (wrap64 ((rd x3_4 x115_4) - x14_3))) := ⟨_, rfl⟩
                          replace H : (assign_solved_add.l3 k4 y135 l1 y137 y109 (l1.length : Int) x7_3 x8_4 y120 x13_3 x14_3 (wrap64 ((l1.length : Int) + 1)) (wrap64 (x115_4 + 1))) = some (r1, r2, r3) := by first | (rw [hy137]; with_reducible exact H) | (have H2_ := (Option.bind_some _ _).symm.trans H; rw [hy137]; with_reducible exact H2_) | (have H2_ := (Option.bind_some _ _).symm.trans H; with_reducible exact H2_) | with_reducible exact H | (rw [hy137]; exact H) | exact H
                          have Ny137 := Aside0.mk hy137
                          clear hy137
                          have H' := Aside0.mk H
                          clear H
                          have p132 : 0 ≤ (x115_4 : Int) := of_decide_eq_true (by first | (with_reducible assumption) | assumption)
                          have q132 : x115_4 < (y120.length : Int) := of_decide_eq_true (by first | (with_reducible assumption) | assumption)
                          obtain ⟨ad132, e132, hx132_0⟩ := Kd.at_bool (Kd.R_reads' HO_9.out).2.2 x115_4 p132 q132
                          (try rw [← Nbq66.out] at hx132_0)
                          obtain rfl : (⟨go29, 0, none⟩ : Addr) = ad132 := (by injection e132)
                          (first | simp only [add_plain] at hx132_0 | simp only [add_at] at hx132_0 | simp only [Addr.add, Nat.zero_add] at hx132_0 | skip)
                          replace p132 := eq_true p132
                          replace q132 := eq_true q132
                          have hq37_0 := cell_kept HG0.out HK.out HGN.out
                          have hq37_1 := cell_kept HG1.out HK.out HGN.out
                          have hq37_2 := cell_kept HG2.out HK.out HGN.out
                          try go_wp2
                          have n0_ := Aside0.mk (Kd.R_drew HO_0.out)
                          have n1_ := Aside0.mk (Kd.R_drew HO_3.out)
                          have n2_ := Aside0.mk (Kd.R_drew HO_4.out)
                          have n3_ := Aside0.mk (Kd.R_drew HO_7.out)
                          have n4_ := Aside0.mk (Kd.R_drew HO_8.out)
                          have n5_ := Aside0.mk (Kd.R_drew HO_9.out)
                          have n6_ := Aside0.mk (Kept.drew HK.out)
                          have n7_ := Aside0.mk (below_drew1 HB.out)
                          clear HO_0
                          clear HO_3
                          clear HO_4
                          clear HO_7
                          clear HO_8
                          clear HO_9
                          clear HK
                          clear HB
                          have HO_0 := n0_
                          have HO_3 := n1_
                          have HO_4 := n2_
                          have HO_7 := n3_
                          have HO_8 := n4_
                          have HO_9 := n5_
                          have HK := n6_
                          have hq38_0 := cell_kept HG0.out HK.out HGN.out
                          have hq38_1 := cell_kept HG1.out HK.out HGN.out
                          have hq38_2 := cell_kept HG2.out HK.out HGN.out
                          have HB := n7_
                          clear n0_ n1_ n2_ n3_ n4_ n5_ n6_ n7_
                          have p133 : 0 ≤ (x115_4 : Int) := of_decide_eq_true (by first | (with_reducible assumption) | assumption)
                          have q133 : x115_4 < (y109.length : Int) := of_decide_eq_true (by first | (with_reducible assumption) | assumption)
                          obtain ⟨ad133, e133, hx133_0⟩ := Kd.at_int (Kd.R_reads' HO_4.out).2.2 x115_4 p133 q133
                          obtain rfl : (⟨go7, 0, none⟩ : Addr) = ad133 := (by injection e133)
                          (first | simp only [add_plain] at hx133_0 | simp only [add_at] at hx133_0 | simp only [Addr.add, Nat.zero_add] at hx133_0 | skip)
                          replace p133 := eq_true p133
                          replace q133 := eq_true q133
                          obtain ⟨Ao75, co75, eo75⟩ := Kd.R_slice HO_0.out
                          (first | subst eo75 | (injection eo75 with f1_ f2_ f3_; have f4_ := f1_.symm; have f5_ := f3_.symm; clear f1_ f2_ f3_; subst f4_; subst f5_))
                          have p134 : 0 ≤ ((rd y109 x115_4) : Int) := of_decide_eq_true (by first | (with_reducible assumption) | assumption)
                          have q134 : (rd y109 x115_4) < (x0_4.length : Int) := of_decide_eq_true (by first | (with_reducible assumption) | assumption)
                          obtain ⟨ad134, e134, hx134_0⟩ := Kd.at_int (Kd.R_reads' HO_0.out).2.2 (rd y109 x115_4) p134 q134
                          cases e134
                          replace p134 := eq_true p134
                          replace q134 := eq_true q134
                          have p71 : 0 ≤ ((rd y109 x115_4) : Int) := of_decide_eq_true (by first | (with_reducible assumption) | assumption)
                          have q71 : ((rd y109 x115_4) : Int) < ((x0_4.length : Int) : Int) := of_decide_eq_true (by first | (with_reducible assumption) | assumption)
                          obtain ⟨go71, co71, eo71, gb71, gl71, cl71, HG71⟩ := Kd.R_form HO_0.out (by omega)
                          (first | cases eo71 | (injection eo71 with ea_ en_ ec_; (first | subst ea_ | (injection ea_ with ea_; subst ea_)); subst ec_; clear en_))
                          have GB71 := Aside0.mk gb71
                          have GG71 := Aside0.mk HG71
                          clear gb71 gl71 HG71
                          have HMgo71 := Aside0.mk (show ((P0_ go71 ∨ P3_ go71 ∨ P4_ go71) ∨ w.heap.size ≤ go71) from (HO_0.out.1 _ rfl).1)
                          (first | simp only [add_plain] at hx134_0 | skip)
                          obtain ⟨hx71_0, hf71_0⟩ := Kd.R_celln 0 HO_0.out ((rd y109 x115_4) : Int) p71 q71
                          replace p71 := eq_true p71
                          replace q71 := eq_true q71
                          have HP76 := Kd.R_putn HO_0.out ((rd y109 x115_4) : Int) (wrap64 ((rd x0_4 (rd y109 x115_4)) + x14_3))
                          rw [← Ny135.out] at HP76
                          have HQ76 := Aside0.mk HP76
                          clear HP76
                          have hq39_0 := cell_kept HG0.out HK.out HGN.out
                          have hq39_1 := cell_kept HG1.out HK.out HGN.out
                          have hq39_2 := cell_kept HG2.out HK.out HGN.out
                          refine start_ (n := 17) (S := fun w' => w'.cell? ⟨go7, (x115_4).toNat, none⟩ = some (.int .i64 (rd y109 x115_4)) ∧ w'.cell? ⟨go71, ((rd y109 x115_4)).toNat, none⟩ = some (.int .i64 (rd x0_4 (rd y109 x115_4))) ∧ w'.cell? ⟨g, 0, none⟩ = _ ∧ w'.cell? ⟨g, 1, none⟩ = _ ∧ w'.cell? ⟨g, 2, none⟩ = _) (ds := [16]) #[false, false, false, false, false, false, false, false, false, false, false, false, false, false, false, false, false] (by kernel_rfl) rfl rfl ⟨hx133_0, hx134_0, hq39_0, hq39_1, hq39_2⟩ (fun hHeld => ?_); refine with_tabW assign_solved_add.tab26 assign_solved_add.bits26 (fun HT_ HW_ => ?_)
                          generalize wr.drew = w74 at HO_0 HO_3 HO_4 HO_7 HO_8 HO_9 HK HB GG71 HQ76 hf71_0 hx133_0 hx134_0 hx71_0 hHeld hq39_0 hq39_1 hq39_2 ⊢
                          refine pure_ (i := 0) (N := some 122) (v := ?_) (a' := ?_) #[true, false, false, false, false, false, false, false, false, false, false, false, false, false, false, false, false] rfl rfl (any_of HT_.out (by kernel_rfl)) (fun _ _ _ h => h) (Or.inl ⟨by rfl, ?_⟩) ?_ ?_
                          rotate_left
                          ·
                           intro w'
                           go_simp
                           with_reducible rfl
                          rotate_left
                          ·
                           simp only [Act.put, List.setIfInBounds_toArray, List.set_cons_zero, List.set_cons_succ, i64_w, i32_w]
                           rfl
                          refine pure_ (i := 1) (N := some 123) (v := ?_) (a' := ?_) #[true, true, false, false, false, false, false, false, false, false, false, false, false, false, false, false, false] rfl rfl (any_of HT_.out (by kernel_rfl)) (fun _ _ _ h => h) (Or.inl ⟨by rfl, ?_⟩) ?_ ?_
                          rotate_left
                          ·
                           intro w'
                           go_simp
                           with_reducible rfl
                          rotate_left
                          ·
                           simp only [Act.put, List.setIfInBounds_toArray, List.set_cons_zero, List.set_cons_succ, i64_w, i32_w]
                           rfl
                          refine pure_ (i := 2) (N := some 124) (v := ?_) (a' := ?_) #[true, true, true, false, false, false, false, false, false, false, false, false, false, false, false, false, false] rfl rfl (any_of HT_.out (by kernel_rfl)) (fun _ _ _ h => h) (Or.inl ⟨by rfl, ?_⟩) ?_ ?_
                          rotate_left
                          ·
                           intro w'
                           go_simp
                           with_reducible rfl
                          rotate_left
                          ·
                           simp only [Act.put, List.setIfInBounds_toArray, List.set_cons_zero, List.set_cons_succ, i64_w, i32_w]
                           rfl
                          refine take_ (i := 3) (N := some 125) (v := ?_) (a' := ?_) #[true, true, true, true, false, false, false, false, false, false, false, false, false, false, false, false, false] rfl rfl (take_ofW HT_.out HW_.out (by kernel_rfl)) (fun _ _ _ h => h) (Or.inl ⟨by rfl, ?_⟩) hHeld ?_ ?_
                          rotate_left
                          ·
                           rintro w' ⟨s0, s1, sq0, sq1, sq2⟩
                           go_simp
                           with_reducible rfl
                          rotate_left
                          ·
                           simp only [Act.put, List.setIfInBounds_toArray, List.set_cons_zero, List.set_cons_succ, i64_w, i32_w]
                           rfl
                          refine pure_ (i := 4) (N := some 126) (v := ?_) (a' := ?_) #[true, true, true, true, true, false, false, false, false, false, false, false, false, false, false, false, false] rfl rfl (any_of HT_.out (by kernel_rfl)) (fun _ _ _ h => h) (Or.inl ⟨by rfl, ?_⟩) ?_ ?_
                          rotate_left
                          ·
                           intro w'
                           go_simp
                           with_reducible rfl
                          rotate_left
                          ·
                           simp only [Act.put, List.setIfInBounds_toArray, List.set_cons_zero, List.set_cons_succ, i64_w, i32_w]
                           rfl
                          refine pure_ (i := 5) (N := some 127) (v := ?_) (a' := ?_) #[true, true, true, true, true, true, false, false, false, false, false, false, false, false, false, false, false] rfl rfl (any_of HT_.out (by kernel_rfl)) (fun _ _ _ h => h) (Or.inl ⟨by rfl, ?_⟩) ?_ ?_
                          rotate_left
                          ·
                           intro w'
                           go_simp
                           with_reducible rfl
                          rotate_left
                          ·
                           simp only [Act.put, List.setIfInBounds_toArray, List.set_cons_zero, List.set_cons_succ, i64_w, i32_w]
                           rfl
                          refine pure_ (i := 6) (N := some 128) (v := ?_) (a' := ?_) #[true, true, true, true, true, true, true, false, false, false, false, false, false, false, false, false, false] rfl rfl (any_of HT_.out (by kernel_rfl)) (fun _ _ _ h => h) (Or.inl ⟨by rfl, ?_⟩) ?_ ?_
                          rotate_left
                          ·
                           intro w'
                           go_simp
                           with_reducible rfl
                          rotate_left
                          ·
                           simp only [Act.put, List.setIfInBounds_toArray, List.set_cons_zero, List.set_cons_succ, i64_w, i32_w]
                           rfl
                          refine take_ (i := 7) (N := some 129) (v := ?_) (a' := ?_) #[true, true, true, true, true, true, true, true, false, false, false, false, false, false, false, false, false] rfl rfl (take_ofW HT_.out HW_.out (by kernel_rfl)) (fun _ _ _ h => h) (Or.inl ⟨by rfl, ?_⟩) hHeld ?_ ?_
                          rotate_left
                          ·
                           rintro w' ⟨s0, s1, sq0, sq1, sq2⟩
                           go_simp
                           with_reducible rfl
                          rotate_left
                          ·
                           simp only [Act.put, List.setIfInBounds_toArray, List.set_cons_zero, List.set_cons_succ, i64_w, i32_w]
                           rfl
                          refine pure_ (i := 8) (N := some 130) (v := ?_) (a' := ?_) #[true, true, true, true, true, true, true, true, true, false, false, false, false, false, false, false, false] rfl rfl (any_of HT_.out (by kernel_rfl)) (fun _ _ _ h => h) (Or.inl ⟨by rfl, ?_⟩) ?_ ?_
                          rotate_left
                          ·
                           intro w'
                           go_simp
                           with_reducible rfl
                          rotate_left
                          ·
                           simp only [Act.put, List.setIfInBounds_toArray, List.set_cons_zero, List.set_cons_succ, i64_w, i32_w]
                           rfl
                          refine pure_ (i := 9) (N := some 131) (v := ?_) (a' := ?_) #[true, true, true, true, true, true, true, true, true, true, false, false, false, false, false, false, false] rfl rfl (any_of HT_.out (by kernel_rfl)) (fun _ _ _ h => h) (Or.inl ⟨by rfl, ?_⟩) ?_ ?_
                          rotate_left
                          ·
                           intro w'
                           go_simp
                           with_reducible rfl
                          rotate_left
                          ·
                           simp only [Act.put, List.setIfInBounds_toArray, List.set_cons_zero, List.set_cons_succ, i64_w, i32_w]
                           rfl
                          refine pure_ (i := 13) (N := some 135) (v := ?_) (a' := ?_) #[true, true, true, true, true, true, true, true, true, true, false, false, false, true, false, false, false] rfl rfl (any_of HT_.out (by kernel_rfl)) (fun _ _ _ h => h) (Or.inl ⟨by rfl, ?_⟩) ?_ ?_
                          rotate_left
                          ·
                           intro w'
                           go_simp
                           with_reducible rfl
                          rotate_left
                          ·
                           simp only [Act.put, List.setIfInBounds_toArray, List.set_cons_zero, List.set_cons_succ, i64_w, i32_w]
                           rfl
                          refine take_ (i := 10) (N := some 132) (v := ?_) (a' := ?_) #[true, true, true, true, true, true, true, true, true, true, true, false, false, true, false, false, false] rfl rfl (take_ofW HT_.out HW_.out (by kernel_rfl)) (fun _ _ _ h => h) (Or.inl ⟨by rfl, ?_⟩) hHeld ?_ ?_
                          rotate_left
                          ·
                           rintro w' ⟨s0, s1, sq0, sq1, sq2⟩
                           go_simp
                           with_reducible rfl
                          rotate_left
                          ·
                           simp only [Act.put, List.setIfInBounds_toArray, List.set_cons_zero, List.set_cons_succ, i64_w, i32_w]
                           rfl
                          refine pure_ (i := 11) (N := some 133) (v := ?_) (a' := ?_) #[true, true, true, true, true, true, true, true, true, true, true, true, false, true, false, false, false] rfl rfl (any_of HT_.out (by kernel_rfl)) (fun _ _ _ h => h) (Or.inl ⟨by rfl, ?_⟩) ?_ ?_
                          rotate_left
                          ·
                           intro w'
                           go_simp
                           with_reducible rfl
                          rotate_left
                          ·
                           simp only [Act.put, List.setIfInBounds_toArray, List.set_cons_zero, List.set_cons_succ, i64_w, i32_w]
                           rfl
                          refine take_ (i := 12) (N := some 134) (v := ?_) (a' := ?_) #[true, true, true, true, true, true, true, true, true, true, true, true, true, true, false, false, false] rfl rfl (take_ofW HT_.out HW_.out (by kernel_rfl)) (fun _ _ _ h => h) (Or.inl ⟨by rfl, ?_⟩) hHeld ?_ ?_
                          rotate_left
                          ·
                           rintro w' ⟨s0, s1, sq0, sq1, sq2⟩
                           go_simp
                           with_reducible rfl
                          rotate_left
                          ·
                           simp only [Act.put, List.setIfInBounds_toArray, List.set_cons_zero, List.set_cons_succ, i64_w, i32_w]
                           rfl
                          refine pure_ (i := 14) (N := some 136) (v := ?_) (a' := ?_) #[true, true, true, true, true, true, true, true, true, true, true, true, true, true, true, false, false] rfl rfl (any_of HT_.out (by kernel_rfl)) (fun _ _ _ h => h) (Or.inl ⟨by rfl, ?_⟩) ?_ ?_
                          rotate_left
                          ·
                           intro w'
                           go_simp
                           with_reducible rfl
                          rotate_left
                          ·
                           simp only [Act.put, List.setIfInBounds_toArray, List.set_cons_zero, List.set_cons_succ, i64_w, i32_w]
                           rfl
                          refine pure_ (i := 15) (N := some 137) (v := ?_) (a' := ?_) #[true, true, true, true, true, true, true, true, true, true, true, true, true, true, true, true, false] rfl rfl (any_of HT_.out (by kernel_rfl)) (fun _ _ _ h => h) (Or.inl ⟨by rfl, ?_⟩) ?_ ?_
                          rotate_left
                          ·
                           intro w'
                           go_simp
                           with_reducible rfl
                          rotate_left
                          ·
                           simp only [Act.put, List.setIfInBounds_toArray, List.set_cons_zero, List.set_cons_succ, i64_w, i32_w]
                           rfl
                          refine last_ (i := 16) (N := none) #[true, true, true, true, true, true, true, true, true, true, true, true, true, true, true, true, true] rfl rfl (one_of HT_.out (by kernel_rfl)) (by decide) (fun K hK => ?_)
                          refine skip_ (w1 := ?_) (by rfl) rfl ?_ ?_
                          rotate_left
                          ·
                           go_simp
                           rfl
                          refine hK.out _ _ ?_
                          clear hK K
                          refine done_ (done_of HT_.out (by kernel_rfl)) ?_
                          have n0_ : Aside0 (Kd.R (Kd.int .i64) 3 (w74.setCell ⟨go71, ((rd y109 x115_4) : Int).toNat, none⟩ (.int .i64 (wrap64 ((rd x0_4 (rd y109 x115_4)) + x14_3)))) w0.heap.size (fun k_ => ((P0_ k_ ∨ P3_ k_ ∨ P4_ k_) ∨ w.heap.size ≤ k_) ∧ some k_ ≠ (u9001_ : Value).ownBlock ∧ some k_ ≠ (.slice (some ⟨go7, 0, none⟩) y109.length co7 : Value).ownBlock ∧ some k_ ≠ (v111 : Value).ownBlock ∧ some k_ ≠ (.slice Ao20 x8_4.length co20 : Value).ownBlock) (.slice (some ⟨go71, 0, none⟩) x0_4.length co75) y135) := ⟨by (with_reducible repeat (first | apply Kd.R_alloc | apply Kd.R_drewN | apply Kd.R_drew)); exact HQ76.out⟩
                          have n1_ : Aside0 (Kd.R (Kd.int .i64) 3 (w74.setCell ⟨go71, ((rd y109 x115_4) : Int).toNat, none⟩ (.int .i64 (wrap64 ((rd x0_4 (rd y109 x115_4)) + x14_3)))) w0.heap.size (fun k_ => ((P0_ k_ ∨ P3_ k_ ∨ P4_ k_) ∨ w.heap.size ≤ k_) ∧ some k_ ≠ (.slice (some ⟨go71, 0, none⟩) x0_4.length co75 : Value).ownBlock ∧ some k_ ≠ (.slice (some ⟨go7, 0, none⟩) y109.length co7 : Value).ownBlock ∧ some k_ ≠ (v111 : Value).ownBlock ∧ some k_ ≠ (.slice Ao20 x8_4.length co20 : Value).ownBlock) u9001_ x3_4) := ⟨by (with_reducible repeat (first | apply Kd.R_alloc | apply Kd.R_drewN | apply Kd.R_drew)); exact Kd.R_mono (Kd.R_far (p := ⟨go71, ((rd y109 x115_4) : Int).toNat, none⟩) (Kd.R_mono HO_3.out (fun k_ hk => (⟨hk, fun e_ => hk.2.1 (by rw [e_]; rfl)⟩ : _ ∧ k_ ≠ go71))) (fun _ hk => hk.2) (.int .i64 (wrap64 ((rd x0_4 (rd y109 x115_4)) + x14_3)))) (fun _ hk => ⟨hk.1.1, ⟨hk.1.2.1, ⟨hk.1.2.2.1, ⟨hk.1.2.2.2.1, hk.1.2.2.2.2⟩⟩⟩⟩)⟩
                          have n2_ : Aside0 (Kd.R (Kd.int .i64) 3 (w74.setCell ⟨go71, ((rd y109 x115_4) : Int).toNat, none⟩ (.int .i64 (wrap64 ((rd x0_4 (rd y109 x115_4)) + x14_3)))) w0.heap.size (fun k_ => ((P0_ k_ ∨ P3_ k_ ∨ P4_ k_) ∨ w.heap.size ≤ k_) ∧ some k_ ≠ (.slice (some ⟨go71, 0, none⟩) x0_4.length co75 : Value).ownBlock ∧ some k_ ≠ (u9001_ : Value).ownBlock ∧ some k_ ≠ (v111 : Value).ownBlock ∧ some k_ ≠ (.slice Ao20 x8_4.length co20 : Value).ownBlock) (.slice (some ⟨go7, 0, none⟩) y109.length co7) y109) := ⟨by (with_reducible repeat (first | apply Kd.R_alloc | apply Kd.R_drewN | apply Kd.R_drew)); exact Kd.R_mono (Kd.R_far (p := ⟨go71, ((rd y109 x115_4) : Int).toNat, none⟩) (Kd.R_mono HO_4.out (fun k_ hk => (⟨hk, fun e_ => hk.2.1 (by rw [e_]; rfl)⟩ : _ ∧ k_ ≠ go71))) (fun _ hk => hk.2) (.int .i64 (wrap64 ((rd x0_4 (rd y109 x115_4)) + x14_3)))) (fun _ hk => ⟨hk.1.1, ⟨hk.1.2.1, ⟨hk.1.2.2.1, ⟨hk.1.2.2.2.1, hk.1.2.2.2.2⟩⟩⟩⟩)⟩
                          have n3_ : Aside0 (Kd.R (Kd.int .i64) 3 (w74.setCell ⟨go71, ((rd y109 x115_4) : Int).toNat, none⟩ (.int .i64 (wrap64 ((rd x0_4 (rd y109 x115_4)) + x14_3)))) w0.heap.size (fun k_ => ((P0_ k_ ∨ P3_ k_ ∨ P4_ k_) ∨ w.heap.size ≤ k_) ∧ some k_ ≠ (.slice (some ⟨go71, 0, none⟩) x0_4.length co75 : Value).ownBlock ∧ some k_ ≠ (u9001_ : Value).ownBlock ∧ some k_ ≠ (.slice (some ⟨go7, 0, none⟩) y109.length co7 : Value).ownBlock ∧ some k_ ≠ (.slice Ao20 x8_4.length co20 : Value).ownBlock) v111 x7_3) := ⟨by (with_reducible repeat (first | apply Kd.R_alloc | apply Kd.R_drewN | apply Kd.R_drew)); exact Kd.R_mono (Kd.R_far (p := ⟨go71, ((rd y109 x115_4) : Int).toNat, none⟩) (Kd.R_mono HO_7.out (fun k_ hk => (⟨hk, fun e_ => hk.2.1 (by rw [e_]; rfl)⟩ : _ ∧ k_ ≠ go71))) (fun _ hk => hk.2) (.int .i64 (wrap64 ((rd x0_4 (rd y109 x115_4)) + x14_3)))) (fun _ hk => ⟨hk.1.1, ⟨hk.1.2.1, ⟨hk.1.2.2.1, ⟨hk.1.2.2.2.1, hk.1.2.2.2.2⟩⟩⟩⟩)⟩
                          have n4_ : Aside0 (Kd.R (Kd.int .i64) 3 (w74.setCell ⟨go71, ((rd y109 x115_4) : Int).toNat, none⟩ (.int .i64 (wrap64 ((rd x0_4 (rd y109 x115_4)) + x14_3)))) w0.heap.size (fun k_ => ((P0_ k_ ∨ P3_ k_ ∨ P4_ k_) ∨ w.heap.size ≤ k_) ∧ some k_ ≠ (.slice (some ⟨go71, 0, none⟩) x0_4.length co75 : Value).ownBlock ∧ some k_ ≠ (u9001_ : Value).ownBlock ∧ some k_ ≠ (.slice (some ⟨go7, 0, none⟩) y109.length co7 : Value).ownBlock ∧ some k_ ≠ (v111 : Value).ownBlock) (.slice Ao20 x8_4.length co20) x8_4) := ⟨by (with_reducible repeat (first | apply Kd.R_alloc | apply Kd.R_drewN | apply Kd.R_drew)); exact Kd.R_mono (Kd.R_far (p := ⟨go71, ((rd y109 x115_4) : Int).toNat, none⟩) (Kd.R_mono HO_8.out (fun k_ hk => (⟨hk, fun e_ => hk.2.1 (by rw [e_]; rfl)⟩ : _ ∧ k_ ≠ go71))) (fun _ hk => hk.2) (.int .i64 (wrap64 ((rd x0_4 (rd y109 x115_4)) + x14_3)))) (fun _ hk => ⟨hk.1.1, ⟨hk.1.2.1, ⟨hk.1.2.2.1, ⟨hk.1.2.2.2.1, hk.1.2.2.2.2⟩⟩⟩⟩)⟩
                          have n5_ : Aside0 (Kd.R Kd.bool 4 (w74.setCell ⟨go71, ((rd y109 x115_4) : Int).toNat, none⟩ (.int .i64 (wrap64 ((rd x0_4 (rd y109 x115_4)) + x14_3)))) w0.heap.size (fun k_ => ((P0_ k_ ∨ P3_ k_ ∨ P4_ k_) ∨ w.heap.size ≤ k_)) (.slice (some ⟨go29, 0, none⟩) y120.length co29) y120) := ⟨by (with_reducible repeat (first | apply Kd.R_alloc | apply Kd.R_drewN | apply Kd.R_drew)); exact Kd.R_mono (Kd.R_far (p := ⟨go71, ((rd y109 x115_4) : Int).toNat, none⟩) (Kd.R_types HO_9.out GG71.out (by decide)) (fun _ hk => hk.2) (.int .i64 (wrap64 ((rd x0_4 (rd y109 x115_4)) + x14_3)))) (fun _ hk => hk.1)⟩
                          have n6_ : Aside0 (Kept w (w74.setCell ⟨go71, ((rd y109 x115_4) : Int).toNat, none⟩ (.int .i64 (wrap64 ((rd x0_4 (rd y109 x115_4)) + x14_3)))) (fun k_ => P0_ k_ ∨ P3_ k_ ∨ P4_ k_)) := ⟨by repeat (first | (with_reducible first | exact HK.out | apply Kept.alloc | apply Kept.drewN | apply Kept.drew | refine Kept.setCell ?_ HMgo71.out _) | exact HK.out)⟩
                          have n7_ : Aside0 (Below w0.heap.size w0 (w74.setCell ⟨go71, ((rd y109 x115_4) : Int).toNat, none⟩ (.int .i64 (wrap64 ((rd x0_4 (rd y109 x115_4)) + x14_3))))) := ⟨by repeat (first | (with_reducible first | exact HB.out | apply below_alloc | apply pw_below_drewN | apply below_drew1 | refine below_set ?_ GB71.out) | exact HB.out)⟩
                          (try clear HO_0)
                          (try clear HO_3)
                          (try clear HO_4)
                          (try clear HO_7)
                          (try clear HO_8)
                          (try clear HO_9)
                          (try clear HK)
                          (try clear HB)
                          generalize (w74.setCell ⟨go71, ((rd y109 x115_4) : Int).toNat, none⟩ (.int .i64 (wrap64 ((rd x0_4 (rd y109 x115_4)) + x14_3)))) = w77 at n0_ n1_ n2_ n3_ n4_ n5_ n6_ n7_ hq39_0 hq39_1 hq39_2 ⊢
                          have HO_0 := n0_
                          have HO_3 := n1_
                          have HO_4 := n2_
                          have HO_7 := n3_
                          have HO_8 := n4_
                          have HO_9 := n5_
                          have HK := n6_
                          have hq40_0 := cell_kept HG0.out HK.out HGN.out
                          have hq40_1 := cell_kept HG1.out HK.out HGN.out
                          have hq40_2 := cell_kept HG2.out HK.out HGN.out
                          have HB := n7_
                          clear n0_ n1_ n2_ n3_ n4_ n5_ n6_ n7_
                          obtain ⟨Ao78, co78, eo78⟩ := Kd.R_slice HO_3.out
                          subst eo78
                          have p136 : 0 ≤ (x115_4 : Int) := of_decide_eq_true (by first | (with_reducible assumption) | assumption)
                          have q136 : x115_4 < (x3_4.length : Int) := of_decide_eq_true (by first | (with_reducible assumption) | assumption)
                          obtain ⟨ad136, e136, hx136_0⟩ := Kd.at_int (Kd.R_reads' HO_3.out).2.2 x115_4 p136 q136
                          cases e136
                          replace p136 := eq_true p136
                          replace q136 := eq_true q136
                          have p73 : 0 ≤ (x115_4 : Int) := of_decide_eq_true (by first | (with_reducible assumption) | assumption)
                          have q73 : (x115_4 : Int) < ((x3_4.length : Int) : Int) := of_decide_eq_true (by first | (with_reducible assumption) | assumption)
                          obtain ⟨go73, co73, eo73, gb73, gl73, cl73, HG73⟩ := Kd.R_form HO_3.out (by omega)
                          (first | cases eo73 | (injection eo73 with ea_ en_ ec_; (first | subst ea_ | (injection ea_ with ea_; subst ea_)); subst ec_; clear en_))
                          have GB73 := Aside0.mk gb73
                          have GG73 := Aside0.mk HG73
                          clear gb73 gl73 HG73
                          have HMgo73 := Aside0.mk (show ((P0_ go73 ∨ P3_ go73 ∨ P4_ go73) ∨ w.heap.size ≤ go73) from (HO_3.out.1 _ rfl).1)
                          (first | simp only [add_plain] at hx136_0 | skip)
                          obtain ⟨hx73_0, hf73_0⟩ := Kd.R_celln 0 HO_3.out (x115_4 : Int) p73 q73
                          replace p73 := eq_true p73
                          replace q73 := eq_true q73
                          obtain ⟨hy79_, hz79_⟩ := Kd.R_celln 0 HO_3.out (x115_4 : Int) (of_decide_eq_true (by first | (with_reducible assumption) | assumption)) (of_decide_eq_true (by first | (with_reducible assumption) | assumption))
                          have HP79 := Kd.R_putg HO_3.out (x115_4 : Int) (wrap64 ((rd x3_4 x115_4) - x14_3))
                          have hq42_0 := cell_kept HG0.out HK.out HGN.out
                          have hq42_1 := cell_kept HG1.out HK.out HGN.out
                          have hq42_2 := cell_kept HG2.out HK.out HGN.out
                          try go_wp2_with (first | ((with_reducible refine gate_store (t := 3) (p := 147) rfl ?_); refine store_event (t := 3) (p := 147) (v := ?vo_w80) (w1 := (w77.setCell ⟨go73, (x115_4 : Int).toNat, none⟩ (.int .i64 (wrap64 ((rd x3_4 x115_4) - x14_3))))) ?hg ?ho ?hn ?hr ?_; (case ho => rfl); (case hg => rfl); (case hn => rfl); (case hr => first | (go_simp; done) | (go_simp; rfl)); intro w80 hw; have hg : w77.grownBy w80 (some go73) := (by rw [hw]; exact HP79.2); have hp_ : Kd.R (Kd.int .i64) 3 w80 w0.heap.size (fun k_ => ((P0_ k_ ∨ P3_ k_ ∨ P4_ k_) ∨ w.heap.size ≤ k_) ∧ some k_ ≠ (.slice (some ⟨go71, 0, none⟩) x0_4.length co75 : Value).ownBlock ∧ some k_ ≠ (.slice (some ⟨go7, 0, none⟩) y109.length co7 : Value).ownBlock ∧ some k_ ≠ (v111 : Value).ownBlock ∧ some k_ ≠ (.slice Ao20 x8_4.length co20 : Value).ownBlock) (.slice (some ⟨go73, 0, none⟩) x3_4.length co78) y137 := (by rw [hw, Ny137.out]; exact HP79.1); clear HP79; have n0_ := Aside0.mk (Kd.R_after (v := (.slice (some ⟨go73, 0, none⟩) x3_4.length co78)) (v1 := (.slice (some ⟨go73, 0, none⟩) x3_4.length co78)) (ok := (fun k_ => ((P0_ k_ ∨ P3_ k_ ∨ P4_ k_) ∨ w.heap.size ≤ k_) ∧ some k_ ≠ (.slice (some ⟨go7, 0, none⟩) y109.length co7 : Value).ownBlock ∧ some k_ ≠ (v111 : Value).ownBlock ∧ some k_ ≠ (.slice Ao20 x8_4.length co20 : Value).ownBlock)) (by (with_reducible repeat (first | apply Kd.R_alloc | apply Kd.R_drewN | apply Kd.R_drew)); exact Kd.R_mono HO_0.out (fun _ hk => ⟨⟨hk.1, ⟨hk.2.2.1, ⟨hk.2.2.2.1, hk.2.2.2.2⟩⟩⟩, hk.2.1⟩)) hg (.inl rfl)); have n1_ := Aside0.mk (hp_); have n2_ := Aside0.mk (Kd.R_after (v := (.slice (some ⟨go73, 0, none⟩) x3_4.length co78)) (v1 := (.slice (some ⟨go73, 0, none⟩) x3_4.length co78)) (ok := (fun k_ => ((P0_ k_ ∨ P3_ k_ ∨ P4_ k_) ∨ w.heap.size ≤ k_) ∧ some k_ ≠ (.slice (some ⟨go71, 0, none⟩) x0_4.length co75 : Value).ownBlock ∧ some k_ ≠ (v111 : Value).ownBlock ∧ some k_ ≠ (.slice Ao20 x8_4.length co20 : Value).ownBlock)) (by (with_reducible repeat (first | apply Kd.R_alloc | apply Kd.R_drewN | apply Kd.R_drew)); exact Kd.R_mono HO_4.out (fun _ hk => ⟨⟨hk.1, ⟨hk.2.1, ⟨hk.2.2.2.1, hk.2.2.2.2⟩⟩⟩, hk.2.2.1⟩)) hg (.inl rfl)); have n3_ := Aside0.mk (Kd.R_after (v := (.slice (some ⟨go73, 0, none⟩) x3_4.length co78)) (v1 := (.slice (some ⟨go73, 0, none⟩) x3_4.length co78)) (ok := (fun k_ => ((P0_ k_ ∨ P3_ k_ ∨ P4_ k_) ∨ w.heap.size ≤ k_) ∧ some k_ ≠ (.slice (some ⟨go71, 0, none⟩) x0_4.length co75 : Value).ownBlock ∧ some k_ ≠ (.slice (some ⟨go7, 0, none⟩) y109.length co7 : Value).ownBlock ∧ some k_ ≠ (.slice Ao20 x8_4.length co20 : Value).ownBlock)) (by (with_reducible repeat (first | apply Kd.R_alloc | apply Kd.R_drewN | apply Kd.R_drew)); exact Kd.R_mono HO_7.out (fun _ hk => ⟨⟨hk.1, ⟨hk.2.1, ⟨hk.2.2.2.1, hk.2.2.2.2⟩⟩⟩, hk.2.2.1⟩)) hg (.inl rfl)); have n4_ := Aside0.mk (Kd.R_after (v := (.slice (some ⟨go73, 0, none⟩) x3_4.length co78)) (v1 := (.slice (some ⟨go73, 0, none⟩) x3_4.length co78)) (ok := (fun k_ => ((P0_ k_ ∨ P3_ k_ ∨ P4_ k_) ∨ w.heap.size ≤ k_) ∧ some k_ ≠ (.slice (some ⟨go71, 0, none⟩) x0_4.length co75 : Value).ownBlock ∧ some k_ ≠ (.slice (some ⟨go7, 0, none⟩) y109.length co7 : Value).ownBlock ∧ some k_ ≠ (v111 : Value).ownBlock)) (by (with_reducible repeat (first | apply Kd.R_alloc | apply Kd.R_drewN | apply Kd.R_drew)); exact Kd.R_mono HO_8.out (fun _ hk => ⟨⟨hk.1, ⟨hk.2.1, ⟨hk.2.2.2.1, hk.2.2.2.2⟩⟩⟩, hk.2.2.1⟩)) hg (.inl rfl)); have n5_ := Aside0.mk (Kd.R_over' (v := (.slice (some ⟨go73, 0, none⟩) x3_4.length co78)) (by (with_reducible repeat (first | apply Kd.R_alloc | apply Kd.R_drewN | apply Kd.R_drew)); exact HO_9.out) (Kd.R_typed HO_3.out) (by decide) hg); have n6_ := Aside0.mk ((by rw [hw]; exact below_set (HB.out) GB73.out : Below w0.heap.size w0 w80)); have n7_ := Aside0.mk (Kept.of_grown (S := (fun k_ => P0_ k_ ∨ P3_ k_ ∨ P4_ k_)) hg (by repeat (first | (with_reducible first | exact HK.out | apply Kept.alloc | apply Kept.drewN | apply Kept.drew) | exact HK.out)) (fun k_ e_ => (HO_3.out.1 k_ e_).1)); clear HO_0; clear HO_3; clear HO_4; clear HO_7; clear HO_8; clear HO_9; clear HB; clear HK; have HO_0 := n0_; have HO_3 := n1_; have HO_4 := n2_; have HO_7 := n3_; have HO_8 := n4_; have HO_9 := n5_; have HB := n6_; have HK := n7_; have hq41_0 := cell_kept HG0.out HK.out HGN.out; have hq41_1 := cell_kept HG1.out HK.out HGN.out; have hq41_2 := cell_kept HG2.out HK.out HGN.out; clear n0_ n1_ n2_ n3_ n4_ n5_ n6_ n7_; clear hg hw hp_))
                          (try simp only [← hl8_4])
                          go_roundg k4
                          case measure => have := HK1.out; have := HK2.out; have := HK3.out; have := HK4.out; omega
                          case rel => exact ⟨(y135), (y137), (x8_4), (wrap64 (x115_4 + 1)), (by first | rfl | (simp; done) | (simp [*]; done)), H', ⟨by have := HK1.out; have := HK2.out; have := HK3.out; have := HK4.out; omega⟩, ⟨by (try simp only [hl4_1]); (try simp only [hl8_1]); (try simp only [hl8_2]); (try simp only [hl8_3]); (try simp only [hl9_3]); (try simp only [hl8_4]); (with_reducible repeat (first | apply Kd.R_alloc | apply Kd.R_drewN | apply Kd.R_drew)); exact Kd.R_mono HO_0.out (fun _ hk => ⟨hk.1.1, ⟨hk.2, ⟨hk.1.2.1, ⟨hk.1.2.2.1, hk.1.2.2.2⟩⟩⟩⟩)⟩, ⟨by (try simp only [hl4_1]); (try simp only [hl8_1]); (try simp only [hl8_2]); (try simp only [hl8_3]); (try simp only [hl9_3]); (try simp only [hl8_4]); (with_reducible repeat (first | apply Kd.R_alloc | apply Kd.R_drewN | apply Kd.R_drew)); exact HO_3.out⟩, ⟨by (try simp only [hl4_1]); (try simp only [hl8_1]); (try simp only [hl8_2]); (try simp only [hl8_3]); (try simp only [hl9_3]); (try simp only [hl8_4]); (with_reducible repeat (first | apply Kd.R_alloc | apply Kd.R_drewN | apply Kd.R_drew)); exact Kd.R_mono HO_4.out (fun _ hk => ⟨hk.1.1, ⟨hk.1.2.1, ⟨hk.2, ⟨hk.1.2.2.1, hk.1.2.2.2⟩⟩⟩⟩)⟩, ⟨by (try simp only [hl4_1]); (try simp only [hl8_1]); (try simp only [hl8_2]); (try simp only [hl8_3]); (try simp only [hl9_3]); (try simp only [hl8_4]); (with_reducible repeat (first | apply Kd.R_alloc | apply Kd.R_drewN | apply Kd.R_drew)); exact Kd.R_mono HO_7.out (fun _ hk => ⟨hk.1.1, ⟨hk.1.2.1, ⟨hk.2, ⟨hk.1.2.2.1, hk.1.2.2.2⟩⟩⟩⟩)⟩, ⟨by (try simp only [hl4_1]); (try simp only [hl8_1]); (try simp only [hl8_2]); (try simp only [hl8_3]); (try simp only [hl9_3]); (try simp only [hl8_4]); (with_reducible repeat (first | apply Kd.R_alloc | apply Kd.R_drewN | apply Kd.R_drew)); exact Kd.R_mono HO_8.out (fun _ hk => ⟨hk.1.1, ⟨hk.1.2.1, ⟨hk.2, ⟨hk.1.2.2.1, hk.1.2.2.2⟩⟩⟩⟩)⟩, ⟨by (try simp only [hl4_1]); (try simp only [hl8_1]); (try simp only [hl8_2]); (try simp only [hl8_3]); (try simp only [hl9_3]); (try simp only [hl8_4]); (with_reducible repeat (first | apply Kd.R_alloc | apply Kd.R_drewN | apply Kd.R_drew)); exact HO_9.out⟩, ⟨by repeat (first | (with_reducible first | exact HK.out | apply Kept.alloc | apply Kept.drewN | apply Kept.drew) | exact HK.out)⟩, ⟨by repeat (first | (with_reducible first | exact HB.out | apply below_alloc | apply pw_below_drewN | apply below_drew1) | exact HB.out)⟩⟩
                         ·
                          rw [if_neg c72] at H
                          exact absurd H (by simp)
                        ·
                         rw [if_neg c70] at H
                         exact absurd H (by simp)
                       ·
                        rw [if_neg c69] at H
                        exact absurd H (by simp)
                      ·
                       rw [if_neg c68] at H
                       exact absurd H (by simp)
                     ·
                      replace c67 := Bool.eq_false_iff.mpr c67
                      subst c67
                      have H1 : (if x115_4 < (x8_4.length : Int) then (assign_solved_add.l3 k4 x0_4 l1 x3_4 y109 (l1.length : Int) x7_3 (x8_4.set (x115_4 : Int).toNat (wrap64 ((rd x8_4 x115_4) - x14_3))) y120 x13_3 x14_3 (wrap64 ((l1.length : Int) + 1)) (wrap64 (x115_4 + 1))) else (none)) = some (r1, r2, r3) := by rw [if_neg (show ¬ (false = true) by decide)] at H; exact H
                      clear H
                      have H := H1
                      clear H1
                      by_cases c81 : x115_4 < (x8_4.length : Int)
                      ·
                       rw [if_pos c81] at H
                       have c81b0 : decide (x115_4 < (x8_4.length : Int)) = true := decide_eq_true c81
                       (try simp only [hl4_1] at c81b0)
                       (try simp only [hl8_1] at c81b0)
                       (try simp only [hl8_2] at c81b0)
                       (try simp only [hl8_3] at c81b0)
                       (try simp only [hl9_3] at c81b0)
                       (try simp only [hl8_4] at c81b0)
                       clear c81
                       obtain ⟨y139, hy139⟩ : ∃ y_ : List Int, y_ = (x8_4.set (x115_4 : Int).toNat (wrap64 ((rd x8_4 x115_4) - x14_3))) := ⟨_, rfl⟩
                       replace H : (assign_solved_add.l3 k4 x0_4 l1 x3_4 y109 (l1.length : Int) x7_3 y139 y120 x13_3 x14_3 (wrap64 ((l1.length : Int) + 1)) (wrap64 (x115_4 + 1))) = some (r1, r2, r3) := by first | (rw [hy139]; with_reducible exact H) | (have H2_ := (Option.bind_some _ _).symm.trans H; rw [hy139]; with_reducible exact H2_) | (have H2_ := (Option.bind_some _ _).symm.trans H; with_reducible exact H2_) | with_reducible exact H | (rw [hy139]; exact H) | exact H
                       have Ny139 := Aside0.mk hy139
                       clear hy139
                       have H' := Aside0.mk H
                       clear H
                       have p132 : 0 ≤ (x115_4 : Int) := of_decide_eq_true (by first | (with_reducible assumption) | assumption)
                       have q132 : x115_4 < (y120.length : Int) := of_decide_eq_true (by first | (with_reducible assumption) | assumption)
                       obtain ⟨ad132, e132, hx132_0⟩ := Kd.at_bool (Kd.R_reads' HO_9.out).2.2 x115_4 p132 q132
                       (try rw [← Nbq66.out] at hx132_0)
                       obtain rfl : (⟨go29, 0, none⟩ : Addr) = ad132 := (by injection e132)
                       (first | simp only [add_plain] at hx132_0 | simp only [add_at] at hx132_0 | simp only [Addr.add, Nat.zero_add] at hx132_0 | skip)
                       replace p132 := eq_true p132
                       replace q132 := eq_true q132
                       have p138 : 0 ≤ (x115_4 : Int) := of_decide_eq_true (by first | (with_reducible assumption) | assumption)
                       have q138 : x115_4 < (x8_4.length : Int) := of_decide_eq_true (by first | (with_reducible assumption) | assumption)
                       obtain ⟨ad138, e138, hx138_0⟩ := Kd.at_int (Kd.R_reads' HO_8.out).2.2 x115_4 p138 q138
                       cases e138
                       replace p138 := eq_true p138
                       replace q138 := eq_true q138
                       have p82 : 0 ≤ (x115_4 : Int) := of_decide_eq_true (by first | (with_reducible assumption) | assumption)
                       have q82 : (x115_4 : Int) < ((x8_4.length : Int) : Int) := of_decide_eq_true (by first | (with_reducible assumption) | assumption)
                       obtain ⟨go82, co82, eo82, gb82, gl82, cl82, HG82⟩ := Kd.R_form HO_8.out (by omega)
                       (first | cases eo82 | (injection eo82 with ea_ en_ ec_; (first | subst ea_ | (injection ea_ with ea_; subst ea_)); subst ec_; clear en_))
                       have GB82 := Aside0.mk gb82
                       have GG82 := Aside0.mk HG82
                       clear gb82 gl82 HG82
                       have HMgo82 := Aside0.mk (show ((P0_ go82 ∨ P3_ go82 ∨ P4_ go82) ∨ w.heap.size ≤ go82) from (HO_8.out.1 _ rfl).1)
                       (first | simp only [add_plain] at hx138_0 | skip)
                       obtain ⟨hx82_0, hf82_0⟩ := Kd.R_celln 0 HO_8.out (x115_4 : Int) p82 q82
                       replace p82 := eq_true p82
                       replace q82 := eq_true q82
                       have HP83 := Kd.R_putg HO_8.out (x115_4 : Int) (wrap64 ((rd x8_4 x115_4) - x14_3))
                       have hq44_0 := cell_kept HG0.out HK.out HGN.out
                       have hq44_1 := cell_kept HG1.out HK.out HGN.out
                       have hq44_2 := cell_kept HG2.out HK.out HGN.out
                       go_wp2_with (first | ((with_reducible refine gate_store (t := 3) (p := 154) rfl ?_); refine store_event (t := 3) (p := 154) (v := ?vo_w84) (w1 := (wr.setCell ⟨go82, (x115_4 : Int).toNat, none⟩ (.int .i64 (wrap64 ((rd x8_4 x115_4) - x14_3))))) ?hg ?ho ?hn ?hr ?_; (case ho => rfl); (case hg => rfl); (case hn => rfl); (case hr => first | (go_simp; done) | (go_simp; rfl)); intro w84 hw; have hg : wr.grownBy w84 (some go82) := (by rw [hw]; exact HP83.2); have hp_ : Kd.R (Kd.int .i64) 3 w84 w0.heap.size (fun k_ => ((P0_ k_ ∨ P3_ k_ ∨ P4_ k_) ∨ w.heap.size ≤ k_) ∧ some k_ ≠ (u9000_ : Value).ownBlock ∧ some k_ ≠ (u9001_ : Value).ownBlock ∧ some k_ ≠ (.slice (some ⟨go7, 0, none⟩) y109.length co7 : Value).ownBlock ∧ some k_ ≠ (v111 : Value).ownBlock) (.slice (some ⟨go82, 0, none⟩) x8_4.length co20) y139 := (by rw [hw, Ny139.out]; exact HP83.1); clear HP83; have n0_ := Aside0.mk (Kd.R_after (v := (.slice (some ⟨go82, 0, none⟩) x8_4.length co20)) (v1 := (.slice (some ⟨go82, 0, none⟩) x8_4.length co20)) (ok := (fun k_ => ((P0_ k_ ∨ P3_ k_ ∨ P4_ k_) ∨ w.heap.size ≤ k_) ∧ some k_ ≠ (u9001_ : Value).ownBlock ∧ some k_ ≠ (.slice (some ⟨go7, 0, none⟩) y109.length co7 : Value).ownBlock ∧ some k_ ≠ (v111 : Value).ownBlock)) (by (with_reducible repeat (first | apply Kd.R_alloc | apply Kd.R_drewN | apply Kd.R_drew)); exact Kd.R_mono HO_0.out (fun _ hk => ⟨⟨hk.1, ⟨hk.2.1, ⟨hk.2.2.1, hk.2.2.2.1⟩⟩⟩, hk.2.2.2.2⟩)) hg (.inl rfl)); have n1_ := Aside0.mk (Kd.R_after (v := (.slice (some ⟨go82, 0, none⟩) x8_4.length co20)) (v1 := (.slice (some ⟨go82, 0, none⟩) x8_4.length co20)) (ok := (fun k_ => ((P0_ k_ ∨ P3_ k_ ∨ P4_ k_) ∨ w.heap.size ≤ k_) ∧ some k_ ≠ (u9000_ : Value).ownBlock ∧ some k_ ≠ (.slice (some ⟨go7, 0, none⟩) y109.length co7 : Value).ownBlock ∧ some k_ ≠ (v111 : Value).ownBlock)) (by (with_reducible repeat (first | apply Kd.R_alloc | apply Kd.R_drewN | apply Kd.R_drew)); exact Kd.R_mono HO_3.out (fun _ hk => ⟨⟨hk.1, ⟨hk.2.1, ⟨hk.2.2.1, hk.2.2.2.1⟩⟩⟩, hk.2.2.2.2⟩)) hg (.inl rfl)); have n2_ := Aside0.mk (Kd.R_after (v := (.slice (some ⟨go82, 0, none⟩) x8_4.length co20)) (v1 := (.slice (some ⟨go82, 0, none⟩) x8_4.length co20)) (ok := (fun k_ => ((P0_ k_ ∨ P3_ k_ ∨ P4_ k_) ∨ w.heap.size ≤ k_) ∧ some k_ ≠ (u9000_ : Value).ownBlock ∧ some k_ ≠ (u9001_ : Value).ownBlock ∧ some k_ ≠ (v111 : Value).ownBlock)) (by (with_reducible repeat (first | apply Kd.R_alloc | apply Kd.R_drewN | apply Kd.R_drew)); exact Kd.R_mono HO_4.out (fun _ hk => ⟨⟨hk.1, ⟨hk.2.1, ⟨hk.2.2.1, hk.2.2.2.1⟩⟩⟩, hk.2.2.2.2⟩)) hg (.inl rfl)); have n3_ := Aside0.mk (Kd.R_after (v := (.slice (some ⟨go82, 0, none⟩) x8_4.length co20)) (v1 := (.slice (some ⟨go82, 0, none⟩) x8_4.length co20)) (ok := (fun k_ => ((P0_ k_ ∨ P3_ k_ ∨ P4_ k_) ∨ w.heap.size ≤ k_) ∧ some k_ ≠ (u9000_ : Value).ownBlock ∧ some k_ ≠ (u9001_ : Value).ownBlock ∧ some k_ ≠ (.slice (some ⟨go7, 0, none⟩) y109.length co7 : Value).ownBlock)) (by (with_reducible repeat (first | apply Kd.R_alloc | apply Kd.R_drewN | apply Kd.R_drew)); exact Kd.R_mono HO_7.out (fun _ hk => ⟨⟨hk.1, ⟨hk.2.1, ⟨hk.2.2.1, hk.2.2.2.1⟩⟩⟩, hk.2.2.2.2⟩)) hg (.inl rfl)); have n4_ := Aside0.mk (hp_); have n5_ := Aside0.mk (Kd.R_over' (v := (.slice (some ⟨go82, 0, none⟩) x8_4.length co20)) (by (with_reducible repeat (first | apply Kd.R_alloc | apply Kd.R_drewN | apply Kd.R_drew)); exact HO_9.out) (Kd.R_typed HO_8.out) (by decide) hg); have n6_ := Aside0.mk ((by rw [hw]; exact below_set (HB.out) GB82.out : Below w0.heap.size w0 w84)); have n7_ := Aside0.mk (Kept.of_grown (S := (fun k_ => P0_ k_ ∨ P3_ k_ ∨ P4_ k_)) hg (by repeat (first | (with_reducible first | exact HK.out | apply Kept.alloc | apply Kept.drewN | apply Kept.drew) | exact HK.out)) (fun k_ e_ => (HO_8.out.1 k_ e_).1)); clear HO_0; clear HO_3; clear HO_4; clear HO_7; clear HO_8; clear HO_9; clear HB; clear HK; have HO_0 := n0_; have HO_3 := n1_; have HO_4 := n2_; have HO_7 := n3_; have HO_8 := n4_; have HO_9 := n5_; have HB := n6_; have HK := n7_; have hq43_0 := cell_kept HG0.out HK.out HGN.out; have hq43_1 := cell_kept HG1.out HK.out HGN.out; have hq43_2 := cell_kept HG2.out HK.out HGN.out; clear n0_ n1_ n2_ n3_ n4_ n5_ n6_ n7_; clear hg hw hp_))
                       (try simp only [← hl8_4])
                       go_roundg k4
                       case measure => have := HK1.out; have := HK2.out; have := HK3.out; have := HK4.out; omega
                       case rel => exact ⟨(x0_4), (x3_4), (y139), (wrap64 (x115_4 + 1)), (by first | rfl | (simp; done) | (simp [*]; done)), H', ⟨by have := HK1.out; have := HK2.out; have := HK3.out; have := HK4.out; omega⟩, ⟨by (try simp only [hl4_1]); (try simp only [hl8_1]); (try simp only [hl8_2]); (try simp only [hl8_3]); (try simp only [hl9_3]); (try simp only [hl8_4]); (with_reducible repeat (first | apply Kd.R_alloc | apply Kd.R_drewN | apply Kd.R_drew)); exact Kd.R_mono HO_0.out (fun _ hk => ⟨hk.1.1, ⟨hk.1.2.1, ⟨hk.1.2.2.1, ⟨hk.1.2.2.2, hk.2⟩⟩⟩⟩)⟩, ⟨by (try simp only [hl4_1]); (try simp only [hl8_1]); (try simp only [hl8_2]); (try simp only [hl8_3]); (try simp only [hl9_3]); (try simp only [hl8_4]); (with_reducible repeat (first | apply Kd.R_alloc | apply Kd.R_drewN | apply Kd.R_drew)); exact Kd.R_mono HO_3.out (fun _ hk => ⟨hk.1.1, ⟨hk.1.2.1, ⟨hk.1.2.2.1, ⟨hk.1.2.2.2, hk.2⟩⟩⟩⟩)⟩, ⟨by (try simp only [hl4_1]); (try simp only [hl8_1]); (try simp only [hl8_2]); (try simp only [hl8_3]); (try simp only [hl9_3]); (try simp only [hl8_4]); (with_reducible repeat (first | apply Kd.R_alloc | apply Kd.R_drewN | apply Kd.R_drew)); exact Kd.R_mono HO_4.out (fun _ hk => ⟨hk.1.1, ⟨hk.1.2.1, ⟨hk.1.2.2.1, ⟨hk.1.2.2.2, hk.2⟩⟩⟩⟩)⟩, ⟨by (try simp only [hl4_1]); (try simp only [hl8_1]); (try simp only [hl8_2]); (try simp only [hl8_3]); (try simp only [hl9_3]); (try simp only [hl8_4]); (with_reducible repeat (first | apply Kd.R_alloc | apply Kd.R_drewN | apply Kd.R_drew)); exact Kd.R_mono HO_7.out (fun _ hk => ⟨hk.1.1, ⟨hk.1.2.1, ⟨hk.1.2.2.1, ⟨hk.1.2.2.2, hk.2⟩⟩⟩⟩)⟩, ⟨by (try simp only [hl4_1]); (try simp only [hl8_1]); (try simp only [hl8_2]); (try simp only [hl8_3]); (try simp only [hl9_3]); (try simp only [hl8_4]); (with_reducible repeat (first | apply Kd.R_alloc | apply Kd.R_drewN | apply Kd.R_drew)); exact HO_8.out⟩, ⟨by (try simp only [hl4_1]); (try simp only [hl8_1]); (try simp only [hl8_2]); (try simp only [hl8_3]); (try simp only [hl9_3]); (try simp only [hl8_4]); (with_reducible repeat (first | apply Kd.R_alloc | apply Kd.R_drewN | apply Kd.R_drew)); exact HO_9.out⟩, ⟨by repeat (first | (with_reducible first | exact HK.out | apply Kept.alloc | apply Kept.drewN | apply Kept.drew) | exact HK.out)⟩, ⟨by repeat (first | (with_reducible first | exact HB.out | apply below_alloc | apply pw_below_drewN | apply below_drew1) | exact HB.out)⟩⟩
                      ·
                       rw [if_neg c81] at H
                       exact absurd H (by simp)
                    ·
                     rw [if_neg c65] at H
                     exact absurd H (by simp)
                   ·
                    rw [if_neg c64] at H
                    exact absurd H (by simp)
                  ·
                   rw [if_neg c63] at H
                   have c63b0 : decide (x115_4 < (wrap64 ((l1.length : Int) + 1))) = false := decide_eq_false c63
                   (try simp only [hl4_1] at c63b0)
                   (try simp only [hl8_1] at c63b0)
                   (try simp only [hl8_2] at c63b0)
                   (try simp only [hl8_3] at c63b0)
                   (try simp only [hl9_3] at c63b0)
                   (try simp only [hl8_4] at c63b0)
                   (try simp only [hji8] at c63b0)
                   clear c63
                   by_cases c85 : 0 ≤ x13_3
                   ·
                    rw [if_pos c85] at H
                    have c85b0 : decide (0 ≤ x13_3) = true := decide_eq_true c85
                    clear c85
                    by_cases c86 : x13_3 < (y109.length : Int)
                    ·
                     rw [if_pos c86] at H
                     have c86b0 : decide (x13_3 < (y109.length : Int)) = true := decide_eq_true c86
                     (try simp only [hl4_1] at c86b0)
                     (try simp only [hl8_1] at c86b0)
                     (try simp only [hl8_2] at c86b0)
                     (try simp only [hl8_3] at c86b0)
                     (try simp only [hl9_3] at c86b0)
                     (try simp only [hl8_4] at c86b0)
                     clear c86
                     by_cases c87 : (rd y109 x13_3) = 0
                     ·
                      rw [if_pos c87] at H
                      have c87b0 : ((rd y109 x13_3) == 0) = true := beq_iff_eq.mpr c87
                      have c87b1 : ((rd y109 x13_3) != 0) = false := bne_eq_false_iff_eq.mpr c87
                      clear c87
                      have H' := Aside0.mk H
                      clear H
                      have p140 : 0 ≤ (x13_3 : Int) := of_decide_eq_true (by first | (with_reducible assumption) | assumption)
                      have q140 : x13_3 < (y109.length : Int) := of_decide_eq_true (by first | (with_reducible assumption) | assumption)
                      obtain ⟨ad140, e140, hx140_0⟩ := Kd.at_int (Kd.R_reads' HO_4.out).2.2 x13_3 p140 q140
                      obtain rfl : (⟨go7, 0, none⟩ : Addr) = ad140 := (by injection e140)
                      (first | simp only [add_plain] at hx140_0 | simp only [add_at] at hx140_0 | simp only [Addr.add, Nat.zero_add] at hx140_0 | skip)
                      replace p140 := eq_true p140
                      replace q140 := eq_true q140
                      have hq45_0 := cell_kept HG0.out HK.out HGN.out
                      have hq45_1 := cell_kept HG1.out HK.out HGN.out
                      have hq45_2 := cell_kept HG2.out HK.out HGN.out
                      go_wp2
                      try go_step3
                      have hq46_0 := cell_kept HG0.out HK.out HGN.out
                      have hq46_1 := cell_kept HG1.out HK.out HGN.out
                      have hq46_2 := cell_kept HG2.out HK.out HGN.out
                      try go_wp2
                      try go_step3
                      go_loopg [11] k4 (fun kq v11 w' => ∃ (x4_5 : List Int) (x11_5 : Int), v11 = .int .i64 x11_5 ∧ Aside0 (assign_solved_add.l4 kq x0_4 x3_4 x4_5 x7_3 x11_5 = some (r1, r2, r3)) ∧ Aside0 (kq ≤ k4) ∧ Aside0 (Kd.R (Kd.int .i64) 3 w' w0.heap.size (fun k_ => ((P0_ k_ ∨ P3_ k_ ∨ P4_ k_) ∨ w.heap.size ≤ k_) ∧ some k_ ≠ (u9001_ : Value).ownBlock ∧ some k_ ≠ ((.slice (some ⟨go7, 0, none⟩) y109.length co7) : Value).ownBlock ∧ some k_ ≠ (v111 : Value).ownBlock) u9000_ x0_4) ∧ Aside0 (Kd.R (Kd.int .i64) 3 w' w0.heap.size (fun k_ => ((P0_ k_ ∨ P3_ k_ ∨ P4_ k_) ∨ w.heap.size ≤ k_) ∧ some k_ ≠ (u9000_ : Value).ownBlock ∧ some k_ ≠ ((.slice (some ⟨go7, 0, none⟩) y109.length co7) : Value).ownBlock ∧ some k_ ≠ (v111 : Value).ownBlock) u9001_ x3_4) ∧ Aside0 (Kd.R (Kd.int .i64) 3 w' w0.heap.size (fun k_ => ((P0_ k_ ∨ P3_ k_ ∨ P4_ k_) ∨ w.heap.size ≤ k_) ∧ some k_ ≠ (u9000_ : Value).ownBlock ∧ some k_ ≠ (u9001_ : Value).ownBlock ∧ some k_ ≠ (v111 : Value).ownBlock) (.slice (some ⟨go7, 0, none⟩) y109.length co7) x4_5) ∧ Aside0 (Kd.R (Kd.int .i64) 3 w' w0.heap.size (fun k_ => ((P0_ k_ ∨ P3_ k_ ∨ P4_ k_) ∨ w.heap.size ≤ k_) ∧ some k_ ≠ (u9000_ : Value).ownBlock ∧ some k_ ≠ (u9001_ : Value).ownBlock ∧ some k_ ≠ ((.slice (some ⟨go7, 0, none⟩) y109.length co7) : Value).ownBlock) v111 x7_3) ∧ Aside0 (Kept w w' (fun k_ => P0_ k_ ∨ P3_ k_ ∨ P4_ k_)) ∧ Aside0 (Below w0.heap.size w0 w'))
                      case atStart => exact ⟨(y109), (x13_3), (by first | rfl | (simp; done) | (simp [*]; done)), H', ⟨Nat.le_refl _⟩, ⟨by (try simp only [hl4_1]); (try simp only [hl8_1]); (try simp only [hl8_2]); (try simp only [hl8_3]); (try simp only [hl9_3]); (try simp only [hl8_4]); (with_reducible repeat (first | apply Kd.R_alloc | apply Kd.R_drewN | apply Kd.R_drew)); exact Kd.R_mono HO_0.out (fun _ hk => ⟨hk.1, ⟨hk.2.1, ⟨hk.2.2.1, hk.2.2.2.1⟩⟩⟩)⟩, ⟨by (try simp only [hl4_1]); (try simp only [hl8_1]); (try simp only [hl8_2]); (try simp only [hl8_3]); (try simp only [hl9_3]); (try simp only [hl8_4]); (with_reducible repeat (first | apply Kd.R_alloc | apply Kd.R_drewN | apply Kd.R_drew)); exact Kd.R_mono HO_3.out (fun _ hk => ⟨hk.1, ⟨hk.2.1, ⟨hk.2.2.1, hk.2.2.2.1⟩⟩⟩)⟩, ⟨by (try simp only [hl4_1]); (try simp only [hl8_1]); (try simp only [hl8_2]); (try simp only [hl8_3]); (try simp only [hl9_3]); (try simp only [hl8_4]); (with_reducible repeat (first | apply Kd.R_alloc | apply Kd.R_drewN | apply Kd.R_drew)); exact Kd.R_mono HO_4.out (fun _ hk => ⟨hk.1, ⟨hk.2.1, ⟨hk.2.2.1, hk.2.2.2.1⟩⟩⟩)⟩, ⟨by (try simp only [hl4_1]); (try simp only [hl8_1]); (try simp only [hl8_2]); (try simp only [hl8_3]); (try simp only [hl9_3]); (try simp only [hl8_4]); (with_reducible repeat (first | apply Kd.R_alloc | apply Kd.R_drewN | apply Kd.R_drew)); exact Kd.R_mono HO_7.out (fun _ hk => ⟨hk.1, ⟨hk.2.1, ⟨hk.2.2.1, hk.2.2.2.1⟩⟩⟩)⟩, ⟨by repeat (first | (with_reducible first | exact HK.out | apply Kept.alloc | apply Kept.drewN | apply Kept.drew) | exact HK.out)⟩, ⟨by repeat (first | (with_reducible first | exact HB.out | apply below_alloc | apply pw_below_drewN | apply below_drew1) | exact HB.out)⟩⟩
                      case round =>
                       clear H'
                       try clear c1
                       try clear p1
                       try clear q1
                       try clear hx1
                       try clear c2
                       try clear p2
                       try clear q2
                       try clear hx2
                       try clear c3
                       try clear p3
                       try clear q3
                       try clear c4
                       try clear p4
                       try clear c5
                       try clear p5
                       try clear q5
                       try clear hx5
                       try clear hf5
                       try clear c6
                       try clear c6b0
                       try clear c6b1
                       try clear p6
                       try clear q6
                       try clear c7
                       try clear p7
                       try clear q7
                       try clear hx7
                       try clear qi7
                       try clear hf7
                       try clear c8
                       try clear p8
                       try clear q8
                       try clear hx8
                       try clear hf8
                       try clear c9
                       try clear c9b0
                       try clear c9b1
                       try clear c10
                       try clear c10b0
                       try clear c10b1
                       try clear c11
                       try clear c11b0
                       try clear c11b1
                       try clear c12
                       try clear p12
                       try clear q12
                       try clear hx12
                       try clear p13
                       try clear q13
                       try clear hx13
                       try clear p14
                       try clear q14
                       try clear hx14
                       try clear c21
                       try clear c21b0
                       try clear c22
                       try clear c22b0
                       try clear c23
                       try clear c23b0
                       try clear p24
                       try clear q24
                       try clear hx24
                       try clear hf24
                       try clear c27
                       try clear c27b0
                       try clear c28
                       try clear c28b0
                       try clear p29
                       try clear q29
                       try clear hx29
                       try clear hf29
                       try clear c30
                       try clear c30b0
                       try clear c31
                       try clear c33
                       try clear c33b0
                       try clear c34
                       try clear c34b0
                       try clear c35
                       try clear c35b0
                       try clear q36
                       try clear c37
                       try clear c39
                       try clear c39b0
                       try clear c40
                       try clear c40b0
                       try clear c42
                       try clear c42b0
                       try clear c43
                       try clear c43b0
                       try clear c44
                       try clear c44b0
                       try clear c45
                       try clear c45b0
                       try clear c46
                       try clear c46b0
                       try clear c47
                       try clear c47b0
                       try clear c52
                       try clear c52b0
                       try clear p53
                       try clear q53
                       try clear hx53
                       try clear hf53
                       try clear c54
                       try clear c54b0
                       try clear p55
                       try clear q55
                       try clear hx55
                       try clear hf55
                       try clear c60
                       try clear c60b0
                       try clear c61
                       try clear c61b0
                       try clear c62
                       try clear c62b0
                       try clear c63
                       try clear c63b0
                       try clear c64
                       try clear c64b0
                       try clear p64
                       try clear c65
                       try clear c65b0
                       try clear q66
                       try clear c67
                       try clear c68
                       try clear c68b0
                       try clear c69
                       try clear c69b0
                       try clear c70
                       try clear c70b0
                       try clear p71
                       try clear q71
                       try clear hx71
                       try clear hf71
                       try clear c72
                       try clear c72b0
                       try clear p73
                       try clear q73
                       try clear hx73
                       try clear hf73
                       try clear c81
                       try clear c81b0
                       try clear p82
                       try clear q82
                       try clear hx82
                       try clear hf82
                       try clear c85
                       try clear c85b0
                       try clear c86
                       try clear c86b0
                       try clear c87
                       try clear c87b0
                       try clear c87b1
                       try clear hx121_0
                       try clear hx122_0
                       try clear hx123_0
                       try clear hx124_0
                       try clear hx125_0
                       try clear hx126_0
                       try clear hx127_0
                       try clear hx130_0
                       try clear hx131_0
                       try clear hx132_0
                       try clear hx133_0
                       try clear hx134_0
                       try clear hx136_0
                       try clear hx138_0
                       try clear hx140_0
                       try clear hx24_0
                       try clear hx29_0
                       try clear hx53_0
                       try clear hx55_0
                       try clear hx71_0
                       try clear hx73_0
                       try clear hx7_0
                       try clear hx82_0
                       try clear p1
                       try clear p12
                       try clear p121
                       try clear p122
                       try clear p123
                       try clear p124
                       try clear p125
                       try clear p126
                       try clear p127
                       try clear p13
                       try clear p130
                       try clear p131
                       try clear p132
                       try clear p133
                       try clear p134
                       try clear p136
                       try clear p138
                       try clear p140
                       try clear p2
                       try clear p24
                       try clear p29
                       try clear p3
                       try clear p4
                       try clear p5
                       try clear p53
                       try clear p55
                       try clear p6
                       try clear p7
                       try clear p71
                       try clear p73
                       try clear p82
                       try clear q1
                       try clear q12
                       try clear q121
                       try clear q122
                       try clear q123
                       try clear q124
                       try clear q125
                       try clear q126
                       try clear q127
                       try clear q13
                       try clear q130
                       try clear q131
                       try clear q132
                       try clear q133
                       try clear q134
                       try clear q136
                       try clear q138
                       try clear q140
                       try clear q2
                       try clear q24
                       try clear q29
                       try clear q3
                       try clear q36
                       try clear q5
                       try clear q53
                       try clear q55
                       try clear q7
                       try clear q71
                       try clear q73
                       try clear q82
                       obtain ⟨x4_5, x11_5, rfl, HA, HK5, HO_0, HO_3, HO_4, HO_7, HK, HB⟩ := hrel
                       have hl4_5 := (Kd.R_reads' HO_4.out).1
                       rw [hl4_5] at HO_4
                       (try simp only [hl4_5])
                       (try simp only [hl4_5] at HO_0)
                       (try simp only [hl4_5] at HO_3)
                       (try simp only [hl4_5] at HO_7)
                       cases gk with
                       | zero => exact absurd HA.out (by simp [assign_solved_add.l4])
                       | succ k5 =>
                        have H := HA.out
                        clear HA
                        simp only [assign_solved_add.l4] at H
                        by_cases c88 : x11_5 = 0
                        ·
                         rw [if_pos c88] at H
                         have c88b0 : (x11_5 == 0) = true := beq_iff_eq.mpr c88
                         have c88b1 : (x11_5 != 0) = false := bne_eq_false_iff_eq.mpr c88
                         clear c88
                         simp only [Option.some.injEq, Prod.mk.injEq] at H
                         obtain ⟨rfl, rfl, rfl⟩ := H
                         have hq47_0 := cell_kept HG0.out HK.out HGN.out
                         have hq47_1 := cell_kept HG1.out HK.out HGN.out
                         have hq47_2 := cell_kept HG2.out HK.out HGN.out
                         go_wp2
                         try simp only [Exit.inBlock, Exit.then, Exit.noGoto_normal, Exit.noGoto_ret, Exit.noGoto_exit]
                         first | go_end0 | ((try simp only [Exit.inBlock, Exit.then]); refine bodyPost_ret (results_none rfl _ _ _) rfl ?_)
                         exact ⟨by first | rfl | (simp [errW_none, errW_some] <;> rfl) | (simp only [← hji8]; first | rfl | (simp [errW_none, errW_some] <;> rfl)) | (simp [*, errW_none, errW_some] <;> rfl), (by first | exact (by (with_reducible repeat (first | apply Kd.R_alloc | apply Kd.R_drewN | apply Kd.R_drew)); exact Kd.R_mono HO_0.out (fun _ hk => hk.1)) | (simp only [hl4_1, hl8_1, hl8_2, hl8_3, hl9_3, hl8_4, hl4_5]; exact (by (with_reducible repeat (first | apply Kd.R_alloc | apply Kd.R_drewN | apply Kd.R_drew)); exact Kd.R_mono HO_0.out (fun _ hk => hk.1)))), (by first | exact (by (with_reducible repeat (first | apply Kd.R_alloc | apply Kd.R_drewN | apply Kd.R_drew)); exact Kd.R_mono HO_3.out (fun _ hk => hk.1)) | (simp only [hl4_1, hl8_1, hl8_2, hl8_3, hl9_3, hl8_4, hl4_5]; exact (by (with_reducible repeat (first | apply Kd.R_alloc | apply Kd.R_drewN | apply Kd.R_drew)); exact Kd.R_mono HO_3.out (fun _ hk => hk.1)))), (by first | exact (by (with_reducible repeat (first | apply Kd.R_alloc | apply Kd.R_drewN | apply Kd.R_drew)); exact Kd.R_mono HO_4.out (fun _ hk => hk.1)) | (simp only [hl4_1, hl8_1, hl8_2, hl8_3, hl9_3, hl8_4, hl4_5]; exact (by (with_reducible repeat (first | apply Kd.R_alloc | apply Kd.R_drewN | apply Kd.R_drew)); exact Kd.R_mono HO_4.out (fun _ hk => hk.1)))), by repeat (first | (with_reducible first | exact HB.out | apply below_alloc | apply pw_below_drewN | apply below_drew1) | exact HB.out), by repeat (first | (with_reducible first | exact HK.out | apply Kept.alloc | apply Kept.drewN | apply Kept.drew) | exact HK.out)⟩
                        ·
                         rw [if_neg c88] at H
                         have c88b0 : (x11_5 == 0) = false := beq_eq_false_iff_ne.mpr c88
                         have c88b1 : (x11_5 != 0) = true := bne_iff_ne.mpr c88
                         by_cases c89 : 0 ≤ x11_5
                         ·
                          rw [if_pos c89] at H
                          have c89b0 : decide (0 ≤ x11_5) = true := decide_eq_true c89
                          clear c89
                          by_cases c90 : x11_5 < (x7_3.length : Int)
                          ·
                           rw [if_pos c90] at H
                           have c90b0 : decide (x11_5 < (x7_3.length : Int)) = true := decide_eq_true c90
                           (try simp only [hl4_1] at c90b0)
                           (try simp only [hl8_1] at c90b0)
                           (try simp only [hl8_2] at c90b0)
                           (try simp only [hl8_3] at c90b0)
                           (try simp only [hl9_3] at c90b0)
                           (try simp only [hl8_4] at c90b0)
                           (try simp only [hl4_5] at c90b0)
                           clear c90
                           by_cases c91 : 0 ≤ (rd x7_3 x11_5)
                           ·
                            rw [if_pos c91] at H
                            have c91b0 : decide (0 ≤ (rd x7_3 x11_5)) = true := decide_eq_true c91
                            clear c91
                            by_cases c92 : (rd x7_3 x11_5) < (x4_5.length : Int)
                            ·
                             rw [if_pos c92] at H
                             have c92b0 : decide ((rd x7_3 x11_5) < (x4_5.length : Int)) = true := decide_eq_true c92
                             (try simp only [hl4_1] at c92b0)
                             (try simp only [hl8_1] at c92b0)
                             (try simp only [hl8_2] at c92b0)
                             (try simp only [hl8_3] at c92b0)
                             (try simp only [hl9_3] at c92b0)
                             (try simp only [hl8_4] at c92b0)
                             (try simp only [hl4_5] at c92b0)
                             clear c92
                             by_cases c93 : x11_5 < (x4_5.length : Int)
                             ·
                              rw [if_pos c93] at H
                              have c93b0 : decide (x11_5 < (x4_5.length : Int)) = true := decide_eq_true c93
                              (try simp only [hl4_1] at c93b0)
                              (try simp only [hl8_1] at c93b0)
                              (try simp only [hl8_2] at c93b0)
                              (try simp only [hl8_3] at c93b0)
                              (try simp only [hl9_3] at c93b0)
                              (try simp only [hl8_4] at c93b0)
                              (try simp only [hl4_5] at c93b0)
                              clear c93
                              obtain ⟨y143, hy143⟩ : ∃ y_ : List Int, y_ = (x4_5.set (x11_5 : Int).toNat (rd x4_5 (rd x7_3 x11_5))) := ⟨_, rfl⟩
                              replace H : (assign_solved_add.l4 k5 x0_4 x3_4 y143 x7_3 (rd x7_3 x11_5)) = some (r1, r2, r3) := by first | (rw [hy143]; with_reducible exact H) | (have H2_ := (Option.bind_some _ _).symm.trans H; rw [hy143]; with_reducible exact H2_) | (have H2_ := (Option.bind_some _ _).symm.trans H; with_reducible exact H2_) | with_reducible exact H | (rw [hy143]; exact H) | exact H
                              have Ny143 := Aside0.mk hy143
                              clear hy143
                              have H' := Aside0.mk H
                              clear H
                              have hq48_0 := cell_kept HG0.out HK.out HGN.out
                              have hq48_1 := cell_kept HG1.out HK.out HGN.out
                              have hq48_2 := cell_kept HG2.out HK.out HGN.out
                              try go_wp2
                              have n0_ := Aside0.mk (Kd.R_drew HO_0.out)
                              have n1_ := Aside0.mk (Kd.R_drew HO_3.out)
                              have n2_ := Aside0.mk (Kd.R_drew HO_4.out)
                              have n3_ := Aside0.mk (Kd.R_drew HO_7.out)
                              have n4_ := Aside0.mk (Kept.drew HK.out)
                              have n5_ := Aside0.mk (below_drew1 HB.out)
                              clear HO_0
                              clear HO_3
                              clear HO_4
                              clear HO_7
                              clear HK
                              clear HB
                              have HO_0 := n0_
                              have HO_3 := n1_
                              have HO_4 := n2_
                              have HO_7 := n3_
                              have HK := n4_
                              have hq49_0 := cell_kept HG0.out HK.out HGN.out
                              have hq49_1 := cell_kept HG1.out HK.out HGN.out
                              have hq49_2 := cell_kept HG2.out HK.out HGN.out
                              have HB := n5_
                              clear n0_ n1_ n2_ n3_ n4_ n5_
                              obtain ⟨Ao96, co96, eo96⟩ := Kd.R_slice HO_7.out
                              (first | subst eo96 | (injection eo96 with f1_ f2_ f3_; have f4_ := f1_.symm; have f5_ := f3_.symm; clear f1_ f2_ f3_; subst f4_; subst f5_))
                              have p141 : 0 ≤ (x11_5 : Int) := of_decide_eq_true (by first | (with_reducible assumption) | assumption)
                              have q141 : x11_5 < (x7_3.length : Int) := of_decide_eq_true (by first | (with_reducible assumption) | assumption)
                              obtain ⟨ad141, e141, hx141_0⟩ := Kd.at_int (Kd.R_reads' HO_7.out).2.2 x11_5 p141 q141
                              cases e141
                              replace p141 := eq_true p141
                              replace q141 := eq_true q141
                              have p142 : 0 ≤ ((rd x7_3 x11_5) : Int) := of_decide_eq_true (by first | (with_reducible assumption) | assumption)
                              have q142 : (rd x7_3 x11_5) < (x4_5.length : Int) := of_decide_eq_true (by first | (with_reducible assumption) | assumption)
                              obtain ⟨ad142, e142, hx142_0⟩ := Kd.at_int (Kd.R_reads' HO_4.out).2.2 (rd x7_3 x11_5) p142 q142
                              obtain rfl : (⟨go7, 0, none⟩ : Addr) = ad142 := (by injection e142)
                              (first | simp only [add_plain] at hx142_0 | simp only [add_at] at hx142_0 | simp only [Addr.add, Nat.zero_add] at hx142_0 | skip)
                              replace p142 := eq_true p142
                              replace q142 := eq_true q142
                              have p94 : 0 ≤ (x11_5 : Int) := of_decide_eq_true (by first | (with_reducible assumption) | assumption)
                              have q94 : (x11_5 : Int) < ((x4_5.length : Int) : Int) := of_decide_eq_true (by first | (with_reducible assumption) | assumption)
                              obtain ⟨hx94_0, hf94_0⟩ := Kd.R_celln 0 HO_4.out (x11_5 : Int) p94 q94
                              replace p94 := eq_true p94
                              replace q94 := eq_true q94
                              have HP97 := Kd.R_putn HO_4.out (x11_5 : Int) (rd x4_5 (rd x7_3 x11_5))
                              rw [← Ny143.out] at HP97
                              have HQ97 := Aside0.mk HP97
                              clear HP97
                              have hq50_0 := cell_kept HG0.out HK.out HGN.out
                              have hq50_1 := cell_kept HG1.out HK.out HGN.out
                              have hq50_2 := cell_kept HG2.out HK.out HGN.out
                              refine start_ (n := 17) (S := fun w' => w'.cell? (ad141.add (x11_5).toNat) = some (.int .i64 (rd x7_3 x11_5)) ∧ w'.cell? ⟨go7, ((rd x7_3 x11_5)).toNat, none⟩ = some (.int .i64 (rd x4_5 (rd x7_3 x11_5))) ∧ w'.cell? ⟨g, 0, none⟩ = _ ∧ w'.cell? ⟨g, 1, none⟩ = _ ∧ w'.cell? ⟨g, 2, none⟩ = _) (ds := [16]) #[false, false, false, false, false, false, false, false, false, false, false, false, false, false, false, false, false] (by kernel_rfl) rfl rfl ⟨hx141_0, hx142_0, hq50_0, hq50_1, hq50_2⟩ (fun hHeld => ?_); refine with_tabW assign_solved_add.tab33 assign_solved_add.bits33 (fun HT_ HW_ => ?_)
                              generalize wr.drew = w95 at HO_0 HO_3 HO_4 HO_7 HK HB HQ97 hf94_0 hx141_0 hx142_0 hx94_0 hHeld hq50_0 hq50_1 hq50_2 ⊢
                              refine pure_ (i := 0) (N := some 167) (v := ?_) (a' := ?_) #[true, false, false, false, false, false, false, false, false, false, false, false, false, false, false, false, false] rfl rfl (any_of HT_.out (by kernel_rfl)) (fun _ _ _ h => h) (Or.inl ⟨by rfl, ?_⟩) ?_ ?_
                              rotate_left
                              ·
                               intro w'
                               go_simp
                               with_reducible rfl
                              rotate_left
                              ·
                               simp only [Act.put, List.setIfInBounds_toArray, List.set_cons_zero, List.set_cons_succ, i64_w, i32_w]
                               rfl
                              refine pure_ (i := 1) (N := some 168) (v := ?_) (a' := ?_) #[true, true, false, false, false, false, false, false, false, false, false, false, false, false, false, false, false] rfl rfl (any_of HT_.out (by kernel_rfl)) (fun _ _ _ h => h) (Or.inl ⟨by rfl, ?_⟩) ?_ ?_
                              rotate_left
                              ·
                               intro w'
                               go_simp
                               with_reducible rfl
                              rotate_left
                              ·
                               simp only [Act.put, List.setIfInBounds_toArray, List.set_cons_zero, List.set_cons_succ, i64_w, i32_w]
                               rfl
                              refine pure_ (i := 2) (N := some 169) (v := ?_) (a' := ?_) #[true, true, true, false, false, false, false, false, false, false, false, false, false, false, false, false, false] rfl rfl (any_of HT_.out (by kernel_rfl)) (fun _ _ _ h => h) (Or.inl ⟨by rfl, ?_⟩) ?_ ?_
                              rotate_left
                              ·
                               intro w'
                               go_simp
                               with_reducible rfl
                              rotate_left
                              ·
                               simp only [Act.put, List.setIfInBounds_toArray, List.set_cons_zero, List.set_cons_succ, i64_w, i32_w]
                               rfl
                              refine take_ (i := 3) (N := some 170) (v := ?_) (a' := ?_) #[true, true, true, true, false, false, false, false, false, false, false, false, false, false, false, false, false] rfl rfl (take_ofW HT_.out HW_.out (by kernel_rfl)) (fun _ _ _ h => h) (Or.inl ⟨by rfl, ?_⟩) hHeld ?_ ?_
                              rotate_left
                              ·
                               rintro w' ⟨s0, s1, sq0, sq1, sq2⟩
                               go_simp
                               with_reducible rfl
                              rotate_left
                              ·
                               simp only [Act.put, List.setIfInBounds_toArray, List.set_cons_zero, List.set_cons_succ, i64_w, i32_w]
                               rfl
                              refine pure_ (i := 4) (N := some 171) (v := ?_) (a' := ?_) #[true, true, true, true, true, false, false, false, false, false, false, false, false, false, false, false, false] rfl rfl (any_of HT_.out (by kernel_rfl)) (fun _ _ _ h => h) (Or.inl ⟨by rfl, ?_⟩) ?_ ?_
                              rotate_left
                              ·
                               intro w'
                               go_simp
                               with_reducible rfl
                              rotate_left
                              ·
                               simp only [Act.put, List.setIfInBounds_toArray, List.set_cons_zero, List.set_cons_succ, i64_w, i32_w]
                               rfl
                              refine pure_ (i := 5) (N := some 172) (v := ?_) (a' := ?_) #[true, true, true, true, true, true, false, false, false, false, false, false, false, false, false, false, false] rfl rfl (any_of HT_.out (by kernel_rfl)) (fun _ _ _ h => h) (Or.inl ⟨by rfl, ?_⟩) ?_ ?_
                              rotate_left
                              ·
                               intro w'
                               go_simp
                               with_reducible rfl
                              rotate_left
                              ·
                               simp only [Act.put, List.setIfInBounds_toArray, List.set_cons_zero, List.set_cons_succ, i64_w, i32_w]
                               rfl
                              refine pure_ (i := 6) (N := some 173) (v := ?_) (a' := ?_) #[true, true, true, true, true, true, true, false, false, false, false, false, false, false, false, false, false] rfl rfl (any_of HT_.out (by kernel_rfl)) (fun _ _ _ h => h) (Or.inl ⟨by rfl, ?_⟩) ?_ ?_
                              rotate_left
                              ·
                               intro w'
                               go_simp
                               with_reducible rfl
                              rotate_left
                              ·
                               simp only [Act.put, List.setIfInBounds_toArray, List.set_cons_zero, List.set_cons_succ, i64_w, i32_w]
                               rfl
                              refine pure_ (i := 7) (N := some 174) (v := ?_) (a' := ?_) #[true, true, true, true, true, true, true, true, false, false, false, false, false, false, false, false, false] rfl rfl (any_of HT_.out (by kernel_rfl)) (fun _ _ _ h => h) (Or.inl ⟨by rfl, ?_⟩) ?_ ?_
                              rotate_left
                              ·
                               intro w'
                               go_simp
                               with_reducible rfl
                              rotate_left
                              ·
                               simp only [Act.put, List.setIfInBounds_toArray, List.set_cons_zero, List.set_cons_succ, i64_w, i32_w]
                               rfl
                              refine take_ (i := 8) (N := some 175) (v := ?_) (a' := ?_) #[true, true, true, true, true, true, true, true, true, false, false, false, false, false, false, false, false] rfl rfl (take_ofW HT_.out HW_.out (by kernel_rfl)) (fun _ _ _ h => h) (Or.inl ⟨by rfl, ?_⟩) hHeld ?_ ?_
                              rotate_left
                              ·
                               rintro w' ⟨s0, s1, sq0, sq1, sq2⟩
                               go_simp
                               with_reducible rfl
                              rotate_left
                              ·
                               simp only [Act.put, List.setIfInBounds_toArray, List.set_cons_zero, List.set_cons_succ, i64_w, i32_w]
                               rfl
                              refine pure_ (i := 9) (N := some 176) (v := ?_) (a' := ?_) #[true, true, true, true, true, true, true, true, true, true, false, false, false, false, false, false, false] rfl rfl (any_of HT_.out (by kernel_rfl)) (fun _ _ _ h => h) (Or.inl ⟨by rfl, ?_⟩) ?_ ?_
                              rotate_left
                              ·
                               intro w'
                               go_simp
                               with_reducible rfl
                              rotate_left
                              ·
                               simp only [Act.put, List.setIfInBounds_toArray, List.set_cons_zero, List.set_cons_succ, i64_w, i32_w]
                               rfl
                              refine pure_ (i := 10) (N := some 177) (v := ?_) (a' := ?_) #[true, true, true, true, true, true, true, true, true, true, true, false, false, false, false, false, false] rfl rfl (any_of HT_.out (by kernel_rfl)) (fun _ _ _ h => h) (Or.inl ⟨by rfl, ?_⟩) ?_ ?_
                              rotate_left
                              ·
                               intro w'
                               go_simp
                               with_reducible rfl
                              rotate_left
                              ·
                               simp only [Act.put, List.setIfInBounds_toArray, List.set_cons_zero, List.set_cons_succ, i64_w, i32_w]
                               rfl
                              refine pure_ (i := 11) (N := some 178) (v := ?_) (a' := ?_) #[true, true, true, true, true, true, true, true, true, true, true, true, false, false, false, false, false] rfl rfl (any_of HT_.out (by kernel_rfl)) (fun _ _ _ h => h) (Or.inl ⟨by rfl, ?_⟩) ?_ ?_
                              rotate_left
                              ·
                               intro w'
                               go_simp
                               with_reducible rfl
                              rotate_left
                              ·
                               simp only [Act.put, List.setIfInBounds_toArray, List.set_cons_zero, List.set_cons_succ, i64_w, i32_w]
                               rfl
                              refine take_ (i := 12) (N := some 179) (v := ?_) (a' := ?_) #[true, true, true, true, true, true, true, true, true, true, true, true, true, false, false, false, false] rfl rfl (take_ofW HT_.out HW_.out (by kernel_rfl)) (fun _ _ _ h => h) (Or.inl ⟨by rfl, ?_⟩) hHeld ?_ ?_
                              rotate_left
                              ·
                               rintro w' ⟨s0, s1, sq0, sq1, sq2⟩
                               go_simp
                               with_reducible rfl
                              rotate_left
                              ·
                               simp only [Act.put, List.setIfInBounds_toArray, List.set_cons_zero, List.set_cons_succ, i64_w, i32_w]
                               rfl
                              refine pure_ (i := 13) (N := some 180) (v := ?_) (a' := ?_) #[true, true, true, true, true, true, true, true, true, true, true, true, true, true, false, false, false] rfl rfl (any_of HT_.out (by kernel_rfl)) (fun _ _ _ h => h) (Or.inl ⟨by rfl, ?_⟩) ?_ ?_
                              rotate_left
                              ·
                               intro w'
                               go_simp
                               with_reducible rfl
                              rotate_left
                              ·
                               simp only [Act.put, List.setIfInBounds_toArray, List.set_cons_zero, List.set_cons_succ, i64_w, i32_w]
                               rfl
                              refine take_ (i := 14) (N := some 181) (v := ?_) (a' := ?_) #[true, true, true, true, true, true, true, true, true, true, true, true, true, true, true, false, false] rfl rfl (take_ofW HT_.out HW_.out (by kernel_rfl)) (fun _ _ _ h => h) (Or.inl ⟨by rfl, ?_⟩) hHeld ?_ ?_
                              rotate_left
                              ·
                               rintro w' ⟨s0, s1, sq0, sq1, sq2⟩
                               go_simp
                               with_reducible rfl
                              rotate_left
                              ·
                               simp only [Act.put, List.setIfInBounds_toArray, List.set_cons_zero, List.set_cons_succ, i64_w, i32_w]
                               rfl
                              refine pure_ (i := 15) (N := some 182) (v := ?_) (a' := ?_) #[true, true, true, true, true, true, true, true, true, true, true, true, true, true, true, true, false] rfl rfl (any_of HT_.out (by kernel_rfl)) (fun _ _ _ h => h) (Or.inl ⟨by rfl, ?_⟩) ?_ ?_
                              rotate_left
                              ·
                               intro w'
                               go_simp
                               with_reducible rfl
                              rotate_left
                              ·
                               simp only [Act.put, List.setIfInBounds_toArray, List.set_cons_zero, List.set_cons_succ, i64_w, i32_w]
                               rfl
                              refine last_ (i := 16) (N := none) #[true, true, true, true, true, true, true, true, true, true, true, true, true, true, true, true, true] rfl rfl (one_of HT_.out (by kernel_rfl)) (by decide) (fun K hK => ?_)
                              refine skip_ (w1 := ?_) (by rfl) rfl ?_ ?_
                              rotate_left
                              ·
                               go_simp
                               rfl
                              refine hK.out _ _ ?_
                              clear hK K
                              refine done_ (done_of HT_.out (by kernel_rfl)) ?_
                              have hn_ : ad141.block ≠ go7 := fun e_ => (HO_7.out.1 ad141.block rfl).2.2.2 (by rw [e_]; rfl)
                              have hz_ := (cell_far (p := ⟨go7, (x11_5 : Int).toNat, none⟩) (by first | (rw [add_block]; exact hn_) | exact hn_) (.int .i64 (rd x4_5 (rd x7_3 x11_5)))).trans hx141_0
                              have hq51_0 := cell_kept HG0.out HK.out HGN.out
                              have hq51_1 := cell_kept HG1.out HK.out HGN.out
                              have hq51_2 := cell_kept HG2.out HK.out HGN.out
                              try go_wp2
                              (try simp only [← hl4_5])
                              go_roundg k5
                              case measure => have := HK1.out; have := HK2.out; have := HK3.out; have := HK4.out; have := HK5.out; omega
                              case rel => exact ⟨(y143), (rd x7_3 x11_5), (by first | rfl | (simp; done) | (simp [*]; done)), H', ⟨by have := HK1.out; have := HK2.out; have := HK3.out; have := HK4.out; have := HK5.out; omega⟩, ⟨by (try simp only [hl4_1]); (try simp only [hl8_1]); (try simp only [hl8_2]); (try simp only [hl8_3]); (try simp only [hl9_3]); (try simp only [hl8_4]); (try simp only [hl4_5]); (with_reducible repeat (first | apply Kd.R_alloc | apply Kd.R_drewN | apply Kd.R_drew)); exact Kd.R_mono (Kd.R_far (p := ⟨go7, (x11_5 : Int).toNat, none⟩) (Kd.R_mono HO_0.out (fun k_ hk => (⟨hk, fun e_ => hk.2.2.1 (by rw [e_]; rfl)⟩ : _ ∧ k_ ≠ go7))) (fun _ hk => hk.2) (.int .i64 (rd x4_5 (rd x7_3 x11_5)))) (fun _ hk => ⟨hk.1.1, ⟨hk.1.2.1, ⟨hk.1.2.2.1, hk.1.2.2.2⟩⟩⟩)⟩, ⟨by (try simp only [hl4_1]); (try simp only [hl8_1]); (try simp only [hl8_2]); (try simp only [hl8_3]); (try simp only [hl9_3]); (try simp only [hl8_4]); (try simp only [hl4_5]); (with_reducible repeat (first | apply Kd.R_alloc | apply Kd.R_drewN | apply Kd.R_drew)); exact Kd.R_mono (Kd.R_far (p := ⟨go7, (x11_5 : Int).toNat, none⟩) (Kd.R_mono HO_3.out (fun k_ hk => (⟨hk, fun e_ => hk.2.2.1 (by rw [e_]; rfl)⟩ : _ ∧ k_ ≠ go7))) (fun _ hk => hk.2) (.int .i64 (rd x4_5 (rd x7_3 x11_5)))) (fun _ hk => ⟨hk.1.1, ⟨hk.1.2.1, ⟨hk.1.2.2.1, hk.1.2.2.2⟩⟩⟩)⟩, ⟨by (try simp only [hl4_1]); (try simp only [hl8_1]); (try simp only [hl8_2]); (try simp only [hl8_3]); (try simp only [hl9_3]); (try simp only [hl8_4]); (try simp only [hl4_5]); (with_reducible repeat (first | apply Kd.R_alloc | apply Kd.R_drewN | apply Kd.R_drew)); exact HQ97.out⟩, ⟨by (try simp only [hl4_1]); (try simp only [hl8_1]); (try simp only [hl8_2]); (try simp only [hl8_3]); (try simp only [hl9_3]); (try simp only [hl8_4]); (try simp only [hl4_5]); (with_reducible repeat (first | apply Kd.R_alloc | apply Kd.R_drewN | apply Kd.R_drew)); exact Kd.R_mono (Kd.R_far (p := ⟨go7, (x11_5 : Int).toNat, none⟩) (Kd.R_mono HO_7.out (fun k_ hk => (⟨hk, fun e_ => hk.2.2.2 (by rw [e_]; rfl)⟩ : _ ∧ k_ ≠ go7))) (fun _ hk => hk.2) (.int .i64 (rd x4_5 (rd x7_3 x11_5)))) (fun _ hk => ⟨hk.1.1, ⟨hk.1.2.1, ⟨hk.1.2.2.1, hk.1.2.2.2⟩⟩⟩)⟩, ⟨by repeat (first | (with_reducible first | exact HK.out | apply Kept.alloc | apply Kept.drewN | apply Kept.drew | refine Kept.setCell ?_ HMgo7.out _) | exact HK.out)⟩, ⟨by repeat (first | (with_reducible first | exact HB.out | apply below_alloc | apply pw_below_drewN | apply below_drew1 | refine below_set ?_ GB7.out) | exact HB.out)⟩⟩
                             ·
                              rw [if_neg c93] at H
                              exact absurd H (by simp)
                            ·
                             rw [if_neg c92] at H
                             exact absurd H (by simp)
                           ·
                            rw [if_neg c91] at H
                            exact absurd H (by simp)
                          ·
                           rw [if_neg c90] at H
                           exact absurd H (by simp)
                         ·
                          rw [if_neg c89] at H
                          exact absurd H (by simp)
                     ·
                      rw [if_neg c87] at H
                      have c87b0 : ((rd y109 x13_3) == 0) = false := beq_eq_false_iff_ne.mpr c87
                      have c87b1 : ((rd y109 x13_3) != 0) = true := bne_iff_ne.mpr c87
                      have H' := Aside0.mk H
                      clear H
                      have p140 : 0 ≤ (x13_3 : Int) := of_decide_eq_true (by first | (with_reducible assumption) | assumption)
                      have q140 : x13_3 < (y109.length : Int) := of_decide_eq_true (by first | (with_reducible assumption) | assumption)
                      obtain ⟨ad140, e140, hx140_0⟩ := Kd.at_int (Kd.R_reads' HO_4.out).2.2 x13_3 p140 q140
                      obtain rfl : (⟨go7, 0, none⟩ : Addr) = ad140 := (by injection e140)
                      (first | simp only [add_plain] at hx140_0 | simp only [add_at] at hx140_0 | simp only [Addr.add, Nat.zero_add] at hx140_0 | skip)
                      replace p140 := eq_true p140
                      replace q140 := eq_true q140
                      have hq52_0 := cell_kept HG0.out HK.out HGN.out
                      have hq52_1 := cell_kept HG1.out HK.out HGN.out
                      have hq52_2 := cell_kept HG2.out HK.out HGN.out
                      go_wp2
                      (try simp only [← hl8_2, ← hl8_3, ← hl9_3, ← hl8_4])
                      go_roundg k4
                      case measure => have := HK1.out; have := HK2.out; have := HK3.out; have := HK4.out; omega
                      case rel => exact ⟨(x0_4), (x3_4), (x7_3), (x8_4), (y120), (x13_3), (by first | rfl | (simp; done) | (simp [*]; done)), H', ⟨by have := HK1.out; have := HK2.out; have := HK3.out; have := HK4.out; omega⟩, ⟨by (try simp only [hl4_1]); (try simp only [hl8_1]); (try simp only [hl8_2]); (try simp only [hl8_3]); (try simp only [hl9_3]); (try simp only [hl8_4]); (with_reducible repeat (first | apply Kd.R_alloc | apply Kd.R_drewN | apply Kd.R_drew)); exact HO_0.out⟩, ⟨by (try simp only [hl4_1]); (try simp only [hl8_1]); (try simp only [hl8_2]); (try simp only [hl8_3]); (try simp only [hl9_3]); (try simp only [hl8_4]); (with_reducible repeat (first | apply Kd.R_alloc | apply Kd.R_drewN | apply Kd.R_drew)); exact HO_3.out⟩, ⟨by (try simp only [hl4_1]); (try simp only [hl8_1]); (try simp only [hl8_2]); (try simp only [hl8_3]); (try simp only [hl9_3]); (try simp only [hl8_4]); (with_reducible repeat (first | apply Kd.R_alloc | apply Kd.R_drewN | apply Kd.R_drew)); exact HO_4.out⟩, ⟨by (try simp only [hl4_1]); (try simp only [hl8_1]); (try simp only [hl8_2]); (try simp only [hl8_3]); (try simp only [hl9_3]); (try simp only [hl8_4]); (with_reducible repeat (first | apply Kd.R_alloc | apply Kd.R_drewN | apply Kd.R_drew)); exact HO_7.out⟩, ⟨by (try simp only [hl4_1]); (try simp only [hl8_1]); (try simp only [hl8_2]); (try simp only [hl8_3]); (try simp only [hl9_3]); (try simp only [hl8_4]); (with_reducible repeat (first | apply Kd.R_alloc | apply Kd.R_drewN | apply Kd.R_drew)); exact HO_8.out⟩, ⟨by (try simp only [hl4_1]); (try simp only [hl8_1]); (try simp only [hl8_2]); (try simp only [hl8_3]); (try simp only [hl9_3]); (try simp only [hl8_4]); (with_reducible repeat (first | apply Kd.R_alloc | apply Kd.R_drewN | apply Kd.R_drew)); exact HO_9.out⟩, ⟨by repeat (first | (with_reducible first | exact HK.out | apply Kept.alloc | apply Kept.drewN | apply Kept.drew) | exact HK.out)⟩, ⟨by repeat (first | (with_reducible first | exact HB.out | apply below_alloc | apply pw_below_drewN | apply below_drew1) | exact HB.out)⟩⟩
                    ·
                     rw [if_neg c86] at H
                     exact absurd H (by simp)
                   ·
                    rw [if_neg c85] at H
                    exact absurd H (by simp)
            ·
             rw [if_neg c30] at H
             exact absurd H (by simp)
           ·
            rw [if_neg c28] at H
            exact absurd H (by simp)
          ·
           rw [if_neg c27] at H
           exact absurd H (by simp)
    ·
     rw [if_neg c11] at H
     exact absurd H (by simp)
   ·
    rw [if_neg c10] at H
    exact absurd H (by simp)
  ·
   rw [if_neg c9] at H
   exact absurd H (by simp)
 ·
  rw [if_neg c6] at H
  exact absurd H (by simp)
end Go.Proofs.Ytbmflpflmjfabaa.PAll
