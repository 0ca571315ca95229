-- Written by wip/tools/handprint.py: walks of the functions that the law reaches; Lean checks them.
import Derived.Test.YtjppjppapdflmaaRMi
import Derived.Test.YtjppjppapdflmaaPAllx0
import Derived.Test.YtjppjppapdflmaaRPg
import Derived.Test.YtjppjppapdflmaaPAllf15
import Derived.Test.YtjppjppapdflmaaPAllf16
import Derived.Test.YtjppjppapdflmaaRPm
import Derived.Test.YtjppjppapdflmaaPAllf25
namespace Go.Proofs.Ytjppjppapdflmaa.PAll
open Go.RowKit Go.Proofs.YtjppjppapdflmaaW.PrintWords Go.Proofs.YtjppjppapdflmaaW.PrintLast Go.Proofs.YtjppjppapdflmaaW.PrintMore
attribute [local go_sem] max2_int min2_int max_two min_two max_three min_three max_four min_four   -- for this text's walks alone
set_option linter.unusedVariables false
set_option linter.unusedSimpArgs false

theorem bbO {w w' W : World} {g : Nat} {o : Obj} (X : Aside0 (w.heap[g]? = some o)) (hb : Below w'.heap.size w' W) (h : w.heap[g]? = some o → w'.heap[g]? = some o := by intro hx_; (with_reducible repeat (first | refine blk_drewN ?_ _ | refine blk_drew ?_ | refine blk_alloc ?_ _)); exact hx_) : Aside0 (W.heap[g]? = some o) := ⟨blk_below (h X.out) hb⟩
/-- Four cells stored, one behind the other. -/
theorem st4_far {w : World} {g g' : Nat} {t : TypeId} {cs : Array Value} {a b c d : Value} (h : w.heap[g']? = some (.cells cs t (0, 0))) (hn : g' ≠ g) : ((((w.setCell ⟨g, 0, none⟩ a).setCell ⟨g, 1, none⟩ b).setCell ⟨g, 2, none⟩ c).setCell ⟨g, 3, none⟩ d).heap[g']? = some (.cells cs t (0, 0)) :=
  blk_far (blk_far (blk_far (blk_far h hn a) hn b) hn c) hn d
theorem st4_own {w : World} {g : Nat} {t : TypeId} {x y z v a b c d : Value} (h : w.heap[g]? = some (.cells #[x, y, z, v] t (0, 0))) : ((((w.setCell ⟨g, 0, none⟩ a).setCell ⟨g, 1, none⟩ b).setCell ⟨g, 2, none⟩ c).setCell ⟨g, 3, none⟩ d).heap[g]? = some (.cells #[a, b, c, d] t (0, 0)) :=
  blk_put (blk_put (blk_put (blk_put h 0 a rfl) 1 b rfl) 2 c rfl) 3 d rfl
theorem st4_below {w W : World} {g : Nat} {a b c d : Value} (h : Below w.heap.size w W) (hg : w.heap.size ≤ g) : Below w.heap.size w ((((W.setCell ⟨g, 0, none⟩ a).setCell ⟨g, 1, none⟩ b).setCell ⟨g, 2, none⟩ c).setCell ⟨g, 3, none⟩ d) :=
  below_set (below_set (below_set (below_set h hg) hg) hg) hg
theorem st4_R {w : World} {g base : Nat} {v : Value} {xs : List S48} {cs : Array Value} {a b c d : Value} (h : Kd.R k48 48 w base (fun _ => True) v xs) (hb : w.heap[g]? = some (.cells cs 26 (0, 0))) : Kd.R k48 48 ((((w.setCell ⟨g, 0, none⟩ a).setCell ⟨g, 1, none⟩ b).setCell ⟨g, 2, none⟩ c).setCell ⟨g, 3, none⟩ d) base (fun _ => True) v xs :=
  Kd.R_mono (Kd.R_far (p := ⟨g, 3, none⟩) (Kd.R_far (p := ⟨g, 2, none⟩) (Kd.R_far (p := ⟨g, 1, none⟩) (Kd.R_far (p := ⟨g, 0, none⟩) (Kd.R_types h hb (by decide)) (fun _ hk => hk.2) a) (fun _ hk => hk.2) b) (fun _ hk => hk.2) c) (fun _ hk => hk.2) d) (fun _ _ => trivial)
/-! ### dancestudiolaw50_RehearseFewer: function 8 -/
def dancestudiolaw50_RehearseFewer.f (k : Nat) (l0_0 : List (S53)) (l0_1 : List (S55)) (l0_2 : List (S59)) (a0_3 : Int) : Option (Bool) := (dancestudiolaw50_small.f l0_0 l0_1 l0_2 a0_3).bind fun t665 => (if t665 = true then ((dancestudiolaw50_of.f).bind fun t667 => ((rehearse_Plan.f k l0_0 l0_1 l0_2 a0_3).bind fun bt668 => (if bt668.2 = 0 then ((dancestudiolaw50_of.f).bind fun t673 => ((rehearse_End.f k l0_0 l0_1 l0_2 a0_3 bt668.1).bind fun bt674 => (if bt674.2 = 0 then (if (l0_0.length : Int) > 0 then (if 0 ≤ (wrap64 ((l0_0.length : Int) - 1)) then (if (wrap64 ((l0_0.length : Int) - 1)) ≤ (l0_0.length : Int) then ((some (l0_0.take ((wrap64 ((l0_0.length : Int) - 1)) : Int).toNat : List (S53))).bind fun y679 => (if (l0_2.length : Int) > 0 then (if 0 ≤ (wrap64 ((l0_2.length : Int) - 1)) then (if (wrap64 ((l0_2.length : Int) - 1)) ≤ (l0_2.length : Int) then ((some (l0_2.take ((wrap64 ((l0_2.length : Int) - 1)) : Int).toNat : List (S59))).bind fun y683 => (if (l0_1.length : Int) < 4 then ((some (([] : List (S55)) : List (S55))).bind fun y687 => (if y687.length + l0_1.length < 17592186044416 then ((some (y687 ++ l0_1 : List (S55))).bind fun y690 => (if y690.length < 17592186044416 then ((dancestudiolaw50_sooner.f k y679 l0_1 l0_2 a0_3 bt674.1).bind fun t696 => (if t696 = true then ((dancestudiolaw50_sooner.f k l0_0 l0_1 y683 a0_3 bt674.1).bind fun t697 => (if t697 = true then ((dancestudiolaw50_sooner.f k l0_0 (y690 ++ [(⟨1⟩ : S55)]) l0_2 a0_3 bt674.1).bind fun t698 => (if t698 = true then ((dancestudiolaw50_awake.f k).bind fun t699 => (some t699)) else (none))) else (none))) else (none))) else (none))) else (none))) else ((dancestudiolaw50_sooner.f k y679 l0_1 l0_2 a0_3 bt674.1).bind fun t700 => (if t700 = true then ((dancestudiolaw50_sooner.f k l0_0 l0_1 y683 a0_3 bt674.1).bind fun t701 => (if t701 = true then ((dancestudiolaw50_sooner.f k l0_0 l0_1 l0_2 a0_3 bt674.1).bind fun t702 => (if t702 = true then ((dancestudiolaw50_awake.f k).bind fun t703 => (some t703)) else (none))) else (none))) else (none))))) else (none)) else (none)) else (if (l0_1.length : Int) < 4 then ((some (([] : List (S55)) : List (S55))).bind fun y704 => (if y704.length + l0_1.length < 17592186044416 then ((some (y704 ++ l0_1 : List (S55))).bind fun y707 => (if y707.length < 17592186044416 then ((dancestudiolaw50_sooner.f k y679 l0_1 l0_2 a0_3 bt674.1).bind fun t713 => (if t713 = true then ((dancestudiolaw50_sooner.f k l0_0 l0_1 l0_2 a0_3 bt674.1).bind fun t714 => (if t714 = true then ((dancestudiolaw50_sooner.f k l0_0 (y707 ++ [(⟨1⟩ : S55)]) l0_2 a0_3 bt674.1).bind fun t715 => (if t715 = true then ((dancestudiolaw50_awake.f k).bind fun t716 => (some t716)) else (none))) else (none))) else (none))) else (none))) else (none))) else ((dancestudiolaw50_sooner.f k y679 l0_1 l0_2 a0_3 bt674.1).bind fun t717 => (if t717 = true then ((dancestudiolaw50_sooner.f k l0_0 l0_1 l0_2 a0_3 bt674.1).bind fun t718 => (if t718 = true then ((dancestudiolaw50_sooner.f k l0_0 l0_1 l0_2 a0_3 bt674.1).bind fun t719 => (if t719 = true then ((dancestudiolaw50_awake.f k).bind fun t720 => (some t720)) else (none))) else (none))) else (none)))))) else (none)) else (none)) else (if (l0_2.length : Int) > 0 then (if 0 ≤ (wrap64 ((l0_2.length : Int) - 1)) then (if (wrap64 ((l0_2.length : Int) - 1)) ≤ (l0_2.length : Int) then ((some (l0_2.take ((wrap64 ((l0_2.length : Int) - 1)) : Int).toNat : List (S59))).bind fun y721 => (if (l0_1.length : Int) < 4 then ((some (([] : List (S55)) : List (S55))).bind fun y725 => (if y725.length + l0_1.length < 17592186044416 then ((some (y725 ++ l0_1 : List (S55))).bind fun y728 => (if y728.length < 17592186044416 then ((dancestudiolaw50_sooner.f k l0_0 l0_1 l0_2 a0_3 bt674.1).bind fun t734 => (if t734 = true then ((dancestudiolaw50_sooner.f k l0_0 l0_1 y721 a0_3 bt674.1).bind fun t735 => (if t735 = true then ((dancestudiolaw50_sooner.f k l0_0 (y728 ++ [(⟨1⟩ : S55)]) l0_2 a0_3 bt674.1).bind fun t736 => (if t736 = true then ((dancestudiolaw50_awake.f k).bind fun t737 => (some t737)) else (none))) else (none))) else (none))) else (none))) else (none))) else ((dancestudiolaw50_sooner.f k l0_0 l0_1 l0_2 a0_3 bt674.1).bind fun t738 => (if t738 = true then ((dancestudiolaw50_sooner.f k l0_0 l0_1 y721 a0_3 bt674.1).bind fun t739 => (if t739 = true then ((dancestudiolaw50_sooner.f k l0_0 l0_1 l0_2 a0_3 bt674.1).bind fun t740 => (if t740 = true then ((dancestudiolaw50_awake.f k).bind fun t741 => (some t741)) else (none))) else (none))) else (none))))) else (none)) else (none)) else (if (l0_1.length : Int) < 4 then ((some (([] : List (S55)) : List (S55))).bind fun y742 => (if y742.length + l0_1.length < 17592186044416 then ((some (y742 ++ l0_1 : List (S55))).bind fun y745 => (if y745.length < 17592186044416 then ((dancestudiolaw50_sooner.f k l0_0 l0_1 l0_2 a0_3 bt674.1).bind fun t751 => (if t751 = true then ((dancestudiolaw50_sooner.f k l0_0 l0_1 l0_2 a0_3 bt674.1).bind fun t752 => (if t752 = true then ((dancestudiolaw50_sooner.f k l0_0 (y745 ++ [(⟨1⟩ : S55)]) l0_2 a0_3 bt674.1).bind fun t753 => (if t753 = true then ((dancestudiolaw50_awake.f k).bind fun t754 => (some t754)) else (none))) else (none))) else (none))) else (none))) else (none))) else ((dancestudiolaw50_sooner.f k l0_0 l0_1 l0_2 a0_3 bt674.1).bind fun t755 => (if t755 = true then ((dancestudiolaw50_sooner.f k l0_0 l0_1 l0_2 a0_3 bt674.1).bind fun t756 => (if t756 = true then ((dancestudiolaw50_sooner.f k l0_0 l0_1 l0_2 a0_3 bt674.1).bind fun t757 => (if t757 = true then ((dancestudiolaw50_awake.f k).bind fun t758 => (some t758)) else (none))) else (none))) else (none)))))) else (none)))) else ((dancestudiolaw50_awake.f k).bind fun t672 => (some t672))))) else ((dancestudiolaw50_awake.f k).bind fun t666 => (some t666)))
def dancestudiolaw50_RehearseFewer.T9 : Bool × List (List Nat × List Nat) := (true, [([], []), ([], []), ([], []), ([], []), ([], []), ([], []), ([3, 0, 0, 3, 4, 5], [0, 3]), ([4, 1, 6, 0, 1, 3, 4, 5, 6], [1, 4]), ([5, 2, 7, 0, 1, 2, 3, 4, 5, 6, 7], [2, 5])])
def dancestudiolaw50_RehearseFewer.B9 : List Nat := [0, 0, 0, 0, 0, 0, 57, 123, 255]
theorem dancestudiolaw50_RehearseFewer.tab9 : rtab .any (opsOf Try.f8 9) = dancestudiolaw50_RehearseFewer.T9 := by kernel_rfl
theorem dancestudiolaw50_RehearseFewer.bits9 : waitsOk dancestudiolaw50_RehearseFewer.T9.2 dancestudiolaw50_RehearseFewer.B9 = true := by kernel_rfl
set_option maxHeartbeats 8000000 in
set_option maxRecDepth 100000 in
theorem dancestudiolaw50_RehearseFewer.calls (k : Nat) (A0_0 : Option Addr) (c0_0 : Nat) (l0_0 : List (S53)) (A0_1 : Option Addr) (c0_1 : Nat) (l0_1 : List (S55)) (A0_2 : Option Addr) (c0_2 : Nat) (l0_2 : List (S59)) (a0_3 : Int) (r : Bool) (w : World) (hr0_0 : Kd.C k53 w A0_0 l0_0.length l0_0) (hc0_0 : l0_0.length ≤ c0_0) (hr0_1 : Kd.C k55 w A0_1 l0_1.length l0_1) (hc0_1 : l0_1.length ≤ c0_1) (hr0_2 : Kd.C k59 w A0_2 l0_2.length l0_2) (hc0_2 : l0_2.length ≤ c0_2) (hmx : Mx w) (h : dancestudiolaw50_RehearseFewer.f k l0_0 l0_1 l0_2 a0_3 = some r) :
  Calls Try.prog 8 #[.agg #[.slice A0_0 l0_0.length c0_0, .slice A0_1 l0_1.length c0_1, .slice A0_2 l0_2.length c0_2, .int .i64 a0_3]] w fun e w' => e = .returned (.bool r) ∧ Below w.heap.size w w' := by
 have HMX_ := Aside0.mk hmx
 clear hmx
 have hu30 := Try.underlying26
 have hu55 := Try.underlying55
 have HR0_0 := Aside0.mk hr0_0
 have HC0_0 := Aside0.mk hc0_0
 clear hr0_0 hc0_0
 have HR0_1 := Aside0.mk hr0_1
 have HC0_1 := Aside0.mk hc0_1
 clear hr0_1 hc0_1
 have HR0_2 := Aside0.mk hr0_2
 have HC0_2 := Aside0.mk hc0_2
 clear hr0_2 hc0_2
 have HB := Aside0.mk (Below.refl w.heap.size w)
 have H : ((dancestudiolaw50_small.f l0_0 l0_1 l0_2 a0_3).bind fun t665 => (if t665 = true then ((dancestudiolaw50_of.f).bind fun t667 => ((rehearse_Plan.f k l0_0 l0_1 l0_2 a0_3).bind fun bt668 => (if bt668.2 = 0 then ((dancestudiolaw50_of.f).bind fun t673 => ((rehearse_End.f k l0_0 l0_1 l0_2 a0_3 bt668.1).bind fun bt674 => (if bt674.2 = 0 then (if (l0_0.length : Int) > 0 then (if 0 ≤ (wrap64 ((l0_0.length : Int) - 1)) then (if (wrap64 ((l0_0.length : Int) - 1)) ≤ (l0_0.length : Int) then ((some (l0_0.take ((wrap64 ((l0_0.length : Int) - 1)) : Int).toNat : List (S53))).bind fun y679 => (if (l0_2.length : Int) > 0 then (if 0 ≤ (wrap64 ((l0_2.length : Int) - 1)) then (if (wrap64 ((l0_2.length : Int) - 1)) ≤ (l0_2.length : Int) then ((some (l0_2.take ((wrap64 ((l0_2.length : Int) - 1)) : Int).toNat : List (S59))).bind fun y683 => (if (l0_1.length : Int) < 4 then ((some (([] : List (S55)) : List (S55))).bind fun y687 => (if y687.length + l0_1.length < 17592186044416 then ((some (y687 ++ l0_1 : List (S55))).bind fun y690 => (if y690.length < 17592186044416 then ((dancestudiolaw50_sooner.f k y679 l0_1 l0_2 a0_3 bt674.1).bind fun t696 => (if t696 = true then ((dancestudiolaw50_sooner.f k l0_0 l0_1 y683 a0_3 bt674.1).bind fun t697 => (if t697 = true then ((dancestudiolaw50_sooner.f k l0_0 (y690 ++ [(⟨1⟩ : S55)]) l0_2 a0_3 bt674.1).bind fun t698 => (if t698 = true then ((dancestudiolaw50_awake.f k).bind fun t699 => (some t699)) else (none))) else (none))) else (none))) else (none))) else (none))) else ((dancestudiolaw50_sooner.f k y679 l0_1 l0_2 a0_3 bt674.1).bind fun t700 => (if t700 = true then ((dancestudiolaw50_sooner.f k l0_0 l0_1 y683 a0_3 bt674.1).bind fun t701 => (if t701 = true then ((dancestudiolaw50_sooner.f k l0_0 l0_1 l0_2 a0_3 bt674.1).bind fun t702 => (if t702 = true then ((dancestudiolaw50_awake.f k).bind fun t703 => (some t703)) else (none))) else (none))) else (none))))) else (none)) else (none)) else (if (l0_1.length : Int) < 4 then ((some (([] : List (S55)) : List (S55))).bind fun y704 => (if y704.length + l0_1.length < 17592186044416 then ((some (y704 ++ l0_1 : List (S55))).bind fun y707 => (if y707.length < 17592186044416 then ((dancestudiolaw50_sooner.f k y679 l0_1 l0_2 a0_3 bt674.1).bind fun t713 => (if t713 = true then ((dancestudiolaw50_sooner.f k l0_0 l0_1 l0_2 a0_3 bt674.1).bind fun t714 => (if t714 = true then ((dancestudiolaw50_sooner.f k l0_0 (y707 ++ [(⟨1⟩ : S55)]) l0_2 a0_3 bt674.1).bind fun t715 => (if t715 = true then ((dancestudiolaw50_awake.f k).bind fun t716 => (some t716)) else (none))) else (none))) else (none))) else (none))) else (none))) else ((dancestudiolaw50_sooner.f k y679 l0_1 l0_2 a0_3 bt674.1).bind fun t717 => (if t717 = true then ((dancestudiolaw50_sooner.f k l0_0 l0_1 l0_2 a0_3 bt674.1).bind fun t718 => (if t718 = true then ((dancestudiolaw50_sooner.f k l0_0 l0_1 l0_2 a0_3 bt674.1).bind fun t719 => (if t719 = true then ((dancestudiolaw50_awake.f k).bind fun t720 => (some t720)) else (none))) else (none))) else (none)))))) else (none)) else (none)) else (if (l0_2.length : Int) > 0 then (if 0 ≤ (wrap64 ((l0_2.length : Int) - 1)) then (if (wrap64 ((l0_2.length : Int) - 1)) ≤ (l0_2.length : Int) then ((some (l0_2.take ((wrap64 ((l0_2.length : Int) - 1)) : Int).toNat : List (S59))).bind fun y721 => (if (l0_1.length : Int) < 4 then ((some (([] : List (S55)) : List (S55))).bind fun y725 => (if y725.length + l0_1.length < 17592186044416 then ((some (y725 ++ l0_1 : List (S55))).bind fun y728 => (if y728.length < 17592186044416 then ((dancestudiolaw50_sooner.f k l0_0 l0_1 l0_2 a0_3 bt674.1).bind fun t734 => (if t734 = true then ((dancestudiolaw50_sooner.f k l0_0 l0_1 y721 a0_3 bt674.1).bind fun t735 => (if t735 = true then ((dancestudiolaw50_sooner.f k l0_0 (y728 ++ [(⟨1⟩ : S55)]) l0_2 a0_3 bt674.1).bind fun t736 => (if t736 = true then ((dancestudiolaw50_awake.f k).bind fun t737 => (some t737)) else (none))) else (none))) else (none))) else (none))) else (none))) else ((dancestudiolaw50_sooner.f k l0_0 l0_1 l0_2 a0_3 bt674.1).bind fun t738 => (if t738 = true then ((dancestudiolaw50_sooner.f k l0_0 l0_1 y721 a0_3 bt674.1).bind fun t739 => (if t739 = true then ((dancestudiolaw50_sooner.f k l0_0 l0_1 l0_2 a0_3 bt674.1).bind fun t740 => (if t740 = true then ((dancestudiolaw50_awake.f k).bind fun t741 => (some t741)) else (none))) else (none))) else (none))))) else (none)) else (none)) else (if (l0_1.length : Int) < 4 then ((some (([] : List (S55)) : List (S55))).bind fun y742 => (if y742.length + l0_1.length < 17592186044416 then ((some (y742 ++ l0_1 : List (S55))).bind fun y745 => (if y745.length < 17592186044416 then ((dancestudiolaw50_sooner.f k l0_0 l0_1 l0_2 a0_3 bt674.1).bind fun t751 => (if t751 = true then ((dancestudiolaw50_sooner.f k l0_0 l0_1 l0_2 a0_3 bt674.1).bind fun t752 => (if t752 = true then ((dancestudiolaw50_sooner.f k l0_0 (y745 ++ [(⟨1⟩ : S55)]) l0_2 a0_3 bt674.1).bind fun t753 => (if t753 = true then ((dancestudiolaw50_awake.f k).bind fun t754 => (some t754)) else (none))) else (none))) else (none))) else (none))) else (none))) else ((dancestudiolaw50_sooner.f k l0_0 l0_1 l0_2 a0_3 bt674.1).bind fun t755 => (if t755 = true then ((dancestudiolaw50_sooner.f k l0_0 l0_1 l0_2 a0_3 bt674.1).bind fun t756 => (if t756 = true then ((dancestudiolaw50_sooner.f k l0_0 l0_1 l0_2 a0_3 bt674.1).bind fun t757 => (if t757 = true then ((dancestudiolaw50_awake.f k).bind fun t758 => (some t758)) else (none))) else (none))) else (none)))))) else (none)))) else ((dancestudiolaw50_awake.f k).bind fun t672 => (some t672))))) else ((dancestudiolaw50_awake.f k).bind fun t666 => (some t666)))) = some r := h
 clear h
 replace H := Option.bind_eq_some_iff.mp H
 obtain ⟨t665, A20, H⟩ := H
 try dsimp only at H
 have A2 := Aside0.mk A20
 clear A20
 by_cases c3 : t665 = true
 ·
  subst c3
  rw [if_pos rfl] at H
  have H1 := H
  clear H
  have H := H1
  clear H1
  replace H := Option.bind_eq_some_iff.mp H
  obtain ⟨t667, A40, H⟩ := H
  try dsimp only at H
  have A4 := Aside0.mk A40
  clear A40
  replace H := Option.bind_eq_some_iff.mp H
  obtain ⟨⟨t668, t671⟩, A50, H⟩ := H
  try dsimp only at H
  have A5 := Aside0.mk A50
  clear A50
  by_cases c6 : t671 = 0
  ·
   rw [if_pos c6] at H
   have c6b0 : (t671 == 0) = true := beq_iff_eq.mpr c6
   have c6b1 : (t671 != 0) = false := bne_eq_false_iff_eq.mpr c6
   clear c6
   replace H := Option.bind_eq_some_iff.mp H
   obtain ⟨t673, A70, H⟩ := H
   try dsimp only at H
   have A7 := Aside0.mk A70
   clear A70
   replace H := Option.bind_eq_some_iff.mp H
   obtain ⟨⟨t674, t675⟩, A80, H⟩ := H
   try dsimp only at H
   have A8 := Aside0.mk A80
   clear A80
   by_cases c9 : t675 = 0
   ·
    rw [if_pos c9] at H
    have c9b0 : (t675 == 0) = true := beq_iff_eq.mpr c9
    have c9b1 : (t675 != 0) = false := bne_eq_false_iff_eq.mpr c9
    clear c9
    have H' := Aside0.mk H
    clear H
    go_enter Try.func8, Try.ntmps8
    try go_wp2_with (first | ((with_reducible refine gate_dst (N := 1) rfl ?_); refine box_event ?hg (N := 1) ?hd (cs := #[.slice A0_0 l0_0.length c0_0, .slice A0_1 l0_1.length c0_1, .slice A0_2 l0_2.length c0_2, .int .i64 a0_3]) (t := 26) ?hr ?_; (case hd => rfl); (case hg => rfl); (case hr => first | (go_simp; done) | (go_simp; rfl)); intro gb664 hg w28 hbox hb; have n0_ := Aside0.mk (below_step (hO HB) hb); have n1_ := Aside0.mk (hbox); have n2_ := Aside0.mk ((by rw [hg]; exact (below_size (hO HB)) : w.heap.size ≤ gb664)); have n3_ := Aside0.mk ((by rw [hg]; exact (below_size (hO HB)) : w.heap.size ≤ gb664)); clear HB; have HB := n0_; have BK664 := n1_; have GW664 := n2_; have GE664 := n3_; clear n0_ n1_ n2_ n3_; clear hb hbox hg; have hcz29_0 : w28.cell? ⟨gb664, 0, none⟩ = some (.slice A0_0 l0_0.length c0_0) := (blk_cell BK664.out 0).trans rfl; have hcz29_1 : w28.cell? ⟨gb664, 1, none⟩ = some (.slice A0_1 l0_1.length c0_1) := (blk_cell BK664.out 1).trans rfl; have hcz29_2 : w28.cell? ⟨gb664, 2, none⟩ = some (.slice A0_2 l0_2.length c0_2) := (blk_cell BK664.out 2).trans rfl; have hcz29_3 : w28.cell? ⟨gb664, 3, none⟩ = some (.int .i64 a0_3) := (blk_cell BK664.out 3).trans rfl; have hfz29_0 := blk_frozen BK664.out 0; have hfz29_1 := blk_frozen BK664.out 1; have hfz29_2 := blk_frozen BK664.out 2; have hfz29_3 := blk_frozen BK664.out 3) | ((with_reducible refine gate_callee (f := 20) rfl ?_); refine goesL_ (some 10) rfl rfl Try.func20 (by kernel_rfl) rfl #[.agg #[.slice A0_0 l0_0.length c0_0, .slice A0_1 l0_1.length c0_1, .slice A0_2 l0_2.length c0_2, .int .i64 a0_3]] rfl (by (try simp only [List.map_toArray, List.map_cons, List.map_nil]); first | done | rfl | (simp only [List.length_drop, List.length_take]; rfl)) ?_; (with_reducible refine (dancestudiolaw50_small.calls _ _ l0_0 _ _ l0_1 _ _ l0_2 a0_3 true _ ?side1 ?side2 ?side3 ?side4 ?side5 ?side6 A2.out).mono ?_); (case side1 => exact Kd.C_below HR0_0.out (hO HB)); (case side2 => exact HC0_0.out); (case side3 => exact Kd.C_below HR0_1.out (hO HB)); (case side4 => exact HC0_1.out); (case side5 => exact Kd.C_below HR0_2.out (hO HB)); (case side6 => exact HC0_2.out); rintro e w30 ⟨rfl, hb⟩; refine ⟨_, rfl, ?_⟩; have n0_ := bbO BK664 hb; have n1_ := Aside0.mk (below_step (hO HB) hb); clear BK664; clear HB; have BK664 := n0_; have HB := n1_; clear n0_ n1_; (try clear hb); (try clear hb2); (try clear hk); (try clear hi); have hcz31_0 : w30.cell? ⟨gb664, 0, none⟩ = some (.slice A0_0 l0_0.length c0_0) := (blk_cell BK664.out 0).trans rfl; have hcz31_1 : w30.cell? ⟨gb664, 1, none⟩ = some (.slice A0_1 l0_1.length c0_1) := (blk_cell BK664.out 1).trans rfl; have hcz31_2 : w30.cell? ⟨gb664, 2, none⟩ = some (.slice A0_2 l0_2.length c0_2) := (blk_cell BK664.out 2).trans rfl; have hcz31_3 : w30.cell? ⟨gb664, 3, none⟩ = some (.int .i64 a0_3) := (blk_cell BK664.out 3).trans rfl; have hfz31_0 := blk_frozen BK664.out 0; have hfz31_1 := blk_frozen BK664.out 1; have hfz31_2 := blk_frozen BK664.out 2; have hfz31_3 := blk_frozen BK664.out 3) | (go_at_call 11; (with_reducible refine (dancestudiolaw50_of.calls  t673 _ A7.out).mono ?_); rintro e w35 ⟨rfl, hb⟩; have n0_ := Aside0.mk (Kd.R_below (rO HO670) hb); have n1_ := bbO BK664 hb; have n2_ := Aside0.mk (below_step (hO HB) hb); clear HO670; clear BK664; clear HB; have HO670 := n0_; have BK664 := n1_; have HB := n2_; clear n0_ n1_ n2_; (try clear hb); (try clear hb2); (try clear hk); (try clear hi); obtain ⟨Ao36, co36, eo36⟩ := Kd.R_slice HO670.out; subst eo36) | ((with_reducible refine gate_callee (f := 21) rfl ?_); refine goesL_ (some 16) rfl rfl Try.func21 (by kernel_rfl) rfl #[.agg #[.slice A0_0 l0_0.length c0_0, .slice A0_1 l0_1.length c0_1, .slice A0_2 l0_2.length c0_2, .int .i64 a0_3]] rfl (by (try simp only [List.map_toArray, List.map_cons, List.map_nil]); first | done | rfl | (simp only [List.length_drop, List.length_take]; rfl)) ?_; (with_reducible refine (rehearse_Plan.calls k _ _ l0_0 _ _ l0_1 _ _ l0_2 a0_3 t668 t671 _ ?side1 ?side2 ?side3 ?side4 ?side5 ?side6 ?sidem_ A5.out).mono ?_); (case sidem_ => exact Mx.below HMX_.out (hO HB)); (case side1 => exact Kd.C_below HR0_0.out (hO HB)); (case side2 => exact HC0_0.out); (case side3 => exact Kd.C_below HR0_1.out (hO HB)); (case side4 => exact HC0_1.out); (case side5 => exact Kd.C_below HR0_2.out (hO HB)); (case side6 => exact HC0_2.out); rintro e w33 ⟨v669, rfl, ho0, hb⟩; refine ⟨_, rfl, ?_⟩; have n0_ := Aside0.mk (Kd.R_lower ho0 (below_size (hO HB))); have n1_ := bbO BK664 hb; have n2_ := Aside0.mk (below_step (hO HB) hb); clear BK664; clear HB; have HO670 := n0_; have BK664 := n1_; have HB := n2_; clear n0_ n1_ n2_; (try clear hb); (try clear hb2); (try clear hk); (try clear hi); (try clear ho0); have hcz34_0 : w33.cell? ⟨gb664, 0, none⟩ = some (.slice A0_0 l0_0.length c0_0) := (blk_cell BK664.out 0).trans rfl; have hcz34_1 : w33.cell? ⟨gb664, 1, none⟩ = some (.slice A0_1 l0_1.length c0_1) := (blk_cell BK664.out 1).trans rfl; have hcz34_2 : w33.cell? ⟨gb664, 2, none⟩ = some (.slice A0_2 l0_2.length c0_2) := (blk_cell BK664.out 2).trans rfl; have hcz34_3 : w33.cell? ⟨gb664, 3, none⟩ = some (.int .i64 a0_3) := (blk_cell BK664.out 3).trans rfl; have hfz34_0 := blk_frozen BK664.out 0; have hfz34_1 := blk_frozen BK664.out 1; have hfz34_2 := blk_frozen BK664.out 2; have hfz34_3 := blk_frozen BK664.out 3) | (go_at_call 11; (with_reducible refine (dancestudiolaw50_of.calls  t667 _ A4.out).mono ?_); rintro e w32 ⟨rfl, hb⟩; have n0_ := bbO BK664 hb; have n1_ := Aside0.mk (below_step (hO HB) hb); clear BK664; clear HB; have BK664 := n0_; have HB := n1_; clear n0_ n1_; (try clear hb); (try clear hb2); (try clear hk); (try clear hi)) | ((with_reducible refine gate_callee (f := 16) rfl ?_); refine goesL_ (some 26) rfl rfl Try.func16 (by kernel_rfl) rfl #[.agg #[.slice A0_0 l0_0.length c0_0, .slice A0_1 l0_1.length c0_1, .slice A0_2 l0_2.length c0_2, .int .i64 a0_3], .slice Ao36 t668.length co36] rfl (by (try simp only [List.map_toArray, List.map_cons, List.map_nil]); first | done | rfl | (simp only [List.length_drop, List.length_take]; rfl)) ?_; (with_reducible refine (rehearse_End.calls k _ _ l0_0 _ _ l0_1 _ _ l0_2 a0_3 _ _ t668 t674 t675 _ ?side1 ?side2 ?side3 ?side4 ?side5 ?side6 ?side7 ?side8 ?sidem_ A8.out).mono ?_); (case sidem_ => exact Mx.below HMX_.out (hO HB)); (case side1 => exact Kd.C_below HR0_0.out (hO HB)); (case side2 => exact HC0_0.out); (case side3 => exact Kd.C_below HR0_1.out (hO HB)); (case side4 => exact HC0_1.out); (case side5 => exact Kd.C_below HR0_2.out (hO HB)); (case side6 => exact HC0_2.out); (case side7 => repeat (first | exact (Kd.R_reads' HO670.out).2.2 | (with_reducible refine Kd.C_alloc ?_ _) | (with_reducible refine Kd.C_drewN ?_ _) | (with_reducible refine Kd.C_drew ?_))); (case side8 => exact (Kd.R_reads' HO670.out).2.1); rintro e w37 ⟨rfl, hb⟩; refine ⟨_, rfl, ?_⟩; have n0_ := Aside0.mk (Kd.R_below (rO HO670) hb); have n1_ := bbO BK664 hb; have n2_ := Aside0.mk (below_step (hO HB) hb); clear HO670; clear BK664; clear HB; have HO670 := n0_; have BK664 := n1_; have HB := n2_; clear n0_ n1_ n2_; (try clear hb); (try clear hb2); (try clear hk); (try clear hi)))
    have n0_ := Aside0.mk (Kd.R_drew HO670.out)
    have n1_ := Aside0.mk (blk_drew BK664.out)
    have n2_ := Aside0.mk (below_drew1 HB.out)
    clear HO670
    clear BK664
    clear HB
    have HO670 := n0_
    have BK664 := n1_
    have HB := n2_
    clear n0_ n1_ n2_
    refine start_ (n := 9) (S := fun w' => w'.cell? ⟨gb664, 0, none⟩ = some (.slice A0_0 l0_0.length c0_0) ∧ w'.cell? ⟨gb664, 1, none⟩ = some (.slice A0_1 l0_1.length c0_1) ∧ w'.cell? ⟨gb664, 2, none⟩ = some (.slice A0_2 l0_2.length c0_2) ∧ w'.cell? ⟨gb664, 3, none⟩ = some (.int .i64 a0_3)) (ds := []) #[false, false, false, false, false, false, false, false, false] (by kernel_rfl) rfl rfl ⟨(blk_cell BK664.out 0).trans rfl, (blk_cell BK664.out 1).trans rfl, (blk_cell BK664.out 2).trans rfl, (blk_cell BK664.out 3).trans rfl⟩ (fun hHeld => ?_); refine with_tabW dancestudiolaw50_RehearseFewer.tab9 dancestudiolaw50_RehearseFewer.bits9 (fun HT_ HW_ => ?_)
    generalize w37.drew = w38 at HO670 BK664 HB hHeld ⊢
    refine take_ (i := 0) (N := some 31) (v := ?_) (a' := ?_) #[true, false, false, false, false, false, false, false, false] rfl rfl (take_ofW HT_.out HW_.out (by kernel_rfl)) (fun _ _ _ h => h) (Or.inl ⟨by rfl, ?_⟩) hHeld ?_ ?_
    rotate_left
    ·
     rintro w' ⟨s0, s1, s2, s3⟩
     go_simp
     with_reducible rfl
    rotate_left
    ·
     simp only [mP]
     rfl
    refine take_ (i := 1) (N := some 32) (v := ?_) (a' := ?_) #[true, true, false, false, false, false, false, false, false] rfl rfl (take_ofW HT_.out HW_.out (by kernel_rfl)) (fun _ _ _ h => h) (Or.inl ⟨by rfl, ?_⟩) hHeld ?_ ?_
    rotate_left
    ·
     rintro w' ⟨s0, s1, s2, s3⟩
     go_simp
     with_reducible rfl
    rotate_left
    ·
     simp only [mP]
     rfl
    refine take_ (i := 2) (N := some 33) (v := ?_) (a' := ?_) #[true, true, true, false, false, false, false, false, false] rfl rfl (take_ofW HT_.out HW_.out (by kernel_rfl)) (fun _ _ _ h => h) (Or.inl ⟨by rfl, ?_⟩) hHeld ?_ ?_
    rotate_left
    ·
     rintro w' ⟨s0, s1, s2, s3⟩
     go_simp
     with_reducible rfl
    rotate_left
    ·
     simp only [mP]
     rfl
    refine join_ (σ := Nat × Nat × Nat) 3 #[true, true, true, true, true, true, false, false, false] (fun s_ => [(6, .pointer (some ⟨s_.1, 0, none⟩)), (7, .pointer (some ⟨s_.2.1, 0, none⟩)), (8, .pointer (some ⟨s_.2.2, 0, none⟩))]) (fun s_ w' => (w'.cell? ⟨gb664, 0, none⟩ = some (.slice A0_0 l0_0.length c0_0) ∧ w'.cell? ⟨gb664, 1, none⟩ = some (.slice A0_1 l0_1.length c0_1) ∧ w'.cell? ⟨gb664, 2, none⟩ = some (.slice A0_2 l0_2.length c0_2) ∧ w'.cell? ⟨gb664, 3, none⟩ = some (.int .i64 a0_3)) ∧ (Kd.R k48 48 w' w.heap.size (fun _ => True) (.slice Ao36 t668.length co36) t668) ∧ (w'.heap[gb664]? = some (.cells #[.slice A0_0 l0_0.length c0_0, .slice A0_1 l0_1.length c0_1, .slice A0_2 l0_2.length c0_2, .int .i64 a0_3] 26 (0, 0))) ∧ (w'.heap[s_.1]? = some (.cells #[.slice none 0 0, .slice none 0 0, .slice none 0 0, .int .i64 0] 26 (0, 0))) ∧ (w'.heap[s_.2.1]? = some (.cells #[.slice none 0 0, .slice none 0 0, .slice none 0 0, .int .i64 0] 26 (0, 0))) ∧ (w'.heap[s_.2.2]? = some (.cells #[.slice none 0 0, .slice none 0 0, .slice none 0 0, .int .i64 0] 26 (0, 0))) ∧ (w.heap.size ≤ s_.1) ∧ (w.heap.size ≤ s_.1) ∧ (gb664 ≠ s_.1) ∧ (s_.1 ≠ gb664) ∧ (s_.2.1 ≠ s_.1) ∧ (s_.1 ≠ s_.2.1) ∧ (s_.2.2 ≠ s_.1) ∧ (s_.1 ≠ s_.2.2) ∧ (w.heap.size ≤ s_.2.1) ∧ (w.heap.size ≤ s_.2.1) ∧ (gb664 ≠ s_.2.1) ∧ (s_.2.1 ≠ gb664) ∧ (s_.2.2 ≠ s_.2.1) ∧ (s_.2.1 ≠ s_.2.2) ∧ (w.heap.size ≤ s_.2.2) ∧ (w.heap.size ≤ s_.2.2) ∧ (gb664 ≠ s_.2.2) ∧ (s_.2.2 ≠ gb664) ∧ (Below w.heap.size w w')) ?_ ?_
    rotate_left
    ·
     intro hJ3_4_5
     refine join_ (σ := Nat × Nat) 4 #[true, true, true, true, true, false, false, false, false] (fun s_ => [(6, .pointer (some ⟨s_.1, 0, none⟩)), (7, .pointer (some ⟨s_.2, 0, none⟩))]) (fun s_ w' => (w'.cell? ⟨gb664, 0, none⟩ = some (.slice A0_0 l0_0.length c0_0) ∧ w'.cell? ⟨gb664, 1, none⟩ = some (.slice A0_1 l0_1.length c0_1) ∧ w'.cell? ⟨gb664, 2, none⟩ = some (.slice A0_2 l0_2.length c0_2) ∧ w'.cell? ⟨gb664, 3, none⟩ = some (.int .i64 a0_3)) ∧ (Kd.R k48 48 w' w.heap.size (fun _ => True) (.slice Ao36 t668.length co36) t668) ∧ (w'.heap[gb664]? = some (.cells #[.slice A0_0 l0_0.length c0_0, .slice A0_1 l0_1.length c0_1, .slice A0_2 l0_2.length c0_2, .int .i64 a0_3] 26 (0, 0))) ∧ (w'.heap[s_.1]? = some (.cells #[.slice none 0 0, .slice none 0 0, .slice none 0 0, .int .i64 0] 26 (0, 0))) ∧ (w'.heap[s_.2]? = some (.cells #[.slice none 0 0, .slice none 0 0, .slice none 0 0, .int .i64 0] 26 (0, 0))) ∧ (w.heap.size ≤ s_.1) ∧ (w.heap.size ≤ s_.1) ∧ (gb664 ≠ s_.1) ∧ (s_.1 ≠ gb664) ∧ (s_.2 ≠ s_.1) ∧ (s_.1 ≠ s_.2) ∧ (w.heap.size ≤ s_.2) ∧ (w.heap.size ≤ s_.2) ∧ (gb664 ≠ s_.2) ∧ (s_.2 ≠ gb664) ∧ (Below w.heap.size w w')) ?_ ?_
     rotate_left
     ·
      intro hJ3_4
      refine join_ (σ := Nat × Nat) 4 #[true, true, true, true, false, true, false, false, false] (fun s_ => [(6, .pointer (some ⟨s_.1, 0, none⟩)), (8, .pointer (some ⟨s_.2, 0, none⟩))]) (fun s_ w' => (w'.cell? ⟨gb664, 0, none⟩ = some (.slice A0_0 l0_0.length c0_0) ∧ w'.cell? ⟨gb664, 1, none⟩ = some (.slice A0_1 l0_1.length c0_1) ∧ w'.cell? ⟨gb664, 2, none⟩ = some (.slice A0_2 l0_2.length c0_2) ∧ w'.cell? ⟨gb664, 3, none⟩ = some (.int .i64 a0_3)) ∧ (Kd.R k48 48 w' w.heap.size (fun _ => True) (.slice Ao36 t668.length co36) t668) ∧ (w'.heap[gb664]? = some (.cells #[.slice A0_0 l0_0.length c0_0, .slice A0_1 l0_1.length c0_1, .slice A0_2 l0_2.length c0_2, .int .i64 a0_3] 26 (0, 0))) ∧ (w'.heap[s_.1]? = some (.cells #[.slice none 0 0, .slice none 0 0, .slice none 0 0, .int .i64 0] 26 (0, 0))) ∧ (w'.heap[s_.2]? = some (.cells #[.slice none 0 0, .slice none 0 0, .slice none 0 0, .int .i64 0] 26 (0, 0))) ∧ (w.heap.size ≤ s_.1) ∧ (w.heap.size ≤ s_.1) ∧ (gb664 ≠ s_.1) ∧ (s_.1 ≠ gb664) ∧ (s_.2 ≠ s_.1) ∧ (s_.1 ≠ s_.2) ∧ (w.heap.size ≤ s_.2) ∧ (w.heap.size ≤ s_.2) ∧ (gb664 ≠ s_.2) ∧ (s_.2 ≠ gb664) ∧ (Below w.heap.size w w')) ?_ ?_
      rotate_left
      ·
       intro hJ3_5
       refine join_ (σ := Nat × Nat) 4 #[true, true, true, false, true, true, false, false, false] (fun s_ => [(7, .pointer (some ⟨s_.1, 0, none⟩)), (8, .pointer (some ⟨s_.2, 0, none⟩))]) (fun s_ w' => (w'.cell? ⟨gb664, 0, none⟩ = some (.slice A0_0 l0_0.length c0_0) ∧ w'.cell? ⟨gb664, 1, none⟩ = some (.slice A0_1 l0_1.length c0_1) ∧ w'.cell? ⟨gb664, 2, none⟩ = some (.slice A0_2 l0_2.length c0_2) ∧ w'.cell? ⟨gb664, 3, none⟩ = some (.int .i64 a0_3)) ∧ (Kd.R k48 48 w' w.heap.size (fun _ => True) (.slice Ao36 t668.length co36) t668) ∧ (w'.heap[gb664]? = some (.cells #[.slice A0_0 l0_0.length c0_0, .slice A0_1 l0_1.length c0_1, .slice A0_2 l0_2.length c0_2, .int .i64 a0_3] 26 (0, 0))) ∧ (w'.heap[s_.1]? = some (.cells #[.slice none 0 0, .slice none 0 0, .slice none 0 0, .int .i64 0] 26 (0, 0))) ∧ (w'.heap[s_.2]? = some (.cells #[.slice none 0 0, .slice none 0 0, .slice none 0 0, .int .i64 0] 26 (0, 0))) ∧ (w.heap.size ≤ s_.1) ∧ (w.heap.size ≤ s_.1) ∧ (gb664 ≠ s_.1) ∧ (s_.1 ≠ gb664) ∧ (s_.2 ≠ s_.1) ∧ (s_.1 ≠ s_.2) ∧ (w.heap.size ≤ s_.2) ∧ (w.heap.size ≤ s_.2) ∧ (gb664 ≠ s_.2) ∧ (s_.2 ≠ gb664) ∧ (Below w.heap.size w w')) ?_ ?_
       rotate_left
       ·
        intro hJ4_5
        refine join_ (σ := Nat) 5 #[true, true, true, true, false, false, false, false, false] (fun s_ => [(6, .pointer (some ⟨s_, 0, none⟩))]) (fun s_ w' => (w'.cell? ⟨gb664, 0, none⟩ = some (.slice A0_0 l0_0.length c0_0) ∧ w'.cell? ⟨gb664, 1, none⟩ = some (.slice A0_1 l0_1.length c0_1) ∧ w'.cell? ⟨gb664, 2, none⟩ = some (.slice A0_2 l0_2.length c0_2) ∧ w'.cell? ⟨gb664, 3, none⟩ = some (.int .i64 a0_3)) ∧ (Kd.R k48 48 w' w.heap.size (fun _ => True) (.slice Ao36 t668.length co36) t668) ∧ (w'.heap[gb664]? = some (.cells #[.slice A0_0 l0_0.length c0_0, .slice A0_1 l0_1.length c0_1, .slice A0_2 l0_2.length c0_2, .int .i64 a0_3] 26 (0, 0))) ∧ (w'.heap[s_]? = some (.cells #[.slice none 0 0, .slice none 0 0, .slice none 0 0, .int .i64 0] 26 (0, 0))) ∧ (w.heap.size ≤ s_) ∧ (w.heap.size ≤ s_) ∧ (gb664 ≠ s_) ∧ (s_ ≠ gb664) ∧ (Below w.heap.size w w')) ?_ ?_
        rotate_left
        ·
         intro hJ3
         refine join_ (σ := Nat) 5 #[true, true, true, false, true, false, false, false, false] (fun s_ => [(7, .pointer (some ⟨s_, 0, none⟩))]) (fun s_ w' => (w'.cell? ⟨gb664, 0, none⟩ = some (.slice A0_0 l0_0.length c0_0) ∧ w'.cell? ⟨gb664, 1, none⟩ = some (.slice A0_1 l0_1.length c0_1) ∧ w'.cell? ⟨gb664, 2, none⟩ = some (.slice A0_2 l0_2.length c0_2) ∧ w'.cell? ⟨gb664, 3, none⟩ = some (.int .i64 a0_3)) ∧ (Kd.R k48 48 w' w.heap.size (fun _ => True) (.slice Ao36 t668.length co36) t668) ∧ (w'.heap[gb664]? = some (.cells #[.slice A0_0 l0_0.length c0_0, .slice A0_1 l0_1.length c0_1, .slice A0_2 l0_2.length c0_2, .int .i64 a0_3] 26 (0, 0))) ∧ (w'.heap[s_]? = some (.cells #[.slice none 0 0, .slice none 0 0, .slice none 0 0, .int .i64 0] 26 (0, 0))) ∧ (w.heap.size ≤ s_) ∧ (w.heap.size ≤ s_) ∧ (gb664 ≠ s_) ∧ (s_ ≠ gb664) ∧ (Below w.heap.size w w')) ?_ ?_
         rotate_left
         ·
          intro hJ4
          refine join_ (σ := Nat) 5 #[true, true, true, false, false, true, false, false, false] (fun s_ => [(8, .pointer (some ⟨s_, 0, none⟩))]) (fun s_ w' => (w'.cell? ⟨gb664, 0, none⟩ = some (.slice A0_0 l0_0.length c0_0) ∧ w'.cell? ⟨gb664, 1, none⟩ = some (.slice A0_1 l0_1.length c0_1) ∧ w'.cell? ⟨gb664, 2, none⟩ = some (.slice A0_2 l0_2.length c0_2) ∧ w'.cell? ⟨gb664, 3, none⟩ = some (.int .i64 a0_3)) ∧ (Kd.R k48 48 w' w.heap.size (fun _ => True) (.slice Ao36 t668.length co36) t668) ∧ (w'.heap[gb664]? = some (.cells #[.slice A0_0 l0_0.length c0_0, .slice A0_1 l0_1.length c0_1, .slice A0_2 l0_2.length c0_2, .int .i64 a0_3] 26 (0, 0))) ∧ (w'.heap[s_]? = some (.cells #[.slice none 0 0, .slice none 0 0, .slice none 0 0, .int .i64 0] 26 (0, 0))) ∧ (w.heap.size ≤ s_) ∧ (w.heap.size ≤ s_) ∧ (gb664 ≠ s_) ∧ (s_ ≠ gb664) ∧ (Below w.heap.size w w')) ?_ ?_
          rotate_left
          ·
           intro hJ5
           refine three_ (i := 3) (j := 4) (k := 5) (Ni := some 6) (Nj := some 7) (Nk := some 8) #[true, true, true, true, false, false, false, false, false] #[true, true, true, false, true, false, false, false, false] #[true, true, true, false, false, true, false, false, false] rfl rfl rfl rfl rfl rfl (three_of HT_.out (by kernel_rfl)) (by decide) (by decide) (by decide) (fun K hK => ?_) (fun K hK => ?_) (fun K hK => ?_)
           ·
            skip
            refine box_step ?hg (N := 6) ?hd (cs := #[.slice none 0 0, .slice none 0 0, .slice none 0 0, .int .i64 0]) (t := 26) ?hr ?_; (case hd => rfl); (case hg => rfl); (case hr => first | (go_simp; done) | (go_simp; rfl))
            intro gb676 hg w39 hbox hb
            have n0_ := Aside0.mk (Kd.R_below (rO HO670) hb)
            have n1_ := bbO BK664 hb
            have n2_ := Aside0.mk (below_step (hO HB) hb)
            have n3_ := Aside0.mk (hbox)
            have n4_ := Aside0.mk ((by rw [hg]; exact (below_size (hO HB)) : w.heap.size ≤ gb676))
            have n5_ := Aside0.mk ((by rw [hg]; exact (below_size (hO HB)) : w.heap.size ≤ gb676))
            have n6_ := Aside0.mk ((by rw [hg]; exact Nat.ne_of_lt (blk_lt (g := gb664) (o := .cells #[.slice A0_0 l0_0.length c0_0, .slice A0_1 l0_1.length c0_1, .slice A0_2 l0_2.length c0_2, .int .i64 a0_3] 26 (0, 0)) (bO BK664)) : gb664 ≠ gb676))
            have n7_ := Aside0.mk ((by rw [hg]; exact Nat.ne_of_gt (blk_lt (g := gb664) (o := .cells #[.slice A0_0 l0_0.length c0_0, .slice A0_1 l0_1.length c0_1, .slice A0_2 l0_2.length c0_2, .int .i64 a0_3] 26 (0, 0)) (bO BK664)) : gb676 ≠ gb664))
            clear HO670
            clear BK664
            clear HB
            have HO670 := n0_
            have BK664 := n1_
            have HB := n2_
            have BK676 := n3_
            have GW676 := n4_
            have GE676 := n5_
            have NB664_676 := n6_
            have NB676_664 := n7_
            clear n0_ n1_ n2_ n3_ n4_ n5_ n6_ n7_
            clear hb hbox hg
            refine hK.out _ _ ⟨(blk_cell BK664.out 0).trans rfl, (blk_cell BK664.out 1).trans rfl, (blk_cell BK664.out 2).trans rfl, (blk_cell BK664.out 3).trans rfl⟩ (fun hHeld => ?_)
            clear hK K
            refine norm_ (a' := ?_) ?_ ?_
            rotate_left
            ·
             show Act.put _ (some 6) _ = _
             simp only [mP]
             rfl
            exact norm_ (by first | (simp only [putAll, mP]; done) | (simp only [putAll, mP]; rfl)) (hJ3 (gb676) _ ⟨hHeld, (rO HO670), (bO BK664), (bO BK676), GW676.out, GE676.out, NB664_676.out, NB676_664.out, (hO HB)⟩)
           ·
            skip
            refine box_step ?hg (N := 7) ?hd (cs := #[.slice none 0 0, .slice none 0 0, .slice none 0 0, .int .i64 0]) (t := 26) ?hr ?_; (case hd => rfl); (case hg => rfl); (case hr => first | (go_simp; done) | (go_simp; rfl))
            intro gb677 hg w39 hbox hb
            have n0_ := Aside0.mk (Kd.R_below (rO HO670) hb)
            have n1_ := bbO BK664 hb
            have n2_ := Aside0.mk (below_step (hO HB) hb)
            have n3_ := Aside0.mk (hbox)
            have n4_ := Aside0.mk ((by rw [hg]; exact (below_size (hO HB)) : w.heap.size ≤ gb677))
            have n5_ := Aside0.mk ((by rw [hg]; exact (below_size (hO HB)) : w.heap.size ≤ gb677))
            have n6_ := Aside0.mk ((by rw [hg]; exact Nat.ne_of_lt (blk_lt (g := gb664) (o := .cells #[.slice A0_0 l0_0.length c0_0, .slice A0_1 l0_1.length c0_1, .slice A0_2 l0_2.length c0_2, .int .i64 a0_3] 26 (0, 0)) (bO BK664)) : gb664 ≠ gb677))
            have n7_ := Aside0.mk ((by rw [hg]; exact Nat.ne_of_gt (blk_lt (g := gb664) (o := .cells #[.slice A0_0 l0_0.length c0_0, .slice A0_1 l0_1.length c0_1, .slice A0_2 l0_2.length c0_2, .int .i64 a0_3] 26 (0, 0)) (bO BK664)) : gb677 ≠ gb664))
            clear HO670
            clear BK664
            clear HB
            have HO670 := n0_
            have BK664 := n1_
            have HB := n2_
            have BK677 := n3_
            have GW677 := n4_
            have GE677 := n5_
            have NB664_677 := n6_
            have NB677_664 := n7_
            clear n0_ n1_ n2_ n3_ n4_ n5_ n6_ n7_
            clear hb hbox hg
            refine hK.out _ _ ⟨(blk_cell BK664.out 0).trans rfl, (blk_cell BK664.out 1).trans rfl, (blk_cell BK664.out 2).trans rfl, (blk_cell BK664.out 3).trans rfl⟩ (fun hHeld => ?_)
            clear hK K
            refine norm_ (a' := ?_) ?_ ?_
            rotate_left
            ·
             show Act.put _ (some 7) _ = _
             simp only [mP]
             rfl
            exact norm_ (by first | (simp only [putAll, mP]; done) | (simp only [putAll, mP]; rfl)) (hJ4 (gb677) _ ⟨hHeld, (rO HO670), (bO BK664), (bO BK677), GW677.out, GE677.out, NB664_677.out, NB677_664.out, (hO HB)⟩)
           ·
            skip
            refine box_step ?hg (N := 8) ?hd (cs := #[.slice none 0 0, .slice none 0 0, .slice none 0 0, .int .i64 0]) (t := 26) ?hr ?_; (case hd => rfl); (case hg => rfl); (case hr => first | (go_simp; done) | (go_simp; rfl))
            intro gb678 hg w39 hbox hb
            have n0_ := Aside0.mk (Kd.R_below (rO HO670) hb)
            have n1_ := bbO BK664 hb
            have n2_ := Aside0.mk (below_step (hO HB) hb)
            have n3_ := Aside0.mk (hbox)
            have n4_ := Aside0.mk ((by rw [hg]; exact (below_size (hO HB)) : w.heap.size ≤ gb678))
            have n5_ := Aside0.mk ((by rw [hg]; exact (below_size (hO HB)) : w.heap.size ≤ gb678))
            have n6_ := Aside0.mk ((by rw [hg]; exact Nat.ne_of_lt (blk_lt (g := gb664) (o := .cells #[.slice A0_0 l0_0.length c0_0, .slice A0_1 l0_1.length c0_1, .slice A0_2 l0_2.length c0_2, .int .i64 a0_3] 26 (0, 0)) (bO BK664)) : gb664 ≠ gb678))
            have n7_ := Aside0.mk ((by rw [hg]; exact Nat.ne_of_gt (blk_lt (g := gb664) (o := .cells #[.slice A0_0 l0_0.length c0_0, .slice A0_1 l0_1.length c0_1, .slice A0_2 l0_2.length c0_2, .int .i64 a0_3] 26 (0, 0)) (bO BK664)) : gb678 ≠ gb664))
            clear HO670
            clear BK664
            clear HB
            have HO670 := n0_
            have BK664 := n1_
            have HB := n2_
            have BK678 := n3_
            have GW678 := n4_
            have GE678 := n5_
            have NB664_678 := n6_
            have NB678_664 := n7_
            clear n0_ n1_ n2_ n3_ n4_ n5_ n6_ n7_
            clear hb hbox hg
            refine hK.out _ _ ⟨(blk_cell BK664.out 0).trans rfl, (blk_cell BK664.out 1).trans rfl, (blk_cell BK664.out 2).trans rfl, (blk_cell BK664.out 3).trans rfl⟩ (fun hHeld => ?_)
            clear hK K
            refine norm_ (a' := ?_) ?_ ?_
            rotate_left
            ·
             show Act.put _ (some 8) _ = _
             simp only [mP]
             rfl
            exact norm_ (by first | (simp only [putAll, mP]; done) | (simp only [putAll, mP]; rfl)) (hJ5 (gb678) _ ⟨hHeld, (rO HO670), (bO BK664), (bO BK678), GW678.out, GE678.out, NB664_678.out, NB678_664.out, (hO HB)⟩)
          ·
           skip
           rintro gb678 w40 ⟨hS_, h0_, h1_, h2_, h3_, h4_, h5_, h6_, h7_⟩
           have n0_ : Aside0 (Kd.R k48 48 w40 w.heap.size (fun _ => True) (.slice Ao36 t668.length co36) t668) := ⟨h0_⟩
           have n1_ : Aside0 (w40.heap[gb664]? = some (.cells #[.slice A0_0 l0_0.length c0_0, .slice A0_1 l0_1.length c0_1, .slice A0_2 l0_2.length c0_2, .int .i64 a0_3] 26 (0, 0))) := ⟨h1_⟩
           have n2_ : Aside0 (w40.heap[gb678]? = some (.cells #[.slice none 0 0, .slice none 0 0, .slice none 0 0, .int .i64 0] 26 (0, 0))) := ⟨h2_⟩
           have n3_ : Aside0 (w.heap.size ≤ gb678) := ⟨h3_⟩
           have n4_ : Aside0 (w.heap.size ≤ gb678) := ⟨h4_⟩
           have n5_ : Aside0 (gb664 ≠ gb678) := ⟨h5_⟩
           have n6_ : Aside0 (gb678 ≠ gb664) := ⟨h6_⟩
           have n7_ : Aside0 (Below w.heap.size w w40) := ⟨h7_⟩
           clear HO670
           clear BK664
           clear HB
           clear h0_ h1_ h2_ h3_ h4_ h5_ h6_ h7_
           have HO670 := n0_
           have BK664 := n1_
           have BK678 := n2_
           have GW678 := n3_
           have GE678 := n4_
           have NB664_678 := n5_
           have NB678_664 := n6_
           have HB := n7_
           clear n0_ n1_ n2_ n3_ n4_ n5_ n6_ n7_
           have hHeld : w40.cell? ⟨gb664, 0, none⟩ = some (.slice A0_0 l0_0.length c0_0) ∧ w40.cell? ⟨gb664, 1, none⟩ = some (.slice A0_1 l0_1.length c0_1) ∧ w40.cell? ⟨gb664, 2, none⟩ = some (.slice A0_2 l0_2.length c0_2) ∧ w40.cell? ⟨gb664, 3, none⟩ = some (.int .i64 a0_3) := hS_
           refine norm_ (a' := ?_) ?_ ?_
           rotate_left
           ·
            simp only [putAll, mP]
            rfl
           refine two_ (i := 3) (j := 4) (Ni := some 6) (Nj := some 7) #[true, true, true, true, false, true, false, false, false] #[true, true, true, false, true, true, false, false, false] rfl rfl rfl rfl (two_of HT_.out (by kernel_rfl)) (by decide) (by decide) (fun K hK => ?_) (fun K hK => ?_)
           ·
            skip
            refine box_step ?hg (N := 6) ?hd (cs := #[.slice none 0 0, .slice none 0 0, .slice none 0 0, .int .i64 0]) (t := 26) ?hr ?_; (case hd => rfl); (case hg => rfl); (case hr => first | (go_simp; done) | (go_simp; rfl))
            intro gb676 hg w41 hbox hb
            have n0_ := Aside0.mk (Kd.R_below (rO HO670) hb)
            have n1_ := bbO BK664 hb
            have n2_ := bbO BK678 hb
            have n3_ := Aside0.mk (below_step (hO HB) hb)
            have n4_ := Aside0.mk (hbox)
            have n5_ := Aside0.mk ((by rw [hg]; exact (below_size (hO HB)) : w.heap.size ≤ gb676))
            have n6_ := Aside0.mk ((by rw [hg]; exact (below_size (hO HB)) : w.heap.size ≤ gb676))
            have n7_ := Aside0.mk ((by rw [hg]; exact Nat.ne_of_lt (blk_lt (g := gb664) (o := .cells #[.slice A0_0 l0_0.length c0_0, .slice A0_1 l0_1.length c0_1, .slice A0_2 l0_2.length c0_2, .int .i64 a0_3] 26 (0, 0)) (bO BK664)) : gb664 ≠ gb676))
            have n8_ := Aside0.mk ((by rw [hg]; exact Nat.ne_of_gt (blk_lt (g := gb664) (o := .cells #[.slice A0_0 l0_0.length c0_0, .slice A0_1 l0_1.length c0_1, .slice A0_2 l0_2.length c0_2, .int .i64 a0_3] 26 (0, 0)) (bO BK664)) : gb676 ≠ gb664))
            have n9_ := Aside0.mk ((by rw [hg]; exact Nat.ne_of_lt (blk_lt (g := gb678) (o := .cells #[.slice none 0 0, .slice none 0 0, .slice none 0 0, .int .i64 0] 26 (0, 0)) (bO BK678)) : gb678 ≠ gb676))
            have n10_ := Aside0.mk ((by rw [hg]; exact Nat.ne_of_gt (blk_lt (g := gb678) (o := .cells #[.slice none 0 0, .slice none 0 0, .slice none 0 0, .int .i64 0] 26 (0, 0)) (bO BK678)) : gb676 ≠ gb678))
            clear HO670
            clear BK664
            clear BK678
            clear HB
            have HO670 := n0_
            have BK664 := n1_
            have BK678 := n2_
            have HB := n3_
            have BK676 := n4_
            have GW676 := n5_
            have GE676 := n6_
            have NB664_676 := n7_
            have NB676_664 := n8_
            have NB678_676 := n9_
            have NB676_678 := n10_
            clear n0_ n1_ n2_ n3_ n4_ n5_ n6_ n7_ n8_ n9_ n10_
            clear hb hbox hg
            refine hK.out _ _ ⟨(blk_cell BK664.out 0).trans rfl, (blk_cell BK664.out 1).trans rfl, (blk_cell BK664.out 2).trans rfl, (blk_cell BK664.out 3).trans rfl⟩ (fun hHeld => ?_)
            clear hK K
            refine norm_ (a' := ?_) ?_ ?_
            rotate_left
            ·
             show Act.put _ (some 6) _ = _
             simp only [mP]
             rfl
            exact norm_ (by first | (simp only [putAll, mP]; done) | (simp only [putAll, mP]; rfl)) (hJ3_5 (gb676, gb678) _ ⟨hHeld, (rO HO670), (bO BK664), (bO BK676), (bO BK678), GW676.out, GE676.out, NB664_676.out, NB676_664.out, NB678_676.out, NB676_678.out, GW678.out, GE678.out, NB664_678.out, NB678_664.out, (hO HB)⟩)
           ·
            skip
            refine box_step ?hg (N := 7) ?hd (cs := #[.slice none 0 0, .slice none 0 0, .slice none 0 0, .int .i64 0]) (t := 26) ?hr ?_; (case hd => rfl); (case hg => rfl); (case hr => first | (go_simp; done) | (go_simp; rfl))
            intro gb677 hg w41 hbox hb
            have n0_ := Aside0.mk (Kd.R_below (rO HO670) hb)
            have n1_ := bbO BK664 hb
            have n2_ := bbO BK678 hb
            have n3_ := Aside0.mk (below_step (hO HB) hb)
            have n4_ := Aside0.mk (hbox)
            have n5_ := Aside0.mk ((by rw [hg]; exact (below_size (hO HB)) : w.heap.size ≤ gb677))
            have n6_ := Aside0.mk ((by rw [hg]; exact (below_size (hO HB)) : w.heap.size ≤ gb677))
            have n7_ := Aside0.mk ((by rw [hg]; exact Nat.ne_of_lt (blk_lt (g := gb664) (o := .cells #[.slice A0_0 l0_0.length c0_0, .slice A0_1 l0_1.length c0_1, .slice A0_2 l0_2.length c0_2, .int .i64 a0_3] 26 (0, 0)) (bO BK664)) : gb664 ≠ gb677))
            have n8_ := Aside0.mk ((by rw [hg]; exact Nat.ne_of_gt (blk_lt (g := gb664) (o := .cells #[.slice A0_0 l0_0.length c0_0, .slice A0_1 l0_1.length c0_1, .slice A0_2 l0_2.length c0_2, .int .i64 a0_3] 26 (0, 0)) (bO BK664)) : gb677 ≠ gb664))
            have n9_ := Aside0.mk ((by rw [hg]; exact Nat.ne_of_lt (blk_lt (g := gb678) (o := .cells #[.slice none 0 0, .slice none 0 0, .slice none 0 0, .int .i64 0] 26 (0, 0)) (bO BK678)) : gb678 ≠ gb677))
            have n10_ := Aside0.mk ((by rw [hg]; exact Nat.ne_of_gt (blk_lt (g := gb678) (o := .cells #[.slice none 0 0, .slice none 0 0, .slice none 0 0, .int .i64 0] 26 (0, 0)) (bO BK678)) : gb677 ≠ gb678))
            clear HO670
            clear BK664
            clear BK678
            clear HB
            have HO670 := n0_
            have BK664 := n1_
            have BK678 := n2_
            have HB := n3_
            have BK677 := n4_
            have GW677 := n5_
            have GE677 := n6_
            have NB664_677 := n7_
            have NB677_664 := n8_
            have NB678_677 := n9_
            have NB677_678 := n10_
            clear n0_ n1_ n2_ n3_ n4_ n5_ n6_ n7_ n8_ n9_ n10_
            clear hb hbox hg
            refine hK.out _ _ ⟨(blk_cell BK664.out 0).trans rfl, (blk_cell BK664.out 1).trans rfl, (blk_cell BK664.out 2).trans rfl, (blk_cell BK664.out 3).trans rfl⟩ (fun hHeld => ?_)
            clear hK K
            refine norm_ (a' := ?_) ?_ ?_
            rotate_left
            ·
             show Act.put _ (some 7) _ = _
             simp only [mP]
             rfl
            exact norm_ (by first | (simp only [putAll, mP]; done) | (simp only [putAll, mP]; rfl)) (hJ4_5 (gb677, gb678) _ ⟨hHeld, (rO HO670), (bO BK664), (bO BK677), (bO BK678), GW677.out, GE677.out, NB664_677.out, NB677_664.out, NB678_677.out, NB677_678.out, GW678.out, GE678.out, NB664_678.out, NB678_664.out, (hO HB)⟩)
         ·
          skip
          rintro gb677 w40 ⟨hS_, h0_, h1_, h2_, h3_, h4_, h5_, h6_, h7_⟩
          have n0_ : Aside0 (Kd.R k48 48 w40 w.heap.size (fun _ => True) (.slice Ao36 t668.length co36) t668) := ⟨h0_⟩
          have n1_ : Aside0 (w40.heap[gb664]? = some (.cells #[.slice A0_0 l0_0.length c0_0, .slice A0_1 l0_1.length c0_1, .slice A0_2 l0_2.length c0_2, .int .i64 a0_3] 26 (0, 0))) := ⟨h1_⟩
          have n2_ : Aside0 (w40.heap[gb677]? = some (.cells #[.slice none 0 0, .slice none 0 0, .slice none 0 0, .int .i64 0] 26 (0, 0))) := ⟨h2_⟩
          have n3_ : Aside0 (w.heap.size ≤ gb677) := ⟨h3_⟩
          have n4_ : Aside0 (w.heap.size ≤ gb677) := ⟨h4_⟩
          have n5_ : Aside0 (gb664 ≠ gb677) := ⟨h5_⟩
          have n6_ : Aside0 (gb677 ≠ gb664) := ⟨h6_⟩
          have n7_ : Aside0 (Below w.heap.size w w40) := ⟨h7_⟩
          clear HO670
          clear BK664
          clear HB
          clear h0_ h1_ h2_ h3_ h4_ h5_ h6_ h7_
          have HO670 := n0_
          have BK664 := n1_
          have BK677 := n2_
          have GW677 := n3_
          have GE677 := n4_
          have NB664_677 := n5_
          have NB677_664 := n6_
          have HB := n7_
          clear n0_ n1_ n2_ n3_ n4_ n5_ n6_ n7_
          have hHeld : w40.cell? ⟨gb664, 0, none⟩ = some (.slice A0_0 l0_0.length c0_0) ∧ w40.cell? ⟨gb664, 1, none⟩ = some (.slice A0_1 l0_1.length c0_1) ∧ w40.cell? ⟨gb664, 2, none⟩ = some (.slice A0_2 l0_2.length c0_2) ∧ w40.cell? ⟨gb664, 3, none⟩ = some (.int .i64 a0_3) := hS_
          refine norm_ (a' := ?_) ?_ ?_
          rotate_left
          ·
           simp only [putAll, mP]
           rfl
          refine two_ (i := 3) (j := 5) (Ni := some 6) (Nj := some 8) #[true, true, true, true, true, false, false, false, false] #[true, true, true, false, true, true, false, false, false] rfl rfl rfl rfl (two_of HT_.out (by kernel_rfl)) (by decide) (by decide) (fun K hK => ?_) (fun K hK => ?_)
          ·
           skip
           refine box_step ?hg (N := 6) ?hd (cs := #[.slice none 0 0, .slice none 0 0, .slice none 0 0, .int .i64 0]) (t := 26) ?hr ?_; (case hd => rfl); (case hg => rfl); (case hr => first | (go_simp; done) | (go_simp; rfl))
           intro gb676 hg w41 hbox hb
           have n0_ := Aside0.mk (Kd.R_below (rO HO670) hb)
           have n1_ := bbO BK664 hb
           have n2_ := bbO BK677 hb
           have n3_ := Aside0.mk (below_step (hO HB) hb)
           have n4_ := Aside0.mk (hbox)
           have n5_ := Aside0.mk ((by rw [hg]; exact (below_size (hO HB)) : w.heap.size ≤ gb676))
           have n6_ := Aside0.mk ((by rw [hg]; exact (below_size (hO HB)) : w.heap.size ≤ gb676))
           have n7_ := Aside0.mk ((by rw [hg]; exact Nat.ne_of_lt (blk_lt (g := gb664) (o := .cells #[.slice A0_0 l0_0.length c0_0, .slice A0_1 l0_1.length c0_1, .slice A0_2 l0_2.length c0_2, .int .i64 a0_3] 26 (0, 0)) (bO BK664)) : gb664 ≠ gb676))
           have n8_ := Aside0.mk ((by rw [hg]; exact Nat.ne_of_gt (blk_lt (g := gb664) (o := .cells #[.slice A0_0 l0_0.length c0_0, .slice A0_1 l0_1.length c0_1, .slice A0_2 l0_2.length c0_2, .int .i64 a0_3] 26 (0, 0)) (bO BK664)) : gb676 ≠ gb664))
           have n9_ := Aside0.mk ((by rw [hg]; exact Nat.ne_of_lt (blk_lt (g := gb677) (o := .cells #[.slice none 0 0, .slice none 0 0, .slice none 0 0, .int .i64 0] 26 (0, 0)) (bO BK677)) : gb677 ≠ gb676))
           have n10_ := Aside0.mk ((by rw [hg]; exact Nat.ne_of_gt (blk_lt (g := gb677) (o := .cells #[.slice none 0 0, .slice none 0 0, .slice none 0 0, .int .i64 0] 26 (0, 0)) (bO BK677)) : gb676 ≠ gb677))
           clear HO670
           clear BK664
           clear BK677
           clear HB
           have HO670 := n0_
           have BK664 := n1_
           have BK677 := n2_
           have HB := n3_
           have BK676 := n4_
           have GW676 := n5_
           have GE676 := n6_
           have NB664_676 := n7_
           have NB676_664 := n8_
           have NB677_676 := n9_
           have NB676_677 := n10_
           clear n0_ n1_ n2_ n3_ n4_ n5_ n6_ n7_ n8_ n9_ n10_
           clear hb hbox hg
           refine hK.out _ _ ⟨(blk_cell BK664.out 0).trans rfl, (blk_cell BK664.out 1).trans rfl, (blk_cell BK664.out 2).trans rfl, (blk_cell BK664.out 3).trans rfl⟩ (fun hHeld => ?_)
           clear hK K
           refine norm_ (a' := ?_) ?_ ?_
           rotate_left
           ·
            show Act.put _ (some 6) _ = _
            simp only [mP]
            rfl
           exact norm_ (by first | (simp only [putAll, mP]; done) | (simp only [putAll, mP]; rfl)) (hJ3_4 (gb676, gb677) _ ⟨hHeld, (rO HO670), (bO BK664), (bO BK676), (bO BK677), GW676.out, GE676.out, NB664_676.out, NB676_664.out, NB677_676.out, NB676_677.out, GW677.out, GE677.out, NB664_677.out, NB677_664.out, (hO HB)⟩)
          ·
           skip
           refine box_step ?hg (N := 8) ?hd (cs := #[.slice none 0 0, .slice none 0 0, .slice none 0 0, .int .i64 0]) (t := 26) ?hr ?_; (case hd => rfl); (case hg => rfl); (case hr => first | (go_simp; done) | (go_simp; rfl))
           intro gb678 hg w41 hbox hb
           have n0_ := Aside0.mk (Kd.R_below (rO HO670) hb)
           have n1_ := bbO BK664 hb
           have n2_ := bbO BK677 hb
           have n3_ := Aside0.mk (below_step (hO HB) hb)
           have n4_ := Aside0.mk (hbox)
           have n5_ := Aside0.mk ((by rw [hg]; exact (below_size (hO HB)) : w.heap.size ≤ gb678))
           have n6_ := Aside0.mk ((by rw [hg]; exact (below_size (hO HB)) : w.heap.size ≤ gb678))
           have n7_ := Aside0.mk ((by rw [hg]; exact Nat.ne_of_lt (blk_lt (g := gb664) (o := .cells #[.slice A0_0 l0_0.length c0_0, .slice A0_1 l0_1.length c0_1, .slice A0_2 l0_2.length c0_2, .int .i64 a0_3] 26 (0, 0)) (bO BK664)) : gb664 ≠ gb678))
           have n8_ := Aside0.mk ((by rw [hg]; exact Nat.ne_of_gt (blk_lt (g := gb664) (o := .cells #[.slice A0_0 l0_0.length c0_0, .slice A0_1 l0_1.length c0_1, .slice A0_2 l0_2.length c0_2, .int .i64 a0_3] 26 (0, 0)) (bO BK664)) : gb678 ≠ gb664))
           have n9_ := Aside0.mk ((by rw [hg]; exact Nat.ne_of_lt (blk_lt (g := gb677) (o := .cells #[.slice none 0 0, .slice none 0 0, .slice none 0 0, .int .i64 0] 26 (0, 0)) (bO BK677)) : gb677 ≠ gb678))
           have n10_ := Aside0.mk ((by rw [hg]; exact Nat.ne_of_gt (blk_lt (g := gb677) (o := .cells #[.slice none 0 0, .slice none 0 0, .slice none 0 0, .int .i64 0] 26 (0, 0)) (bO BK677)) : gb678 ≠ gb677))
           clear HO670
           clear BK664
           clear BK677
           clear HB
           have HO670 := n0_
           have BK664 := n1_
           have BK677 := n2_
           have HB := n3_
           have BK678 := n4_
           have GW678 := n5_
           have GE678 := n6_
           have NB664_678 := n7_
           have NB678_664 := n8_
           have NB677_678 := n9_
           have NB678_677 := n10_
           clear n0_ n1_ n2_ n3_ n4_ n5_ n6_ n7_ n8_ n9_ n10_
           clear hb hbox hg
           refine hK.out _ _ ⟨(blk_cell BK664.out 0).trans rfl, (blk_cell BK664.out 1).trans rfl, (blk_cell BK664.out 2).trans rfl, (blk_cell BK664.out 3).trans rfl⟩ (fun hHeld => ?_)
           clear hK K
           refine norm_ (a' := ?_) ?_ ?_
           rotate_left
           ·
            show Act.put _ (some 8) _ = _
            simp only [mP]
            rfl
           exact norm_ (by first | (simp only [putAll, mP]; done) | (simp only [putAll, mP]; rfl)) (hJ4_5 (gb677, gb678) _ ⟨hHeld, (rO HO670), (bO BK664), (bO BK677), (bO BK678), GW677.out, GE677.out, NB664_677.out, NB677_664.out, NB678_677.out, NB677_678.out, GW678.out, GE678.out, NB664_678.out, NB678_664.out, (hO HB)⟩)
        ·
         skip
         rintro gb676 w40 ⟨hS_, h0_, h1_, h2_, h3_, h4_, h5_, h6_, h7_⟩
         have n0_ : Aside0 (Kd.R k48 48 w40 w.heap.size (fun _ => True) (.slice Ao36 t668.length co36) t668) := ⟨h0_⟩
         have n1_ : Aside0 (w40.heap[gb664]? = some (.cells #[.slice A0_0 l0_0.length c0_0, .slice A0_1 l0_1.length c0_1, .slice A0_2 l0_2.length c0_2, .int .i64 a0_3] 26 (0, 0))) := ⟨h1_⟩
         have n2_ : Aside0 (w40.heap[gb676]? = some (.cells #[.slice none 0 0, .slice none 0 0, .slice none 0 0, .int .i64 0] 26 (0, 0))) := ⟨h2_⟩
         have n3_ : Aside0 (w.heap.size ≤ gb676) := ⟨h3_⟩
         have n4_ : Aside0 (w.heap.size ≤ gb676) := ⟨h4_⟩
         have n5_ : Aside0 (gb664 ≠ gb676) := ⟨h5_⟩
         have n6_ : Aside0 (gb676 ≠ gb664) := ⟨h6_⟩
         have n7_ : Aside0 (Below w.heap.size w w40) := ⟨h7_⟩
         clear HO670
         clear BK664
         clear HB
         clear h0_ h1_ h2_ h3_ h4_ h5_ h6_ h7_
         have HO670 := n0_
         have BK664 := n1_
         have BK676 := n2_
         have GW676 := n3_
         have GE676 := n4_
         have NB664_676 := n5_
         have NB676_664 := n6_
         have HB := n7_
         clear n0_ n1_ n2_ n3_ n4_ n5_ n6_ n7_
         have hHeld : w40.cell? ⟨gb664, 0, none⟩ = some (.slice A0_0 l0_0.length c0_0) ∧ w40.cell? ⟨gb664, 1, none⟩ = some (.slice A0_1 l0_1.length c0_1) ∧ w40.cell? ⟨gb664, 2, none⟩ = some (.slice A0_2 l0_2.length c0_2) ∧ w40.cell? ⟨gb664, 3, none⟩ = some (.int .i64 a0_3) := hS_
         refine norm_ (a' := ?_) ?_ ?_
         rotate_left
         ·
          simp only [putAll, mP]
          rfl
         refine two_ (i := 4) (j := 5) (Ni := some 7) (Nj := some 8) #[true, true, true, true, true, false, false, false, false] #[true, true, true, true, false, true, false, false, false] rfl rfl rfl rfl (two_of HT_.out (by kernel_rfl)) (by decide) (by decide) (fun K hK => ?_) (fun K hK => ?_)
         ·
          skip
          refine box_step ?hg (N := 7) ?hd (cs := #[.slice none 0 0, .slice none 0 0, .slice none 0 0, .int .i64 0]) (t := 26) ?hr ?_; (case hd => rfl); (case hg => rfl); (case hr => first | (go_simp; done) | (go_simp; rfl))
          intro gb677 hg w41 hbox hb
          have n0_ := Aside0.mk (Kd.R_below (rO HO670) hb)
          have n1_ := bbO BK664 hb
          have n2_ := bbO BK676 hb
          have n3_ := Aside0.mk (below_step (hO HB) hb)
          have n4_ := Aside0.mk (hbox)
          have n5_ := Aside0.mk ((by rw [hg]; exact (below_size (hO HB)) : w.heap.size ≤ gb677))
          have n6_ := Aside0.mk ((by rw [hg]; exact (below_size (hO HB)) : w.heap.size ≤ gb677))
          have n7_ := Aside0.mk ((by rw [hg]; exact Nat.ne_of_lt (blk_lt (g := gb664) (o := .cells #[.slice A0_0 l0_0.length c0_0, .slice A0_1 l0_1.length c0_1, .slice A0_2 l0_2.length c0_2, .int .i64 a0_3] 26 (0, 0)) (bO BK664)) : gb664 ≠ gb677))
          have n8_ := Aside0.mk ((by rw [hg]; exact Nat.ne_of_gt (blk_lt (g := gb664) (o := .cells #[.slice A0_0 l0_0.length c0_0, .slice A0_1 l0_1.length c0_1, .slice A0_2 l0_2.length c0_2, .int .i64 a0_3] 26 (0, 0)) (bO BK664)) : gb677 ≠ gb664))
          have n9_ := Aside0.mk ((by rw [hg]; exact Nat.ne_of_lt (blk_lt (g := gb676) (o := .cells #[.slice none 0 0, .slice none 0 0, .slice none 0 0, .int .i64 0] 26 (0, 0)) (bO BK676)) : gb676 ≠ gb677))
          have n10_ := Aside0.mk ((by rw [hg]; exact Nat.ne_of_gt (blk_lt (g := gb676) (o := .cells #[.slice none 0 0, .slice none 0 0, .slice none 0 0, .int .i64 0] 26 (0, 0)) (bO BK676)) : gb677 ≠ gb676))
          clear HO670
          clear BK664
          clear BK676
          clear HB
          have HO670 := n0_
          have BK664 := n1_
          have BK676 := n2_
          have HB := n3_
          have BK677 := n4_
          have GW677 := n5_
          have GE677 := n6_
          have NB664_677 := n7_
          have NB677_664 := n8_
          have NB676_677 := n9_
          have NB677_676 := n10_
          clear n0_ n1_ n2_ n3_ n4_ n5_ n6_ n7_ n8_ n9_ n10_
          clear hb hbox hg
          refine hK.out _ _ ⟨(blk_cell BK664.out 0).trans rfl, (blk_cell BK664.out 1).trans rfl, (blk_cell BK664.out 2).trans rfl, (blk_cell BK664.out 3).trans rfl⟩ (fun hHeld => ?_)
          clear hK K
          refine norm_ (a' := ?_) ?_ ?_
          rotate_left
          ·
           show Act.put _ (some 7) _ = _
           simp only [mP]
           rfl
          exact norm_ (by first | (simp only [putAll, mP]; done) | (simp only [putAll, mP]; rfl)) (hJ3_4 (gb676, gb677) _ ⟨hHeld, (rO HO670), (bO BK664), (bO BK676), (bO BK677), GW676.out, GE676.out, NB664_676.out, NB676_664.out, NB677_676.out, NB676_677.out, GW677.out, GE677.out, NB664_677.out, NB677_664.out, (hO HB)⟩)
         ·
          skip
          refine box_step ?hg (N := 8) ?hd (cs := #[.slice none 0 0, .slice none 0 0, .slice none 0 0, .int .i64 0]) (t := 26) ?hr ?_; (case hd => rfl); (case hg => rfl); (case hr => first | (go_simp; done) | (go_simp; rfl))
          intro gb678 hg w41 hbox hb
          have n0_ := Aside0.mk (Kd.R_below (rO HO670) hb)
          have n1_ := bbO BK664 hb
          have n2_ := bbO BK676 hb
          have n3_ := Aside0.mk (below_step (hO HB) hb)
          have n4_ := Aside0.mk (hbox)
          have n5_ := Aside0.mk ((by rw [hg]; exact (below_size (hO HB)) : w.heap.size ≤ gb678))
          have n6_ := Aside0.mk ((by rw [hg]; exact (below_size (hO HB)) : w.heap.size ≤ gb678))
          have n7_ := Aside0.mk ((by rw [hg]; exact Nat.ne_of_lt (blk_lt (g := gb664) (o := .cells #[.slice A0_0 l0_0.length c0_0, .slice A0_1 l0_1.length c0_1, .slice A0_2 l0_2.length c0_2, .int .i64 a0_3] 26 (0, 0)) (bO BK664)) : gb664 ≠ gb678))
          have n8_ := Aside0.mk ((by rw [hg]; exact Nat.ne_of_gt (blk_lt (g := gb664) (o := .cells #[.slice A0_0 l0_0.length c0_0, .slice A0_1 l0_1.length c0_1, .slice A0_2 l0_2.length c0_2, .int .i64 a0_3] 26 (0, 0)) (bO BK664)) : gb678 ≠ gb664))
          have n9_ := Aside0.mk ((by rw [hg]; exact Nat.ne_of_lt (blk_lt (g := gb676) (o := .cells #[.slice none 0 0, .slice none 0 0, .slice none 0 0, .int .i64 0] 26 (0, 0)) (bO BK676)) : gb676 ≠ gb678))
          have n10_ := Aside0.mk ((by rw [hg]; exact Nat.ne_of_gt (blk_lt (g := gb676) (o := .cells #[.slice none 0 0, .slice none 0 0, .slice none 0 0, .int .i64 0] 26 (0, 0)) (bO BK676)) : gb678 ≠ gb676))
          clear HO670
          clear BK664
          clear BK676
          clear HB
          have HO670 := n0_
          have BK664 := n1_
          have BK676 := n2_
          have HB := n3_
          have BK678 := n4_
          have GW678 := n5_
          have GE678 := n6_
          have NB664_678 := n7_
          have NB678_664 := n8_
          have NB676_678 := n9_
          have NB678_676 := n10_
          clear n0_ n1_ n2_ n3_ n4_ n5_ n6_ n7_ n8_ n9_ n10_
          clear hb hbox hg
          refine hK.out _ _ ⟨(blk_cell BK664.out 0).trans rfl, (blk_cell BK664.out 1).trans rfl, (blk_cell BK664.out 2).trans rfl, (blk_cell BK664.out 3).trans rfl⟩ (fun hHeld => ?_)
          clear hK K
          refine norm_ (a' := ?_) ?_ ?_
          rotate_left
          ·
           show Act.put _ (some 8) _ = _
           simp only [mP]
           rfl
          exact norm_ (by first | (simp only [putAll, mP]; done) | (simp only [putAll, mP]; rfl)) (hJ3_5 (gb676, gb678) _ ⟨hHeld, (rO HO670), (bO BK664), (bO BK676), (bO BK678), GW676.out, GE676.out, NB664_676.out, NB676_664.out, NB678_676.out, NB676_678.out, GW678.out, GE678.out, NB664_678.out, NB678_664.out, (hO HB)⟩)
       ·
        skip
        rintro ⟨gb677, gb678⟩ w41 ⟨hS_, h0_, h1_, h2_, h3_, h4_, h5_, h6_, h7_, h8_, h9_, h10_, h11_, h12_, h13_, h14_⟩
        have n0_ : Aside0 (Kd.R k48 48 w41 w.heap.size (fun _ => True) (.slice Ao36 t668.length co36) t668) := ⟨h0_⟩
        have n1_ : Aside0 (w41.heap[gb664]? = some (.cells #[.slice A0_0 l0_0.length c0_0, .slice A0_1 l0_1.length c0_1, .slice A0_2 l0_2.length c0_2, .int .i64 a0_3] 26 (0, 0))) := ⟨h1_⟩
        have n2_ : Aside0 (w41.heap[gb677]? = some (.cells #[.slice none 0 0, .slice none 0 0, .slice none 0 0, .int .i64 0] 26 (0, 0))) := ⟨h2_⟩
        have n3_ : Aside0 (w41.heap[gb678]? = some (.cells #[.slice none 0 0, .slice none 0 0, .slice none 0 0, .int .i64 0] 26 (0, 0))) := ⟨h3_⟩
        have n4_ : Aside0 (w.heap.size ≤ gb677) := ⟨h4_⟩
        have n5_ : Aside0 (w.heap.size ≤ gb677) := ⟨h5_⟩
        have n6_ : Aside0 (gb664 ≠ gb677) := ⟨h6_⟩
        have n7_ : Aside0 (gb677 ≠ gb664) := ⟨h7_⟩
        have n8_ : Aside0 (gb678 ≠ gb677) := ⟨h8_⟩
        have n9_ : Aside0 (gb677 ≠ gb678) := ⟨h9_⟩
        have n10_ : Aside0 (w.heap.size ≤ gb678) := ⟨h10_⟩
        have n11_ : Aside0 (w.heap.size ≤ gb678) := ⟨h11_⟩
        have n12_ : Aside0 (gb664 ≠ gb678) := ⟨h12_⟩
        have n13_ : Aside0 (gb678 ≠ gb664) := ⟨h13_⟩
        have n14_ : Aside0 (Below w.heap.size w w41) := ⟨h14_⟩
        clear HO670
        clear BK664
        clear HB
        clear h0_ h1_ h2_ h3_ h4_ h5_ h6_ h7_ h8_ h9_ h10_ h11_ h12_ h13_ h14_
        have HO670 := n0_
        have BK664 := n1_
        have BK677 := n2_
        have BK678 := n3_
        have GW677 := n4_
        have GE677 := n5_
        have NB664_677 := n6_
        have NB677_664 := n7_
        have NB678_677 := n8_
        have NB677_678 := n9_
        have GW678 := n10_
        have GE678 := n11_
        have NB664_678 := n12_
        have NB678_664 := n13_
        have HB := n14_
        clear n0_ n1_ n2_ n3_ n4_ n5_ n6_ n7_ n8_ n9_ n10_ n11_ n12_ n13_ n14_
        have hHeld : w41.cell? ⟨gb664, 0, none⟩ = some (.slice A0_0 l0_0.length c0_0) ∧ w41.cell? ⟨gb664, 1, none⟩ = some (.slice A0_1 l0_1.length c0_1) ∧ w41.cell? ⟨gb664, 2, none⟩ = some (.slice A0_2 l0_2.length c0_2) ∧ w41.cell? ⟨gb664, 3, none⟩ = some (.int .i64 a0_3) := hS_
        refine norm_ (a' := ?_) ?_ ?_
        rotate_left
        ·
         simp only [putAll, mP]
         rfl
        refine one_ (i := 3) (N := some 6) #[true, true, true, true, true, true, false, false, false] rfl rfl (one_of HT_.out (by kernel_rfl)) (by decide) (fun K hK => ?_)
        refine box_step ?hg (N := 6) ?hd (cs := #[.slice none 0 0, .slice none 0 0, .slice none 0 0, .int .i64 0]) (t := 26) ?hr ?_; (case hd => rfl); (case hg => rfl); (case hr => first | (go_simp; done) | (go_simp; rfl))
        intro gb676 hg w42 hbox hb
        have n0_ := Aside0.mk (Kd.R_below (rO HO670) hb)
        have n1_ := bbO BK664 hb
        have n2_ := bbO BK677 hb
        have n3_ := bbO BK678 hb
        have n4_ := Aside0.mk (below_step (hO HB) hb)
        have n5_ := Aside0.mk (hbox)
        have n6_ := Aside0.mk ((by rw [hg]; exact (below_size (hO HB)) : w.heap.size ≤ gb676))
        have n7_ := Aside0.mk ((by rw [hg]; exact (below_size (hO HB)) : w.heap.size ≤ gb676))
        have n8_ := Aside0.mk ((by rw [hg]; exact Nat.ne_of_lt (blk_lt (g := gb664) (o := .cells #[.slice A0_0 l0_0.length c0_0, .slice A0_1 l0_1.length c0_1, .slice A0_2 l0_2.length c0_2, .int .i64 a0_3] 26 (0, 0)) (bO BK664)) : gb664 ≠ gb676))
        have n9_ := Aside0.mk ((by rw [hg]; exact Nat.ne_of_gt (blk_lt (g := gb664) (o := .cells #[.slice A0_0 l0_0.length c0_0, .slice A0_1 l0_1.length c0_1, .slice A0_2 l0_2.length c0_2, .int .i64 a0_3] 26 (0, 0)) (bO BK664)) : gb676 ≠ gb664))
        have n10_ := Aside0.mk ((by rw [hg]; exact Nat.ne_of_lt (blk_lt (g := gb677) (o := .cells #[.slice none 0 0, .slice none 0 0, .slice none 0 0, .int .i64 0] 26 (0, 0)) (bO BK677)) : gb677 ≠ gb676))
        have n11_ := Aside0.mk ((by rw [hg]; exact Nat.ne_of_gt (blk_lt (g := gb677) (o := .cells #[.slice none 0 0, .slice none 0 0, .slice none 0 0, .int .i64 0] 26 (0, 0)) (bO BK677)) : gb676 ≠ gb677))
        have n12_ := Aside0.mk ((by rw [hg]; exact Nat.ne_of_lt (blk_lt (g := gb678) (o := .cells #[.slice none 0 0, .slice none 0 0, .slice none 0 0, .int .i64 0] 26 (0, 0)) (bO BK678)) : gb678 ≠ gb676))
        have n13_ := Aside0.mk ((by rw [hg]; exact Nat.ne_of_gt (blk_lt (g := gb678) (o := .cells #[.slice none 0 0, .slice none 0 0, .slice none 0 0, .int .i64 0] 26 (0, 0)) (bO BK678)) : gb676 ≠ gb678))
        clear HO670
        clear BK664
        clear BK677
        clear BK678
        clear HB
        have HO670 := n0_
        have BK664 := n1_
        have BK677 := n2_
        have BK678 := n3_
        have HB := n4_
        have BK676 := n5_
        have GW676 := n6_
        have GE676 := n7_
        have NB664_676 := n8_
        have NB676_664 := n9_
        have NB677_676 := n10_
        have NB676_677 := n11_
        have NB678_676 := n12_
        have NB676_678 := n13_
        clear n0_ n1_ n2_ n3_ n4_ n5_ n6_ n7_ n8_ n9_ n10_ n11_ n12_ n13_
        clear hb hbox hg
        refine hK.out _ _ ⟨(blk_cell BK664.out 0).trans rfl, (blk_cell BK664.out 1).trans rfl, (blk_cell BK664.out 2).trans rfl, (blk_cell BK664.out 3).trans rfl⟩ (fun hHeld => ?_)
        clear hK K
        refine norm_ (a' := ?_) ?_ ?_
        rotate_left
        ·
         show Act.put _ (some 6) _ = _
         simp only [mP]
         rfl
        exact norm_ (by first | (simp only [putAll, mP]; done) | (simp only [putAll, mP]; rfl)) (hJ3_4_5 (gb676, gb677, gb678) _ ⟨hHeld, (rO HO670), (bO BK664), (bO BK676), (bO BK677), (bO BK678), GW676.out, GE676.out, NB664_676.out, NB676_664.out, NB677_676.out, NB676_677.out, NB678_676.out, NB676_678.out, GW677.out, GE677.out, NB664_677.out, NB677_664.out, NB678_677.out, NB677_678.out, GW678.out, GE678.out, NB664_678.out, NB678_664.out, (hO HB)⟩)
      ·
       skip
       rintro ⟨gb676, gb678⟩ w41 ⟨hS_, h0_, h1_, h2_, h3_, h4_, h5_, h6_, h7_, h8_, h9_, h10_, h11_, h12_, h13_, h14_⟩
       have n0_ : Aside0 (Kd.R k48 48 w41 w.heap.size (fun _ => True) (.slice Ao36 t668.length co36) t668) := ⟨h0_⟩
       have n1_ : Aside0 (w41.heap[gb664]? = some (.cells #[.slice A0_0 l0_0.length c0_0, .slice A0_1 l0_1.length c0_1, .slice A0_2 l0_2.length c0_2, .int .i64 a0_3] 26 (0, 0))) := ⟨h1_⟩
       have n2_ : Aside0 (w41.heap[gb676]? = some (.cells #[.slice none 0 0, .slice none 0 0, .slice none 0 0, .int .i64 0] 26 (0, 0))) := ⟨h2_⟩
       have n3_ : Aside0 (w41.heap[gb678]? = some (.cells #[.slice none 0 0, .slice none 0 0, .slice none 0 0, .int .i64 0] 26 (0, 0))) := ⟨h3_⟩
       have n4_ : Aside0 (w.heap.size ≤ gb676) := ⟨h4_⟩
       have n5_ : Aside0 (w.heap.size ≤ gb676) := ⟨h5_⟩
       have n6_ : Aside0 (gb664 ≠ gb676) := ⟨h6_⟩
       have n7_ : Aside0 (gb676 ≠ gb664) := ⟨h7_⟩
       have n8_ : Aside0 (gb678 ≠ gb676) := ⟨h8_⟩
       have n9_ : Aside0 (gb676 ≠ gb678) := ⟨h9_⟩
       have n10_ : Aside0 (w.heap.size ≤ gb678) := ⟨h10_⟩
       have n11_ : Aside0 (w.heap.size ≤ gb678) := ⟨h11_⟩
       have n12_ : Aside0 (gb664 ≠ gb678) := ⟨h12_⟩
       have n13_ : Aside0 (gb678 ≠ gb664) := ⟨h13_⟩
       have n14_ : Aside0 (Below w.heap.size w w41) := ⟨h14_⟩
       clear HO670
       clear BK664
       clear HB
       clear h0_ h1_ h2_ h3_ h4_ h5_ h6_ h7_ h8_ h9_ h10_ h11_ h12_ h13_ h14_
       have HO670 := n0_
       have BK664 := n1_
       have BK676 := n2_
       have BK678 := n3_
       have GW676 := n4_
       have GE676 := n5_
       have NB664_676 := n6_
       have NB676_664 := n7_
       have NB678_676 := n8_
       have NB676_678 := n9_
       have GW678 := n10_
       have GE678 := n11_
       have NB664_678 := n12_
       have NB678_664 := n13_
       have HB := n14_
       clear n0_ n1_ n2_ n3_ n4_ n5_ n6_ n7_ n8_ n9_ n10_ n11_ n12_ n13_ n14_
       have hHeld : w41.cell? ⟨gb664, 0, none⟩ = some (.slice A0_0 l0_0.length c0_0) ∧ w41.cell? ⟨gb664, 1, none⟩ = some (.slice A0_1 l0_1.length c0_1) ∧ w41.cell? ⟨gb664, 2, none⟩ = some (.slice A0_2 l0_2.length c0_2) ∧ w41.cell? ⟨gb664, 3, none⟩ = some (.int .i64 a0_3) := hS_
       refine norm_ (a' := ?_) ?_ ?_
       rotate_left
       ·
        simp only [putAll, mP]
        rfl
       refine one_ (i := 4) (N := some 7) #[true, true, true, true, true, true, false, false, false] rfl rfl (one_of HT_.out (by kernel_rfl)) (by decide) (fun K hK => ?_)
       refine box_step ?hg (N := 7) ?hd (cs := #[.slice none 0 0, .slice none 0 0, .slice none 0 0, .int .i64 0]) (t := 26) ?hr ?_; (case hd => rfl); (case hg => rfl); (case hr => first | (go_simp; done) | (go_simp; rfl))
       intro gb677 hg w42 hbox hb
       have n0_ := Aside0.mk (Kd.R_below (rO HO670) hb)
       have n1_ := bbO BK664 hb
       have n2_ := bbO BK676 hb
       have n3_ := bbO BK678 hb
       have n4_ := Aside0.mk (below_step (hO HB) hb)
       have n5_ := Aside0.mk (hbox)
       have n6_ := Aside0.mk ((by rw [hg]; exact (below_size (hO HB)) : w.heap.size ≤ gb677))
       have n7_ := Aside0.mk ((by rw [hg]; exact (below_size (hO HB)) : w.heap.size ≤ gb677))
       have n8_ := Aside0.mk ((by rw [hg]; exact Nat.ne_of_lt (blk_lt (g := gb664) (o := .cells #[.slice A0_0 l0_0.length c0_0, .slice A0_1 l0_1.length c0_1, .slice A0_2 l0_2.length c0_2, .int .i64 a0_3] 26 (0, 0)) (bO BK664)) : gb664 ≠ gb677))
       have n9_ := Aside0.mk ((by rw [hg]; exact Nat.ne_of_gt (blk_lt (g := gb664) (o := .cells #[.slice A0_0 l0_0.length c0_0, .slice A0_1 l0_1.length c0_1, .slice A0_2 l0_2.length c0_2, .int .i64 a0_3] 26 (0, 0)) (bO BK664)) : gb677 ≠ gb664))
       have n10_ := Aside0.mk ((by rw [hg]; exact Nat.ne_of_lt (blk_lt (g := gb676) (o := .cells #[.slice none 0 0, .slice none 0 0, .slice none 0 0, .int .i64 0] 26 (0, 0)) (bO BK676)) : gb676 ≠ gb677))
       have n11_ := Aside0.mk ((by rw [hg]; exact Nat.ne_of_gt (blk_lt (g := gb676) (o := .cells #[.slice none 0 0, .slice none 0 0, .slice none 0 0, .int .i64 0] 26 (0, 0)) (bO BK676)) : gb677 ≠ gb676))
       have n12_ := Aside0.mk ((by rw [hg]; exact Nat.ne_of_lt (blk_lt (g := gb678) (o := .cells #[.slice none 0 0, .slice none 0 0, .slice none 0 0, .int .i64 0] 26 (0, 0)) (bO BK678)) : gb678 ≠ gb677))
       have n13_ := Aside0.mk ((by rw [hg]; exact Nat.ne_of_gt (blk_lt (g := gb678) (o := .cells #[.slice none 0 0, .slice none 0 0, .slice none 0 0, .int .i64 0] 26 (0, 0)) (bO BK678)) : gb677 ≠ gb678))
       clear HO670
       clear BK664
       clear BK676
       clear BK678
       clear HB
       have HO670 := n0_
       have BK664 := n1_
       have BK676 := n2_
       have BK678 := n3_
       have HB := n4_
       have BK677 := n5_
       have GW677 := n6_
       have GE677 := n7_
       have NB664_677 := n8_
       have NB677_664 := n9_
       have NB676_677 := n10_
       have NB677_676 := n11_
       have NB678_677 := n12_
       have NB677_678 := n13_
       clear n0_ n1_ n2_ n3_ n4_ n5_ n6_ n7_ n8_ n9_ n10_ n11_ n12_ n13_
       clear hb hbox hg
       refine hK.out _ _ ⟨(blk_cell BK664.out 0).trans rfl, (blk_cell BK664.out 1).trans rfl, (blk_cell BK664.out 2).trans rfl, (blk_cell BK664.out 3).trans rfl⟩ (fun hHeld => ?_)
       clear hK K
       refine norm_ (a' := ?_) ?_ ?_
       rotate_left
       ·
        show Act.put _ (some 7) _ = _
        simp only [mP]
        rfl
       exact norm_ (by first | (simp only [putAll, mP]; done) | (simp only [putAll, mP]; rfl)) (hJ3_4_5 (gb676, gb677, gb678) _ ⟨hHeld, (rO HO670), (bO BK664), (bO BK676), (bO BK677), (bO BK678), GW676.out, GE676.out, NB664_676.out, NB676_664.out, NB677_676.out, NB676_677.out, NB678_676.out, NB676_678.out, GW677.out, GE677.out, NB664_677.out, NB677_664.out, NB678_677.out, NB677_678.out, GW678.out, GE678.out, NB664_678.out, NB678_664.out, (hO HB)⟩)
     ·
      skip
      rintro ⟨gb676, gb677⟩ w41 ⟨hS_, h0_, h1_, h2_, h3_, h4_, h5_, h6_, h7_, h8_, h9_, h10_, h11_, h12_, h13_, h14_⟩
      have n0_ : Aside0 (Kd.R k48 48 w41 w.heap.size (fun _ => True) (.slice Ao36 t668.length co36) t668) := ⟨h0_⟩
      have n1_ : Aside0 (w41.heap[gb664]? = some (.cells #[.slice A0_0 l0_0.length c0_0, .slice A0_1 l0_1.length c0_1, .slice A0_2 l0_2.length c0_2, .int .i64 a0_3] 26 (0, 0))) := ⟨h1_⟩
      have n2_ : Aside0 (w41.heap[gb676]? = some (.cells #[.slice none 0 0, .slice none 0 0, .slice none 0 0, .int .i64 0] 26 (0, 0))) := ⟨h2_⟩
      have n3_ : Aside0 (w41.heap[gb677]? = some (.cells #[.slice none 0 0, .slice none 0 0, .slice none 0 0, .int .i64 0] 26 (0, 0))) := ⟨h3_⟩
      have n4_ : Aside0 (w.heap.size ≤ gb676) := ⟨h4_⟩
      have n5_ : Aside0 (w.heap.size ≤ gb676) := ⟨h5_⟩
      have n6_ : Aside0 (gb664 ≠ gb676) := ⟨h6_⟩
      have n7_ : Aside0 (gb676 ≠ gb664) := ⟨h7_⟩
      have n8_ : Aside0 (gb677 ≠ gb676) := ⟨h8_⟩
      have n9_ : Aside0 (gb676 ≠ gb677) := ⟨h9_⟩
      have n10_ : Aside0 (w.heap.size ≤ gb677) := ⟨h10_⟩
      have n11_ : Aside0 (w.heap.size ≤ gb677) := ⟨h11_⟩
      have n12_ : Aside0 (gb664 ≠ gb677) := ⟨h12_⟩
      have n13_ : Aside0 (gb677 ≠ gb664) := ⟨h13_⟩
      have n14_ : Aside0 (Below w.heap.size w w41) := ⟨h14_⟩
      clear HO670
      clear BK664
      clear HB
      clear h0_ h1_ h2_ h3_ h4_ h5_ h6_ h7_ h8_ h9_ h10_ h11_ h12_ h13_ h14_
      have HO670 := n0_
      have BK664 := n1_
      have BK676 := n2_
      have BK677 := n3_
      have GW676 := n4_
      have GE676 := n5_
      have NB664_676 := n6_
      have NB676_664 := n7_
      have NB677_676 := n8_
      have NB676_677 := n9_
      have GW677 := n10_
      have GE677 := n11_
      have NB664_677 := n12_
      have NB677_664 := n13_
      have HB := n14_
      clear n0_ n1_ n2_ n3_ n4_ n5_ n6_ n7_ n8_ n9_ n10_ n11_ n12_ n13_ n14_
      have hHeld : w41.cell? ⟨gb664, 0, none⟩ = some (.slice A0_0 l0_0.length c0_0) ∧ w41.cell? ⟨gb664, 1, none⟩ = some (.slice A0_1 l0_1.length c0_1) ∧ w41.cell? ⟨gb664, 2, none⟩ = some (.slice A0_2 l0_2.length c0_2) ∧ w41.cell? ⟨gb664, 3, none⟩ = some (.int .i64 a0_3) := hS_
      refine norm_ (a' := ?_) ?_ ?_
      rotate_left
      ·
       simp only [putAll, mP]
       rfl
      refine one_ (i := 5) (N := some 8) #[true, true, true, true, true, true, false, false, false] rfl rfl (one_of HT_.out (by kernel_rfl)) (by decide) (fun K hK => ?_)
      refine box_step ?hg (N := 8) ?hd (cs := #[.slice none 0 0, .slice none 0 0, .slice none 0 0, .int .i64 0]) (t := 26) ?hr ?_; (case hd => rfl); (case hg => rfl); (case hr => first | (go_simp; done) | (go_simp; rfl))
      intro gb678 hg w42 hbox hb
      have n0_ := Aside0.mk (Kd.R_below (rO HO670) hb)
      have n1_ := bbO BK664 hb
      have n2_ := bbO BK676 hb
      have n3_ := bbO BK677 hb
      have n4_ := Aside0.mk (below_step (hO HB) hb)
      have n5_ := Aside0.mk (hbox)
      have n6_ := Aside0.mk ((by rw [hg]; exact (below_size (hO HB)) : w.heap.size ≤ gb678))
      have n7_ := Aside0.mk ((by rw [hg]; exact (below_size (hO HB)) : w.heap.size ≤ gb678))
      have n8_ := Aside0.mk ((by rw [hg]; exact Nat.ne_of_lt (blk_lt (g := gb664) (o := .cells #[.slice A0_0 l0_0.length c0_0, .slice A0_1 l0_1.length c0_1, .slice A0_2 l0_2.length c0_2, .int .i64 a0_3] 26 (0, 0)) (bO BK664)) : gb664 ≠ gb678))
      have n9_ := Aside0.mk ((by rw [hg]; exact Nat.ne_of_gt (blk_lt (g := gb664) (o := .cells #[.slice A0_0 l0_0.length c0_0, .slice A0_1 l0_1.length c0_1, .slice A0_2 l0_2.length c0_2, .int .i64 a0_3] 26 (0, 0)) (bO BK664)) : gb678 ≠ gb664))
      have n10_ := Aside0.mk ((by rw [hg]; exact Nat.ne_of_lt (blk_lt (g := gb676) (o := .cells #[.slice none 0 0, .slice none 0 0, .slice none 0 0, .int .i64 0] 26 (0, 0)) (bO BK676)) : gb676 ≠ gb678))
      have n11_ := Aside0.mk ((by rw [hg]; exact Nat.ne_of_gt (blk_lt (g := gb676) (o := .cells #[.slice none 0 0, .slice none 0 0, .slice none 0 0, .int .i64 0] 26 (0, 0)) (bO BK676)) : gb678 ≠ gb676))
      have n12_ := Aside0.mk ((by rw [hg]; exact Nat.ne_of_lt (blk_lt (g := gb677) (o := .cells #[.slice none 0 0, .slice none 0 0, .slice none 0 0, .int .i64 0] 26 (0, 0)) (bO BK677)) : gb677 ≠ gb678))
      have n13_ := Aside0.mk ((by rw [hg]; exact Nat.ne_of_gt (blk_lt (g := gb677) (o := .cells #[.slice none 0 0, .slice none 0 0, .slice none 0 0, .int .i64 0] 26 (0, 0)) (bO BK677)) : gb678 ≠ gb677))
      clear HO670
      clear BK664
      clear BK676
      clear BK677
      clear HB
      have HO670 := n0_
      have BK664 := n1_
      have BK676 := n2_
      have BK677 := n3_
      have HB := n4_
      have BK678 := n5_
      have GW678 := n6_
      have GE678 := n7_
      have NB664_678 := n8_
      have NB678_664 := n9_
      have NB676_678 := n10_
      have NB678_676 := n11_
      have NB677_678 := n12_
      have NB678_677 := n13_
      clear n0_ n1_ n2_ n3_ n4_ n5_ n6_ n7_ n8_ n9_ n10_ n11_ n12_ n13_
      clear hb hbox hg
      refine hK.out _ _ ⟨(blk_cell BK664.out 0).trans rfl, (blk_cell BK664.out 1).trans rfl, (blk_cell BK664.out 2).trans rfl, (blk_cell BK664.out 3).trans rfl⟩ (fun hHeld => ?_)
      clear hK K
      refine norm_ (a' := ?_) ?_ ?_
      rotate_left
      ·
       show Act.put _ (some 8) _ = _
       simp only [mP]
       rfl
      exact norm_ (by first | (simp only [putAll, mP]; done) | (simp only [putAll, mP]; rfl)) (hJ3_4_5 (gb676, gb677, gb678) _ ⟨hHeld, (rO HO670), (bO BK664), (bO BK676), (bO BK677), (bO BK678), GW676.out, GE676.out, NB664_676.out, NB676_664.out, NB677_676.out, NB676_677.out, NB678_676.out, NB676_678.out, GW677.out, GE677.out, NB664_677.out, NB677_664.out, NB678_677.out, NB677_678.out, GW678.out, GE678.out, NB664_678.out, NB678_664.out, (hO HB)⟩)
    rintro ⟨gb676, gb677, gb678⟩ w42 ⟨hS_, h0_, h1_, h2_, h3_, h4_, h5_, h6_, h7_, h8_, h9_, h10_, h11_, h12_, h13_, h14_, h15_, h16_, h17_, h18_, h19_, h20_, h21_, h22_, h23_⟩
    have n0_ : Aside0 (Kd.R k48 48 w42 w.heap.size (fun _ => True) (.slice Ao36 t668.length co36) t668) := ⟨h0_⟩
    have n1_ : Aside0 (w42.heap[gb664]? = some (.cells #[.slice A0_0 l0_0.length c0_0, .slice A0_1 l0_1.length c0_1, .slice A0_2 l0_2.length c0_2, .int .i64 a0_3] 26 (0, 0))) := ⟨h1_⟩
    have n2_ : Aside0 (w42.heap[gb676]? = some (.cells #[.slice none 0 0, .slice none 0 0, .slice none 0 0, .int .i64 0] 26 (0, 0))) := ⟨h2_⟩
    have n3_ : Aside0 (w42.heap[gb677]? = some (.cells #[.slice none 0 0, .slice none 0 0, .slice none 0 0, .int .i64 0] 26 (0, 0))) := ⟨h3_⟩
    have n4_ : Aside0 (w42.heap[gb678]? = some (.cells #[.slice none 0 0, .slice none 0 0, .slice none 0 0, .int .i64 0] 26 (0, 0))) := ⟨h4_⟩
    have n5_ : Aside0 (w.heap.size ≤ gb676) := ⟨h5_⟩
    have n6_ : Aside0 (w.heap.size ≤ gb676) := ⟨h6_⟩
    have n7_ : Aside0 (gb664 ≠ gb676) := ⟨h7_⟩
    have n8_ : Aside0 (gb676 ≠ gb664) := ⟨h8_⟩
    have n9_ : Aside0 (gb677 ≠ gb676) := ⟨h9_⟩
    have n10_ : Aside0 (gb676 ≠ gb677) := ⟨h10_⟩
    have n11_ : Aside0 (gb678 ≠ gb676) := ⟨h11_⟩
    have n12_ : Aside0 (gb676 ≠ gb678) := ⟨h12_⟩
    have n13_ : Aside0 (w.heap.size ≤ gb677) := ⟨h13_⟩
    have n14_ : Aside0 (w.heap.size ≤ gb677) := ⟨h14_⟩
    have n15_ : Aside0 (gb664 ≠ gb677) := ⟨h15_⟩
    have n16_ : Aside0 (gb677 ≠ gb664) := ⟨h16_⟩
    have n17_ : Aside0 (gb678 ≠ gb677) := ⟨h17_⟩
    have n18_ : Aside0 (gb677 ≠ gb678) := ⟨h18_⟩
    have n19_ : Aside0 (w.heap.size ≤ gb678) := ⟨h19_⟩
    have n20_ : Aside0 (w.heap.size ≤ gb678) := ⟨h20_⟩
    have n21_ : Aside0 (gb664 ≠ gb678) := ⟨h21_⟩
    have n22_ : Aside0 (gb678 ≠ gb664) := ⟨h22_⟩
    have n23_ : Aside0 (Below w.heap.size w w42) := ⟨h23_⟩
    clear HO670
    clear BK664
    clear HB
    clear h0_ h1_ h2_ h3_ h4_ h5_ h6_ h7_ h8_ h9_ h10_ h11_ h12_ h13_ h14_ h15_ h16_ h17_ h18_ h19_ h20_ h21_ h22_ h23_
    have HO670 := n0_
    have BK664 := n1_
    have BK676 := n2_
    have BK677 := n3_
    have BK678 := n4_
    have GW676 := n5_
    have GE676 := n6_
    have NB664_676 := n7_
    have NB676_664 := n8_
    have NB677_676 := n9_
    have NB676_677 := n10_
    have NB678_676 := n11_
    have NB676_678 := n12_
    have GW677 := n13_
    have GE677 := n14_
    have NB664_677 := n15_
    have NB677_664 := n16_
    have NB678_677 := n17_
    have NB677_678 := n18_
    have GW678 := n19_
    have GE678 := n20_
    have NB664_678 := n21_
    have NB678_664 := n22_
    have HB := n23_
    clear n0_ n1_ n2_ n3_ n4_ n5_ n6_ n7_ n8_ n9_ n10_ n11_ n12_ n13_ n14_ n15_ n16_ n17_ n18_ n19_ n20_ n21_ n22_ n23_
    have hHeld : w42.cell? ⟨gb664, 0, none⟩ = some (.slice A0_0 l0_0.length c0_0) ∧ w42.cell? ⟨gb664, 1, none⟩ = some (.slice A0_1 l0_1.length c0_1) ∧ w42.cell? ⟨gb664, 2, none⟩ = some (.slice A0_2 l0_2.length c0_2) ∧ w42.cell? ⟨gb664, 3, none⟩ = some (.int .i64 a0_3) := hS_
    refine norm_ (a' := ?_) ?_ ?_
    rotate_left
    ·
     simp only [putAll, mP]
     rfl
    refine one_ (i := 6) (N := none) #[true, true, true, true, true, true, true, false, false] rfl rfl (one_of HT_.out (by kernel_rfl)) (by decide) (fun K hK => ?_)
    have hs43 : w42.cell? ⟨gb676, 0, none⟩ = some (.slice none 0 0) := (blk_cell BK676.out 0).trans rfl
    have hfs43 := blk_frozen BK676.out 0
    have hns43_0 := NB664_676.out
    have hns43_2 := NB677_676.out
    have hns43_3 := NB678_676.out
    have hms43_0 := NB676_664.out
    have hms43_2 := NB676_677.out
    have hms43_3 := NB676_678.out
    have hs44 : w42.cell? ⟨gb676, 1, none⟩ = some (.slice none 0 0) := (blk_cell BK676.out 1).trans rfl
    have hfs44 := blk_frozen BK676.out 1
    have hns44_0 := NB664_676.out
    have hns44_2 := NB677_676.out
    have hns44_3 := NB678_676.out
    have hms44_0 := NB676_664.out
    have hms44_2 := NB676_677.out
    have hms44_3 := NB676_678.out
    have hs45 : w42.cell? ⟨gb676, 2, none⟩ = some (.slice none 0 0) := (blk_cell BK676.out 2).trans rfl
    have hfs45 := blk_frozen BK676.out 2
    have hns45_0 := NB664_676.out
    have hns45_2 := NB677_676.out
    have hns45_3 := NB678_676.out
    have hms45_0 := NB676_664.out
    have hms45_2 := NB676_677.out
    have hms45_3 := NB676_678.out
    have hs46 : w42.cell? ⟨gb676, 3, none⟩ = some (.int .i64 0) := (blk_cell BK676.out 3).trans rfl
    have hfs46 := blk_frozen BK676.out 3
    have hns46_0 := NB664_676.out
    have hns46_2 := NB677_676.out
    have hns46_3 := NB678_676.out
    have hms46_0 := NB676_664.out
    have hms46_2 := NB676_677.out
    have hms46_3 := NB676_678.out
    refine skip_ (w1 := ?_) (by rfl) rfl ?_ ?_
    rotate_left
    ·
     go_simp
     rfl
    refine hK.out _ _ ⟨((cell_far (p := ⟨gb676, _, none⟩) NB664_676.out _).trans (((cell_far (p := ⟨gb676, _, none⟩) NB664_676.out _).trans (((cell_far (p := ⟨gb676, _, none⟩) NB664_676.out _).trans (((cell_far (p := ⟨gb676, _, none⟩) NB664_676.out _).trans (hHeld.1)))))))), ((cell_far (p := ⟨gb676, _, none⟩) NB664_676.out _).trans (((cell_far (p := ⟨gb676, _, none⟩) NB664_676.out _).trans (((cell_far (p := ⟨gb676, _, none⟩) NB664_676.out _).trans (((cell_far (p := ⟨gb676, _, none⟩) NB664_676.out _).trans (hHeld.2.1)))))))), ((cell_far (p := ⟨gb676, _, none⟩) NB664_676.out _).trans (((cell_far (p := ⟨gb676, _, none⟩) NB664_676.out _).trans (((cell_far (p := ⟨gb676, _, none⟩) NB664_676.out _).trans (((cell_far (p := ⟨gb676, _, none⟩) NB664_676.out _).trans (hHeld.2.2.1)))))))), ((cell_far (p := ⟨gb676, _, none⟩) NB664_676.out _).trans (((cell_far (p := ⟨gb676, _, none⟩) NB664_676.out _).trans (((cell_far (p := ⟨gb676, _, none⟩) NB664_676.out _).trans (((cell_far (p := ⟨gb676, _, none⟩) NB664_676.out _).trans (hHeld.2.2.2))))))))⟩ (fun hHeld => ?_)
    clear hK K
    have n0_ : Aside0 (Kd.R k48 48 ((((w42.setCell ⟨gb676, 0, none⟩ (.slice A0_0 l0_0.length c0_0)).setCell ⟨gb676, 1, none⟩ (.slice A0_1 l0_1.length c0_1)).setCell ⟨gb676, 2, none⟩ (.slice A0_2 l0_2.length c0_2)).setCell ⟨gb676, 3, none⟩ (.int .i64 a0_3)) w.heap.size (fun _ => True) (.slice Ao36 t668.length co36) t668) := ⟨st4_R HO670.out BK676.out⟩
    have n1_ : Aside0 (((((w42.setCell ⟨gb676, 0, none⟩ (.slice A0_0 l0_0.length c0_0)).setCell ⟨gb676, 1, none⟩ (.slice A0_1 l0_1.length c0_1)).setCell ⟨gb676, 2, none⟩ (.slice A0_2 l0_2.length c0_2)).setCell ⟨gb676, 3, none⟩ (.int .i64 a0_3)).heap[gb664]? = some (.cells #[.slice A0_0 l0_0.length c0_0, .slice A0_1 l0_1.length c0_1, .slice A0_2 l0_2.length c0_2, .int .i64 a0_3] 26 (0, 0))) := ⟨st4_far BK664.out NB664_676.out⟩
    have n2_ : Aside0 (((((w42.setCell ⟨gb676, 0, none⟩ (.slice A0_0 l0_0.length c0_0)).setCell ⟨gb676, 1, none⟩ (.slice A0_1 l0_1.length c0_1)).setCell ⟨gb676, 2, none⟩ (.slice A0_2 l0_2.length c0_2)).setCell ⟨gb676, 3, none⟩ (.int .i64 a0_3)).heap[gb676]? = some (.cells #[.slice A0_0 l0_0.length c0_0, .slice A0_1 l0_1.length c0_1, .slice A0_2 l0_2.length c0_2, .int .i64 a0_3] 26 (0, 0))) := ⟨st4_own BK676.out⟩
    have n3_ : Aside0 (((((w42.setCell ⟨gb676, 0, none⟩ (.slice A0_0 l0_0.length c0_0)).setCell ⟨gb676, 1, none⟩ (.slice A0_1 l0_1.length c0_1)).setCell ⟨gb676, 2, none⟩ (.slice A0_2 l0_2.length c0_2)).setCell ⟨gb676, 3, none⟩ (.int .i64 a0_3)).heap[gb677]? = some (.cells #[.slice none 0 0, .slice none 0 0, .slice none 0 0, .int .i64 0] 26 (0, 0))) := ⟨st4_far BK677.out NB677_676.out⟩
    have n4_ : Aside0 (((((w42.setCell ⟨gb676, 0, none⟩ (.slice A0_0 l0_0.length c0_0)).setCell ⟨gb676, 1, none⟩ (.slice A0_1 l0_1.length c0_1)).setCell ⟨gb676, 2, none⟩ (.slice A0_2 l0_2.length c0_2)).setCell ⟨gb676, 3, none⟩ (.int .i64 a0_3)).heap[gb678]? = some (.cells #[.slice none 0 0, .slice none 0 0, .slice none 0 0, .int .i64 0] 26 (0, 0))) := ⟨st4_far BK678.out NB678_676.out⟩
    have n5_ : Aside0 (Below w.heap.size w ((((w42.setCell ⟨gb676, 0, none⟩ (.slice A0_0 l0_0.length c0_0)).setCell ⟨gb676, 1, none⟩ (.slice A0_1 l0_1.length c0_1)).setCell ⟨gb676, 2, none⟩ (.slice A0_2 l0_2.length c0_2)).setCell ⟨gb676, 3, none⟩ (.int .i64 a0_3))) := ⟨st4_below HB.out GE676.out⟩
    clear HO670 BK664 BK676 BK677 BK678 HB
    generalize ((((w42.setCell ⟨gb676, 0, none⟩ (.slice A0_0 l0_0.length c0_0)).setCell ⟨gb676, 1, none⟩ (.slice A0_1 l0_1.length c0_1)).setCell ⟨gb676, 2, none⟩ (.slice A0_2 l0_2.length c0_2)).setCell ⟨gb676, 3, none⟩ (.int .i64 a0_3)) = w942 at n0_ n1_ n2_ n3_ n4_ n5_ hHeld ⊢
    have HO670 := n0_
    have BK664 := n1_
    have BK676 := n2_
    have BK677 := n3_
    have BK678 := n4_
    have HB := n5_
    clear n0_ n1_ n2_ n3_ n4_ n5_
    clear hs43 hfs43 hns43_0 hns43_2 hns43_3 hms43_0 hms43_2 hms43_3 hs44 hfs44 hns44_0 hns44_2 hns44_3 hms44_0 hms44_2 hms44_3 hs45 hfs45 hns45_0 hns45_2 hns45_3 hms45_0 hms45_2 hms45_3 hs46 hfs46 hns46_0 hns46_2 hns46_3 hms46_0 hms46_2 hms46_3
    refine one_ (i := 7) (N := none) #[true, true, true, true, true, true, true, true, false] rfl rfl (one_of HT_.out (by kernel_rfl)) (by decide) (fun K hK => ?_)
    have hs47 : w942.cell? ⟨gb677, 0, none⟩ = some (.slice none 0 0) := (blk_cell BK677.out 0).trans rfl
    have hfs47 := blk_frozen BK677.out 0
    have hns47_0 := NB664_677.out
    have hns47_1 := NB676_677.out
    have hns47_3 := NB678_677.out
    have hms47_0 := NB677_664.out
    have hms47_1 := NB677_676.out
    have hms47_3 := NB677_678.out
    have hs48 : w942.cell? ⟨gb677, 1, none⟩ = some (.slice none 0 0) := (blk_cell BK677.out 1).trans rfl
    have hfs48 := blk_frozen BK677.out 1
    have hns48_0 := NB664_677.out
    have hns48_1 := NB676_677.out
    have hns48_3 := NB678_677.out
    have hms48_0 := NB677_664.out
    have hms48_1 := NB677_676.out
    have hms48_3 := NB677_678.out
    have hs49 : w942.cell? ⟨gb677, 2, none⟩ = some (.slice none 0 0) := (blk_cell BK677.out 2).trans rfl
    have hfs49 := blk_frozen BK677.out 2
    have hns49_0 := NB664_677.out
    have hns49_1 := NB676_677.out
    have hns49_3 := NB678_677.out
    have hms49_0 := NB677_664.out
    have hms49_1 := NB677_676.out
    have hms49_3 := NB677_678.out
    have hs50 : w942.cell? ⟨gb677, 3, none⟩ = some (.int .i64 0) := (blk_cell BK677.out 3).trans rfl
    have hfs50 := blk_frozen BK677.out 3
    have hns50_0 := NB664_677.out
    have hns50_1 := NB676_677.out
    have hns50_3 := NB678_677.out
    have hms50_0 := NB677_664.out
    have hms50_1 := NB677_676.out
    have hms50_3 := NB677_678.out
    refine skip_ (w1 := ?_) (by rfl) rfl ?_ ?_
    rotate_left
    ·
     go_simp
     rfl
    refine hK.out _ _ ⟨((cell_far (p := ⟨gb677, _, none⟩) NB664_677.out _).trans (((cell_far (p := ⟨gb677, _, none⟩) NB664_677.out _).trans (((cell_far (p := ⟨gb677, _, none⟩) NB664_677.out _).trans (((cell_far (p := ⟨gb677, _, none⟩) NB664_677.out _).trans (hHeld.1)))))))), ((cell_far (p := ⟨gb677, _, none⟩) NB664_677.out _).trans (((cell_far (p := ⟨gb677, _, none⟩) NB664_677.out _).trans (((cell_far (p := ⟨gb677, _, none⟩) NB664_677.out _).trans (((cell_far (p := ⟨gb677, _, none⟩) NB664_677.out _).trans (hHeld.2.1)))))))), ((cell_far (p := ⟨gb677, _, none⟩) NB664_677.out _).trans (((cell_far (p := ⟨gb677, _, none⟩) NB664_677.out _).trans (((cell_far (p := ⟨gb677, _, none⟩) NB664_677.out _).trans (((cell_far (p := ⟨gb677, _, none⟩) NB664_677.out _).trans (hHeld.2.2.1)))))))), ((cell_far (p := ⟨gb677, _, none⟩) NB664_677.out _).trans (((cell_far (p := ⟨gb677, _, none⟩) NB664_677.out _).trans (((cell_far (p := ⟨gb677, _, none⟩) NB664_677.out _).trans (((cell_far (p := ⟨gb677, _, none⟩) NB664_677.out _).trans (hHeld.2.2.2))))))))⟩ (fun hHeld => ?_)
    clear hK K
    have n0_ : Aside0 (Kd.R k48 48 ((((w942.setCell ⟨gb677, 0, none⟩ (.slice A0_0 l0_0.length c0_0)).setCell ⟨gb677, 1, none⟩ (.slice A0_1 l0_1.length c0_1)).setCell ⟨gb677, 2, none⟩ (.slice A0_2 l0_2.length c0_2)).setCell ⟨gb677, 3, none⟩ (.int .i64 a0_3)) w.heap.size (fun _ => True) (.slice Ao36 t668.length co36) t668) := ⟨st4_R HO670.out BK677.out⟩
    have n1_ : Aside0 (((((w942.setCell ⟨gb677, 0, none⟩ (.slice A0_0 l0_0.length c0_0)).setCell ⟨gb677, 1, none⟩ (.slice A0_1 l0_1.length c0_1)).setCell ⟨gb677, 2, none⟩ (.slice A0_2 l0_2.length c0_2)).setCell ⟨gb677, 3, none⟩ (.int .i64 a0_3)).heap[gb664]? = some (.cells #[.slice A0_0 l0_0.length c0_0, .slice A0_1 l0_1.length c0_1, .slice A0_2 l0_2.length c0_2, .int .i64 a0_3] 26 (0, 0))) := ⟨st4_far BK664.out NB664_677.out⟩
    have n2_ : Aside0 (((((w942.setCell ⟨gb677, 0, none⟩ (.slice A0_0 l0_0.length c0_0)).setCell ⟨gb677, 1, none⟩ (.slice A0_1 l0_1.length c0_1)).setCell ⟨gb677, 2, none⟩ (.slice A0_2 l0_2.length c0_2)).setCell ⟨gb677, 3, none⟩ (.int .i64 a0_3)).heap[gb676]? = some (.cells #[.slice A0_0 l0_0.length c0_0, .slice A0_1 l0_1.length c0_1, .slice A0_2 l0_2.length c0_2, .int .i64 a0_3] 26 (0, 0))) := ⟨st4_far BK676.out NB676_677.out⟩
    have n3_ : Aside0 (((((w942.setCell ⟨gb677, 0, none⟩ (.slice A0_0 l0_0.length c0_0)).setCell ⟨gb677, 1, none⟩ (.slice A0_1 l0_1.length c0_1)).setCell ⟨gb677, 2, none⟩ (.slice A0_2 l0_2.length c0_2)).setCell ⟨gb677, 3, none⟩ (.int .i64 a0_3)).heap[gb677]? = some (.cells #[.slice A0_0 l0_0.length c0_0, .slice A0_1 l0_1.length c0_1, .slice A0_2 l0_2.length c0_2, .int .i64 a0_3] 26 (0, 0))) := ⟨st4_own BK677.out⟩
    have n4_ : Aside0 (((((w942.setCell ⟨gb677, 0, none⟩ (.slice A0_0 l0_0.length c0_0)).setCell ⟨gb677, 1, none⟩ (.slice A0_1 l0_1.length c0_1)).setCell ⟨gb677, 2, none⟩ (.slice A0_2 l0_2.length c0_2)).setCell ⟨gb677, 3, none⟩ (.int .i64 a0_3)).heap[gb678]? = some (.cells #[.slice none 0 0, .slice none 0 0, .slice none 0 0, .int .i64 0] 26 (0, 0))) := ⟨st4_far BK678.out NB678_677.out⟩
    have n5_ : Aside0 (Below w.heap.size w ((((w942.setCell ⟨gb677, 0, none⟩ (.slice A0_0 l0_0.length c0_0)).setCell ⟨gb677, 1, none⟩ (.slice A0_1 l0_1.length c0_1)).setCell ⟨gb677, 2, none⟩ (.slice A0_2 l0_2.length c0_2)).setCell ⟨gb677, 3, none⟩ (.int .i64 a0_3))) := ⟨st4_below HB.out GE677.out⟩
    clear HO670 BK664 BK676 BK677 BK678 HB
    generalize ((((w942.setCell ⟨gb677, 0, none⟩ (.slice A0_0 l0_0.length c0_0)).setCell ⟨gb677, 1, none⟩ (.slice A0_1 l0_1.length c0_1)).setCell ⟨gb677, 2, none⟩ (.slice A0_2 l0_2.length c0_2)).setCell ⟨gb677, 3, none⟩ (.int .i64 a0_3)) = w943 at n0_ n1_ n2_ n3_ n4_ n5_ hHeld ⊢
    have HO670 := n0_
    have BK664 := n1_
    have BK676 := n2_
    have BK677 := n3_
    have BK678 := n4_
    have HB := n5_
    clear n0_ n1_ n2_ n3_ n4_ n5_
    clear hs47 hfs47 hns47_0 hns47_1 hns47_3 hms47_0 hms47_1 hms47_3 hs48 hfs48 hns48_0 hns48_1 hns48_3 hms48_0 hms48_1 hms48_3 hs49 hfs49 hns49_0 hns49_1 hns49_3 hms49_0 hms49_1 hms49_3 hs50 hfs50 hns50_0 hns50_1 hns50_3 hms50_0 hms50_1 hms50_3
    refine one_ (i := 8) (N := none) #[true, true, true, true, true, true, true, true, true] rfl rfl (one_of HT_.out (by kernel_rfl)) (by decide) (fun K hK => ?_)
    have hs51 : w943.cell? ⟨gb678, 0, none⟩ = some (.slice none 0 0) := (blk_cell BK678.out 0).trans rfl
    have hfs51 := blk_frozen BK678.out 0
    have hns51_0 := NB664_678.out
    have hns51_1 := NB676_678.out
    have hns51_2 := NB677_678.out
    have hms51_0 := NB678_664.out
    have hms51_1 := NB678_676.out
    have hms51_2 := NB678_677.out
    have hs52 : w943.cell? ⟨gb678, 1, none⟩ = some (.slice none 0 0) := (blk_cell BK678.out 1).trans rfl
    have hfs52 := blk_frozen BK678.out 1
    have hns52_0 := NB664_678.out
    have hns52_1 := NB676_678.out
    have hns52_2 := NB677_678.out
    have hms52_0 := NB678_664.out
    have hms52_1 := NB678_676.out
    have hms52_2 := NB678_677.out
    have hs53 : w943.cell? ⟨gb678, 2, none⟩ = some (.slice none 0 0) := (blk_cell BK678.out 2).trans rfl
    have hfs53 := blk_frozen BK678.out 2
    have hns53_0 := NB664_678.out
    have hns53_1 := NB676_678.out
    have hns53_2 := NB677_678.out
    have hms53_0 := NB678_664.out
    have hms53_1 := NB678_676.out
    have hms53_2 := NB678_677.out
    have hs54 : w943.cell? ⟨gb678, 3, none⟩ = some (.int .i64 0) := (blk_cell BK678.out 3).trans rfl
    have hfs54 := blk_frozen BK678.out 3
    have hns54_0 := NB664_678.out
    have hns54_1 := NB676_678.out
    have hns54_2 := NB677_678.out
    have hms54_0 := NB678_664.out
    have hms54_1 := NB678_676.out
    have hms54_2 := NB678_677.out
    refine skip_ (w1 := ?_) (by rfl) rfl ?_ ?_
    rotate_left
    ·
     go_simp
     rfl
    refine hK.out _ _ ⟨((cell_far (p := ⟨gb678, _, none⟩) NB664_678.out _).trans (((cell_far (p := ⟨gb678, _, none⟩) NB664_678.out _).trans (((cell_far (p := ⟨gb678, _, none⟩) NB664_678.out _).trans (((cell_far (p := ⟨gb678, _, none⟩) NB664_678.out _).trans (hHeld.1)))))))), ((cell_far (p := ⟨gb678, _, none⟩) NB664_678.out _).trans (((cell_far (p := ⟨gb678, _, none⟩) NB664_678.out _).trans (((cell_far (p := ⟨gb678, _, none⟩) NB664_678.out _).trans (((cell_far (p := ⟨gb678, _, none⟩) NB664_678.out _).trans (hHeld.2.1)))))))), ((cell_far (p := ⟨gb678, _, none⟩) NB664_678.out _).trans (((cell_far (p := ⟨gb678, _, none⟩) NB664_678.out _).trans (((cell_far (p := ⟨gb678, _, none⟩) NB664_678.out _).trans (((cell_far (p := ⟨gb678, _, none⟩) NB664_678.out _).trans (hHeld.2.2.1)))))))), ((cell_far (p := ⟨gb678, _, none⟩) NB664_678.out _).trans (((cell_far (p := ⟨gb678, _, none⟩) NB664_678.out _).trans (((cell_far (p := ⟨gb678, _, none⟩) NB664_678.out _).trans (((cell_far (p := ⟨gb678, _, none⟩) NB664_678.out _).trans (hHeld.2.2.2))))))))⟩ (fun hHeld => ?_)
    clear hK K
    have n0_ : Aside0 (Kd.R k48 48 ((((w943.setCell ⟨gb678, 0, none⟩ (.slice A0_0 l0_0.length c0_0)).setCell ⟨gb678, 1, none⟩ (.slice A0_1 l0_1.length c0_1)).setCell ⟨gb678, 2, none⟩ (.slice A0_2 l0_2.length c0_2)).setCell ⟨gb678, 3, none⟩ (.int .i64 a0_3)) w.heap.size (fun _ => True) (.slice Ao36 t668.length co36) t668) := ⟨st4_R HO670.out BK678.out⟩
    have n1_ : Aside0 (((((w943.setCell ⟨gb678, 0, none⟩ (.slice A0_0 l0_0.length c0_0)).setCell ⟨gb678, 1, none⟩ (.slice A0_1 l0_1.length c0_1)).setCell ⟨gb678, 2, none⟩ (.slice A0_2 l0_2.length c0_2)).setCell ⟨gb678, 3, none⟩ (.int .i64 a0_3)).heap[gb664]? = some (.cells #[.slice A0_0 l0_0.length c0_0, .slice A0_1 l0_1.length c0_1, .slice A0_2 l0_2.length c0_2, .int .i64 a0_3] 26 (0, 0))) := ⟨st4_far BK664.out NB664_678.out⟩
    have n2_ : Aside0 (((((w943.setCell ⟨gb678, 0, none⟩ (.slice A0_0 l0_0.length c0_0)).setCell ⟨gb678, 1, none⟩ (.slice A0_1 l0_1.length c0_1)).setCell ⟨gb678, 2, none⟩ (.slice A0_2 l0_2.length c0_2)).setCell ⟨gb678, 3, none⟩ (.int .i64 a0_3)).heap[gb676]? = some (.cells #[.slice A0_0 l0_0.length c0_0, .slice A0_1 l0_1.length c0_1, .slice A0_2 l0_2.length c0_2, .int .i64 a0_3] 26 (0, 0))) := ⟨st4_far BK676.out NB676_678.out⟩
    have n3_ : Aside0 (((((w943.setCell ⟨gb678, 0, none⟩ (.slice A0_0 l0_0.length c0_0)).setCell ⟨gb678, 1, none⟩ (.slice A0_1 l0_1.length c0_1)).setCell ⟨gb678, 2, none⟩ (.slice A0_2 l0_2.length c0_2)).setCell ⟨gb678, 3, none⟩ (.int .i64 a0_3)).heap[gb677]? = some (.cells #[.slice A0_0 l0_0.length c0_0, .slice A0_1 l0_1.length c0_1, .slice A0_2 l0_2.length c0_2, .int .i64 a0_3] 26 (0, 0))) := ⟨st4_far BK677.out NB677_678.out⟩
    have n4_ : Aside0 (((((w943.setCell ⟨gb678, 0, none⟩ (.slice A0_0 l0_0.length c0_0)).setCell ⟨gb678, 1, none⟩ (.slice A0_1 l0_1.length c0_1)).setCell ⟨gb678, 2, none⟩ (.slice A0_2 l0_2.length c0_2)).setCell ⟨gb678, 3, none⟩ (.int .i64 a0_3)).heap[gb678]? = some (.cells #[.slice A0_0 l0_0.length c0_0, .slice A0_1 l0_1.length c0_1, .slice A0_2 l0_2.length c0_2, .int .i64 a0_3] 26 (0, 0))) := ⟨st4_own BK678.out⟩
    have n5_ : Aside0 (Below w.heap.size w ((((w943.setCell ⟨gb678, 0, none⟩ (.slice A0_0 l0_0.length c0_0)).setCell ⟨gb678, 1, none⟩ (.slice A0_1 l0_1.length c0_1)).setCell ⟨gb678, 2, none⟩ (.slice A0_2 l0_2.length c0_2)).setCell ⟨gb678, 3, none⟩ (.int .i64 a0_3))) := ⟨st4_below HB.out GE678.out⟩
    clear HO670 BK664 BK676 BK677 BK678 HB
    generalize ((((w943.setCell ⟨gb678, 0, none⟩ (.slice A0_0 l0_0.length c0_0)).setCell ⟨gb678, 1, none⟩ (.slice A0_1 l0_1.length c0_1)).setCell ⟨gb678, 2, none⟩ (.slice A0_2 l0_2.length c0_2)).setCell ⟨gb678, 3, none⟩ (.int .i64 a0_3)) = w944 at n0_ n1_ n2_ n3_ n4_ n5_ hHeld ⊢
    have HO670 := n0_
    have BK664 := n1_
    have BK676 := n2_
    have BK677 := n3_
    have BK678 := n4_
    have HB := n5_
    clear n0_ n1_ n2_ n3_ n4_ n5_
    clear hs51 hfs51 hns51_0 hns51_1 hns51_2 hms51_0 hms51_1 hms51_2 hs52 hfs52 hns52_0 hns52_1 hns52_2 hms52_0 hms52_1 hms52_2 hs53 hfs53 hns53_0 hns53_1 hns53_2 hms53_0 hms53_1 hms53_2 hs54 hfs54 hns54_0 hns54_1 hns54_2 hms54_0 hms54_1 hms54_2
    refine done_ (done_of HT_.out (by kernel_rfl)) ?_
    have H := H'.out
    clear H'
    by_cases c10 : (l0_0.length : Int) > 0
    ·
     rw [if_pos c10] at H
     have c10b0 : decide (0 < (l0_0.length : Int)) = true := decide_eq_true c10
     have c10b1 : decide (0 < l0_0.length) = true := decide_eq_true (by omega)
     clear c10
     obtain ⟨ji11, hji11⟩ : ∃ j_ : Int, (wrap64 ((l0_0.length : Int) - 1)) = j_ := ⟨_, rfl⟩
     replace H : (if 0 ≤ (ji11) then (if (ji11) ≤ (l0_0.length : Int) then ((some (l0_0.take ((ji11) : Int).toNat : List (S53))).bind fun y679 => (if (l0_2.length : Int) > 0 then (if 0 ≤ (wrap64 ((l0_2.length : Int) - 1)) then (if (wrap64 ((l0_2.length : Int) - 1)) ≤ (l0_2.length : Int) then ((some (l0_2.take ((wrap64 ((l0_2.length : Int) - 1)) : Int).toNat : List (S59))).bind fun y683 => (if (l0_1.length : Int) < 4 then ((some (([] : List (S55)) : List (S55))).bind fun y687 => (if y687.length + l0_1.length < 17592186044416 then ((some (y687 ++ l0_1 : List (S55))).bind fun y690 => (if y690.length < 17592186044416 then ((dancestudiolaw50_sooner.f k y679 l0_1 l0_2 a0_3 t674).bind fun t696 => (if t696 = true then ((dancestudiolaw50_sooner.f k l0_0 l0_1 y683 a0_3 t674).bind fun t697 => (if t697 = true then ((dancestudiolaw50_sooner.f k l0_0 (y690 ++ [(⟨1⟩ : S55)]) l0_2 a0_3 t674).bind fun t698 => (if t698 = true then ((dancestudiolaw50_awake.f k).bind fun t699 => (some t699)) else (none))) else (none))) else (none))) else (none))) else (none))) else ((dancestudiolaw50_sooner.f k y679 l0_1 l0_2 a0_3 t674).bind fun t700 => (if t700 = true then ((dancestudiolaw50_sooner.f k l0_0 l0_1 y683 a0_3 t674).bind fun t701 => (if t701 = true then ((dancestudiolaw50_sooner.f k l0_0 l0_1 l0_2 a0_3 t674).bind fun t702 => (if t702 = true then ((dancestudiolaw50_awake.f k).bind fun t703 => (some t703)) else (none))) else (none))) else (none))))) else (none)) else (none)) else (if (l0_1.length : Int) < 4 then ((some (([] : List (S55)) : List (S55))).bind fun y704 => (if y704.length + l0_1.length < 17592186044416 then ((some (y704 ++ l0_1 : List (S55))).bind fun y707 => (if y707.length < 17592186044416 then ((dancestudiolaw50_sooner.f k y679 l0_1 l0_2 a0_3 t674).bind fun t713 => (if t713 = true then ((dancestudiolaw50_sooner.f k l0_0 l0_1 l0_2 a0_3 t674).bind fun t714 => (if t714 = true then ((dancestudiolaw50_sooner.f k l0_0 (y707 ++ [(⟨1⟩ : S55)]) l0_2 a0_3 t674).bind fun t715 => (if t715 = true then ((dancestudiolaw50_awake.f k).bind fun t716 => (some t716)) else (none))) else (none))) else (none))) else (none))) else (none))) else ((dancestudiolaw50_sooner.f k y679 l0_1 l0_2 a0_3 t674).bind fun t717 => (if t717 = true then ((dancestudiolaw50_sooner.f k l0_0 l0_1 l0_2 a0_3 t674).bind fun t718 => (if t718 = true then ((dancestudiolaw50_sooner.f k l0_0 l0_1 l0_2 a0_3 t674).bind fun t719 => (if t719 = true then ((dancestudiolaw50_awake.f k).bind fun t720 => (some t720)) else (none))) else (none))) else (none)))))) else (none)) else (none)) = some r := by first | (rw [hji11] at H; exact H) | (simp only [hji11] at H ⊢; exact H)
     (try rw [hji11] at A2)
     (try rw [hji11] at A4)
     (try rw [hji11] at A5)
     (try rw [hji11] at A7)
     (try rw [hji11] at A8)
     have hji11w : (IntKind.i64.wrap ((l0_0.length : Int) - 1)) = ji11 := (i64_w _).trans hji11
     by_cases c12 : 0 ≤ (ji11)
     ·
      rw [if_pos c12] at H
      have c12b0 := eq_true c12
      have c12b1 : decide (0 ≤ (ji11)) = true := decide_eq_true c12
      clear c12
      by_cases c13 : (ji11) ≤ (l0_0.length : Int)
      ·
       rw [if_pos c13] at H
       have c13b0 := eq_true c13
       have c13b1 : decide ((ji11) ≤ (l0_0.length : Int)) = true := decide_eq_true c13
       clear c13
       obtain ⟨y679, hy679⟩ : ∃ y_ : List (S53), y_ = (l0_0.take ((ji11) : Int).toNat) := ⟨_, rfl⟩
       replace H : (if (l0_2.length : Int) > 0 then (if 0 ≤ (wrap64 ((l0_2.length : Int) - 1)) then (if (wrap64 ((l0_2.length : Int) - 1)) ≤ (l0_2.length : Int) then ((some (l0_2.take ((wrap64 ((l0_2.length : Int) - 1)) : Int).toNat : List (S59))).bind fun y683 => (if (l0_1.length : Int) < 4 then ((some (([] : List (S55)) : List (S55))).bind fun y687 => (if y687.length + l0_1.length < 17592186044416 then ((some (y687 ++ l0_1 : List (S55))).bind fun y690 => (if y690.length < 17592186044416 then ((dancestudiolaw50_sooner.f k y679 l0_1 l0_2 a0_3 t674).bind fun t696 => (if t696 = true then ((dancestudiolaw50_sooner.f k l0_0 l0_1 y683 a0_3 t674).bind fun t697 => (if t697 = true then ((dancestudiolaw50_sooner.f k l0_0 (y690 ++ [(⟨1⟩ : S55)]) l0_2 a0_3 t674).bind fun t698 => (if t698 = true then ((dancestudiolaw50_awake.f k).bind fun t699 => (some t699)) else (none))) else (none))) else (none))) else (none))) else (none))) else ((dancestudiolaw50_sooner.f k y679 l0_1 l0_2 a0_3 t674).bind fun t700 => (if t700 = true then ((dancestudiolaw50_sooner.f k l0_0 l0_1 y683 a0_3 t674).bind fun t701 => (if t701 = true then ((dancestudiolaw50_sooner.f k l0_0 l0_1 l0_2 a0_3 t674).bind fun t702 => (if t702 = true then ((dancestudiolaw50_awake.f k).bind fun t703 => (some t703)) else (none))) else (none))) else (none))))) else (none)) else (none)) else (if (l0_1.length : Int) < 4 then ((some (([] : List (S55)) : List (S55))).bind fun y704 => (if y704.length + l0_1.length < 17592186044416 then ((some (y704 ++ l0_1 : List (S55))).bind fun y707 => (if y707.length < 17592186044416 then ((dancestudiolaw50_sooner.f k y679 l0_1 l0_2 a0_3 t674).bind fun t713 => (if t713 = true then ((dancestudiolaw50_sooner.f k l0_0 l0_1 l0_2 a0_3 t674).bind fun t714 => (if t714 = true then ((dancestudiolaw50_sooner.f k l0_0 (y707 ++ [(⟨1⟩ : S55)]) l0_2 a0_3 t674).bind fun t715 => (if t715 = true then ((dancestudiolaw50_awake.f k).bind fun t716 => (some t716)) else (none))) else (none))) else (none))) else (none))) else (none))) else ((dancestudiolaw50_sooner.f k y679 l0_1 l0_2 a0_3 t674).bind fun t717 => (if t717 = true then ((dancestudiolaw50_sooner.f k l0_0 l0_1 l0_2 a0_3 t674).bind fun t718 => (if t718 = true then ((dancestudiolaw50_sooner.f k l0_0 l0_1 l0_2 a0_3 t674).bind fun t719 => (if t719 = true then ((dancestudiolaw50_awake.f k).bind fun t720 => (some t720)) else (none))) else (none))) else (none))))) = some r := by first | (rw [hy679]; with_reducible exact H) | (have H2_ := (Option.bind_some _ _).symm.trans H; rw [hy679]; with_reducible exact H2_) | (have H2_ := (Option.bind_some _ _).symm.trans H; with_reducible exact H2_) | with_reducible exact H | (rw [hy679]; exact H) | exact H
       have Ny679 := Aside0.mk hy679
       clear hy679
       by_cases c14 : (l0_2.length : Int) > 0
       ·
        rw [if_pos c14] at H
        have c14b0 : decide (0 < (l0_2.length : Int)) = true := decide_eq_true c14
        have c14b1 : decide (0 < l0_2.length) = true := decide_eq_true (by omega)
        clear c14
        obtain ⟨ji15, hji15⟩ : ∃ j_ : Int, (wrap64 ((l0_2.length : Int) - 1)) = j_ := ⟨_, rfl⟩
        replace H : (if 0 ≤ (ji15) then (if (ji15) ≤ (l0_2.length : Int) then ((some (l0_2.take ((ji15) : Int).toNat : List (S59))).bind fun y683 => (if (l0_1.length : Int) < 4 then ((some (([] : List (S55)) : List (S55))).bind fun y687 => (if y687.length + l0_1.length < 17592186044416 then ((some (y687 ++ l0_1 : List (S55))).bind fun y690 => (if y690.length < 17592186044416 then ((dancestudiolaw50_sooner.f k y679 l0_1 l0_2 a0_3 t674).bind fun t696 => (if t696 = true then ((dancestudiolaw50_sooner.f k l0_0 l0_1 y683 a0_3 t674).bind fun t697 => (if t697 = true then ((dancestudiolaw50_sooner.f k l0_0 (y690 ++ [(⟨1⟩ : S55)]) l0_2 a0_3 t674).bind fun t698 => (if t698 = true then ((dancestudiolaw50_awake.f k).bind fun t699 => (some t699)) else (none))) else (none))) else (none))) else (none))) else (none))) else ((dancestudiolaw50_sooner.f k y679 l0_1 l0_2 a0_3 t674).bind fun t700 => (if t700 = true then ((dancestudiolaw50_sooner.f k l0_0 l0_1 y683 a0_3 t674).bind fun t701 => (if t701 = true then ((dancestudiolaw50_sooner.f k l0_0 l0_1 l0_2 a0_3 t674).bind fun t702 => (if t702 = true then ((dancestudiolaw50_awake.f k).bind fun t703 => (some t703)) else (none))) else (none))) else (none))))) else (none)) else (none)) = some r := by first | (rw [hji15] at H; exact H) | (simp only [hji15] at H ⊢; exact H)
        (try rw [hji15] at A2)
        (try rw [hji15] at A4)
        (try rw [hji15] at A5)
        (try rw [hji15] at A7)
        (try rw [hji15] at A8)
        have hji15w : (IntKind.i64.wrap ((l0_2.length : Int) - 1)) = ji15 := (i64_w _).trans hji15
        by_cases c16 : 0 ≤ (ji15)
        ·
         rw [if_pos c16] at H
         have c16b0 := eq_true c16
         have c16b1 : decide (0 ≤ (ji15)) = true := decide_eq_true c16
         clear c16
         by_cases c17 : (ji15) ≤ (l0_2.length : Int)
         ·
          rw [if_pos c17] at H
          have c17b0 := eq_true c17
          have c17b1 : decide ((ji15) ≤ (l0_2.length : Int)) = true := decide_eq_true c17
          clear c17
          obtain ⟨y683, hy683⟩ : ∃ y_ : List (S59), y_ = (l0_2.take ((ji15) : Int).toNat) := ⟨_, rfl⟩
          replace H : (if (l0_1.length : Int) < 4 then ((some (([] : List (S55)) : List (S55))).bind fun y687 => (if y687.length + l0_1.length < 17592186044416 then ((some (y687 ++ l0_1 : List (S55))).bind fun y690 => (if y690.length < 17592186044416 then ((dancestudiolaw50_sooner.f k y679 l0_1 l0_2 a0_3 t674).bind fun t696 => (if t696 = true then ((dancestudiolaw50_sooner.f k l0_0 l0_1 y683 a0_3 t674).bind fun t697 => (if t697 = true then ((dancestudiolaw50_sooner.f k l0_0 (y690 ++ [(⟨1⟩ : S55)]) l0_2 a0_3 t674).bind fun t698 => (if t698 = true then ((dancestudiolaw50_awake.f k).bind fun t699 => (some t699)) else (none))) else (none))) else (none))) else (none))) else (none))) else ((dancestudiolaw50_sooner.f k y679 l0_1 l0_2 a0_3 t674).bind fun t700 => (if t700 = true then ((dancestudiolaw50_sooner.f k l0_0 l0_1 y683 a0_3 t674).bind fun t701 => (if t701 = true then ((dancestudiolaw50_sooner.f k l0_0 l0_1 l0_2 a0_3 t674).bind fun t702 => (if t702 = true then ((dancestudiolaw50_awake.f k).bind fun t703 => (some t703)) else (none))) else (none))) else (none)))) = some r := by first | (rw [hy683]; with_reducible exact H) | (have H2_ := (Option.bind_some _ _).symm.trans H; rw [hy683]; with_reducible exact H2_) | (have H2_ := (Option.bind_some _ _).symm.trans H; with_reducible exact H2_) | with_reducible exact H | (rw [hy683]; exact H) | exact H
          have Ny683 := Aside0.mk hy683
          clear hy683
          by_cases c18 : (l0_1.length : Int) < 4
          ·
           rw [if_pos c18] at H
           have c18b0 : decide ((l0_1.length : Int) < 4) = true := decide_eq_true c18
           have c18b1 : decide (l0_1.length < 4) = true := decide_eq_true (by omega)
           clear c18
           obtain ⟨y687, hy687⟩ : ∃ y_ : List (S55), y_ = (([] : List (S55))) := ⟨_, rfl⟩
           replace H : (if y687.length + l0_1.length < 17592186044416 then ((some (y687 ++ l0_1 : List (S55))).bind fun y690 => (if y690.length < 17592186044416 then ((dancestudiolaw50_sooner.f k y679 l0_1 l0_2 a0_3 t674).bind fun t696 => (if t696 = true then ((dancestudiolaw50_sooner.f k l0_0 l0_1 y683 a0_3 t674).bind fun t697 => (if t697 = true then ((dancestudiolaw50_sooner.f k l0_0 (y690 ++ [(⟨1⟩ : S55)]) l0_2 a0_3 t674).bind fun t698 => (if t698 = true then ((dancestudiolaw50_awake.f k).bind fun t699 => (some t699)) else (none))) else (none))) else (none))) else (none))) else (none)) = some r := by first | (rw [hy687]; with_reducible exact H) | (have H2_ := (Option.bind_some _ _).symm.trans H; rw [hy687]; with_reducible exact H2_) | (have H2_ := (Option.bind_some _ _).symm.trans H; with_reducible exact H2_) | with_reducible exact H | (rw [hy687]; exact H) | exact H
           have Ny687 := Aside0.mk hy687
           clear hy687
           by_cases c19 : y687.length + l0_1.length < 17592186044416
           ·
            rw [if_pos c19] at H
            have LMc19 := Aside0.mk c19
            clear c19
            obtain ⟨y690, hy690⟩ : ∃ y_ : List (S55), y_ = (y687 ++ l0_1) := ⟨_, rfl⟩
            replace H : (if y690.length < 17592186044416 then ((dancestudiolaw50_sooner.f k y679 l0_1 l0_2 a0_3 t674).bind fun t696 => (if t696 = true then ((dancestudiolaw50_sooner.f k l0_0 l0_1 y683 a0_3 t674).bind fun t697 => (if t697 = true then ((dancestudiolaw50_sooner.f k l0_0 (y690 ++ [(⟨1⟩ : S55)]) l0_2 a0_3 t674).bind fun t698 => (if t698 = true then ((dancestudiolaw50_awake.f k).bind fun t699 => (some t699)) else (none))) else (none))) else (none))) else (none)) = some r := by first | (rw [hy690]; with_reducible exact H) | (have H2_ := (Option.bind_some _ _).symm.trans H; rw [hy690]; with_reducible exact H2_) | (have H2_ := (Option.bind_some _ _).symm.trans H; with_reducible exact H2_) | with_reducible exact H | (rw [hy690]; exact H) | exact H
            have Ny690 := Aside0.mk hy690
            clear hy690
            by_cases c20 : y690.length < 17592186044416
            ·
             rw [if_pos c20] at H
             have LMc20 := Aside0.mk c20
             clear c20
             obtain ⟨y693, hy693⟩ : ∃ y_ : List (S55), y_ = (y690 ++ [(⟨1⟩ : S55)]) := ⟨_, rfl⟩
             replace H : ((dancestudiolaw50_sooner.f k y679 l0_1 l0_2 a0_3 t674).bind fun t696 => (if t696 = true then ((dancestudiolaw50_sooner.f k l0_0 l0_1 y683 a0_3 t674).bind fun t697 => (if t697 = true then ((dancestudiolaw50_sooner.f k l0_0 y693 l0_2 a0_3 t674).bind fun t698 => (if t698 = true then ((dancestudiolaw50_awake.f k).bind fun t699 => (some t699)) else (none))) else (none))) else (none))) = some r := by first | (rw [hy693]; with_reducible exact H) | (have H2_ := (Option.bind_some _ _).symm.trans H; rw [hy693]; with_reducible exact H2_) | (have H2_ := (Option.bind_some _ _).symm.trans H; with_reducible exact H2_) | with_reducible exact H | (rw [hy693]; exact H) | exact H
             have Ny693 := Aside0.mk hy693
             clear hy693
             replace H := Option.bind_eq_some_iff.mp H
             obtain ⟨t696, A210, H⟩ := H
             try dsimp only at H
             have A21 := Aside0.mk A210
             clear A210
             by_cases c22 : t696 = true
             ·
              subst c22
              rw [if_pos rfl] at H
              have H1 := H
              clear H
              have H := H1
              clear H1
              replace H := Option.bind_eq_some_iff.mp H
              obtain ⟨t697, A230, H⟩ := H
              replace H : (if t697 = true then ((dancestudiolaw50_sooner.f k l0_0 y693 l0_2 a0_3 t674).bind fun t698 => (if t698 = true then ((dancestudiolaw50_awake.f k).bind fun t699 => (some t699)) else (none))) else (none)) = some r := H
              have A23 := Aside0.mk A230
              clear A230
              by_cases c24 : t697 = true
              ·
               subst c24
               have H1 : ((dancestudiolaw50_sooner.f k l0_0 y693 l0_2 a0_3 t674).bind fun t698 => (if t698 = true then ((dancestudiolaw50_awake.f k).bind fun t699 => (some t699)) else (none))) = some r := by rw [if_pos rfl] at H; exact H
               clear H
               have H := H1
               clear H1
               replace H := Option.bind_eq_some_iff.mp H
               obtain ⟨t698, A250, H⟩ := H
               replace H : (if t698 = true then ((dancestudiolaw50_awake.f k).bind fun t699 => (some t699)) else (none)) = some r := H
               have A25 := Aside0.mk A250
               clear A250
               by_cases c26 : t698 = true
               ·
                subst c26
                have H1 : ((dancestudiolaw50_awake.f k).bind fun t699 => (some t699)) = some r := by rw [if_pos rfl] at H; exact H
                clear H
                have H := H1
                clear H1
                replace H := Option.bind_eq_some_iff.mp H
                obtain ⟨t699, A270, H⟩ := H
                replace H : (some t699) = some r := H
                have A27 := Aside0.mk A270
                clear A270
                obtain rfl := Option.some.inj H
                generalize w944 = w55 at HO670 BK664 BK676 BK677 BK678 HB ⊢
                have hnb56 := NB664_676.out
                have hnc56 := NB676_664.out
                have hnb57 := NB664_677.out
                have hnc57 := NB677_664.out
                have hnb58 := NB664_678.out
                have hnc58 := NB678_664.out
                have hcz59_0 : w55.cell? ⟨gb664, 0, none⟩ = some (.slice A0_0 l0_0.length c0_0) := (blk_cell BK664.out 0).trans rfl
                have hcz59_1 : w55.cell? ⟨gb664, 1, none⟩ = some (.slice A0_1 l0_1.length c0_1) := (blk_cell BK664.out 1).trans rfl
                have hcz59_2 : w55.cell? ⟨gb664, 2, none⟩ = some (.slice A0_2 l0_2.length c0_2) := (blk_cell BK664.out 2).trans rfl
                have hcz59_3 : w55.cell? ⟨gb664, 3, none⟩ = some (.int .i64 a0_3) := (blk_cell BK664.out 3).trans rfl
                have hfz59_0 := blk_frozen BK664.out 0
                have hfz59_1 := blk_frozen BK664.out 1
                have hfz59_2 := blk_frozen BK664.out 2
                have hfz59_3 := blk_frozen BK664.out 3
                have q60 : ((ji11) : Int) ≤ ((l0_0.length : Int) : Int) := of_decide_eq_true (by assumption)
                obtain ⟨i060, hi060, _, hsz60, _⟩ := info_parts info53
                have hroom60 : l0_0.length ≤ c0_0 := HC0_0.out
                have hC60 : Kd.C k53 _ A0_0 l0_0.length l0_0 := HR0_0.out
                have hcut60 := cut_to (P := Try.prog) 22 53 .i64 Try.underlying22 hi060 A0_0 l0_0.length c0_0 (ji11) (of_decide_eq_true (by assumption)) q60 hroom60
                have hr60 := Kd.C_take (m := ((ji11) : Int).toNat) hC60 (by omega)
                have hy60 : y679.length = ((ji11) : Int).toNat := (by rw [Ny679.out, List.length_take]; omega)
                rw [← Ny679.out] at hr60
                rw [← hy60] at hcut60
                have HR682 := Aside0.mk hr60
                have HC682 := Aside0.mk (show y679.length ≤ c0_0 from by omega)
                clear hr60 hC60 hroom60 hi060 hsz60
                have KY60 := Aside0.mk hy60
                clear hy60
                replace q60 := eq_true q60
                have hnb61 := NB676_677.out
                have hnc61 := NB677_676.out
                have hnb62 := NB676_678.out
                have hnc62 := NB678_676.out
                have hcz63_0 : w55.cell? ⟨gb676, 0, none⟩ = some (.slice A0_0 l0_0.length c0_0) := (blk_cell BK676.out 0).trans rfl
                have hcz63_1 : w55.cell? ⟨gb676, 1, none⟩ = some (.slice A0_1 l0_1.length c0_1) := (blk_cell BK676.out 1).trans rfl
                have hcz63_2 : w55.cell? ⟨gb676, 2, none⟩ = some (.slice A0_2 l0_2.length c0_2) := (blk_cell BK676.out 2).trans rfl
                have hcz63_3 : w55.cell? ⟨gb676, 3, none⟩ = some (.int .i64 a0_3) := (blk_cell BK676.out 3).trans rfl
                have hfz63_0 := blk_frozen BK676.out 0
                have hfz63_1 := blk_frozen BK676.out 1
                have hfz63_2 := blk_frozen BK676.out 2
                have hfz63_3 := blk_frozen BK676.out 3
                try go_wp2_with (first | ((with_reducible refine gate_store (t := 22) (p := 45) rfl ?_); refine store_event (t := 22) (p := 45) (v := ?vo_w64) (w1 := (w55.setCell ⟨gb676, 0, none⟩ (.slice A0_0 y679.length c0_0))) ?hg ?ho ?hn ?hr ?_; (case ho => rfl); (case hg => rfl); (case hn => rfl); (case hr => first | (go_simp; done) | (go_simp; rfl)); intro w64 hw; have n0_ : Aside0 (Kd.R k48 48 w64 w.heap.size (fun _ => True) (.slice Ao36 t668.length co36) t668) := ⟨(by rw [hw]; exact (by (with_reducible repeat (first | apply Kd.R_alloc | apply Kd.R_drewN | apply Kd.R_drew)); exact Kd.R_mono (Kd.R_far (p := ⟨gb676, 0, none⟩) (Kd.R_types HO670.out BK676.out (by decide)) (fun _ hk => hk.2) (.slice A0_0 y679.length c0_0)) (fun _ hk => trivial)))⟩; have n1_ : Aside0 (w64.heap[gb664]? = some (.cells #[.slice A0_0 l0_0.length c0_0, .slice A0_1 l0_1.length c0_1, .slice A0_2 l0_2.length c0_2, .int .i64 a0_3] 26 (0, 0))) := ⟨(by rw [hw]; exact (blk_far (bO BK664) NB664_676.out _))⟩; have n2_ : Aside0 (w64.heap[gb676]? = some (.cells #[.slice A0_0 y679.length c0_0, .slice A0_1 l0_1.length c0_1, .slice A0_2 l0_2.length c0_2, .int .i64 a0_3] 26 (0, 0))) := ⟨(by rw [hw]; exact (by (with_reducible repeat (first | refine blk_drewN ?_ _ | refine blk_drew ?_ | refine blk_alloc ?_ _)); refine blk_put (cs := #[.slice A0_0 l0_0.length c0_0, .slice A0_1 l0_1.length c0_1, .slice A0_2 l0_2.length c0_2, .int .i64 a0_3]) ?_ 0 _ rfl; (with_reducible repeat (first | refine blk_drewN ?_ _ | refine blk_drew ?_ | refine blk_alloc ?_ _)); exact BK676.out))⟩; have n3_ : Aside0 (w64.heap[gb677]? = some (.cells #[.slice A0_0 l0_0.length c0_0, .slice A0_1 l0_1.length c0_1, .slice A0_2 l0_2.length c0_2, .int .i64 a0_3] 26 (0, 0))) := ⟨(by rw [hw]; exact (blk_far (bO BK677) NB677_676.out _))⟩; have n4_ : Aside0 (w64.heap[gb678]? = some (.cells #[.slice A0_0 l0_0.length c0_0, .slice A0_1 l0_1.length c0_1, .slice A0_2 l0_2.length c0_2, .int .i64 a0_3] 26 (0, 0))) := ⟨(by rw [hw]; exact (blk_far (bO BK678) NB678_676.out _))⟩; have n5_ : Aside0 (Below w.heap.size w w64) := ⟨(by rw [hw]; exact (hO HB))⟩; clear hw; clear HO670; clear BK664; clear BK676; clear BK677; clear BK678; clear HB; have HO670 := n0_; have BK664 := n1_; have BK676 := n2_; have BK677 := n3_; have BK678 := n4_; have HB := n5_; clear n0_ n1_ n2_ n3_ n4_ n5_; have hcz65_0 : w64.cell? ⟨gb664, 0, none⟩ = some (.slice A0_0 l0_0.length c0_0) := (blk_cell BK664.out 0).trans rfl; have hcz65_1 : w64.cell? ⟨gb664, 1, none⟩ = some (.slice A0_1 l0_1.length c0_1) := (blk_cell BK664.out 1).trans rfl; have hcz65_2 : w64.cell? ⟨gb664, 2, none⟩ = some (.slice A0_2 l0_2.length c0_2) := (blk_cell BK664.out 2).trans rfl; have hcz65_3 : w64.cell? ⟨gb664, 3, none⟩ = some (.int .i64 a0_3) := (blk_cell BK664.out 3).trans rfl; have hfz65_0 := blk_frozen BK664.out 0; have hfz65_1 := blk_frozen BK664.out 1; have hfz65_2 := blk_frozen BK664.out 2; have hfz65_3 := blk_frozen BK664.out 3; have q66 : ((ji15) : Int) ≤ ((l0_2.length : Int) : Int) := of_decide_eq_true (by assumption); obtain ⟨i066, hi066, _, hsz66, _⟩ := info_parts info59; have hroom66 : l0_2.length ≤ c0_2 := HC0_2.out; have hC66 : Kd.C k59 _ A0_2 l0_2.length l0_2 := HR0_2.out; have hcut66 := cut_to (P := Try.prog) 24 59 .i64 Try.underlying24 hi066 A0_2 l0_2.length c0_2 (ji15) (of_decide_eq_true (by assumption)) q66 hroom66; have hr66 := Kd.C_take (m := ((ji15) : Int).toNat) hC66 (by omega); have hy66 : y683.length = ((ji15) : Int).toNat := (by rw [Ny683.out, List.length_take]; omega); rw [← Ny683.out] at hr66; rw [← hy66] at hcut66; have HR686 := Aside0.mk hr66; have HC686 := Aside0.mk (show y683.length ≤ c0_2 from by omega); clear hr66 hC66 hroom66 hi066 hsz66; have KY66 := Aside0.mk hy66; clear hy66; replace q66 := eq_true q66; have hnb67 := NB677_678.out; have hnc67 := NB678_677.out; have hcz68_0 : w64.cell? ⟨gb677, 0, none⟩ = some (.slice A0_0 l0_0.length c0_0) := (blk_cell BK677.out 0).trans rfl; have hcz68_1 : w64.cell? ⟨gb677, 1, none⟩ = some (.slice A0_1 l0_1.length c0_1) := (blk_cell BK677.out 1).trans rfl; have hcz68_2 : w64.cell? ⟨gb677, 2, none⟩ = some (.slice A0_2 l0_2.length c0_2) := (blk_cell BK677.out 2).trans rfl; have hcz68_3 : w64.cell? ⟨gb677, 3, none⟩ = some (.int .i64 a0_3) := (blk_cell BK677.out 3).trans rfl; have hfz68_0 := blk_frozen BK677.out 0; have hfz68_1 := blk_frozen BK677.out 1; have hfz68_2 := blk_frozen BK677.out 2; have hfz68_3 := blk_frozen BK677.out 3) | ((with_reducible refine gate_dst (N := 62) rfl ?_); refine Kd.R_lit k55 _ 55 ?hg (N := 62) ?hd (xs := ([] : List (S55))) (inner := []) (ok := fun _ => True) (okp := fun _ => True) ?hr ?hp (fun _ hk => hk) trivial (Below.refl _ _) (Nat.le_refl _) (by simp) ?_; (case hd => rfl); (case hg => rfl); (case hr => first | (go_simp; done) | (go_simp; rfl)); (case hp => exact (Reps.none _ _)); intro v688 w69 ho70 hb hg_ hnew_; clear hg_ hnew_; (first | rw [← Ny687.out] at ho70 | (simp only [Int.reduceToNat] at ho70; rw [← Ny687.out] at ho70)); have n0_ := Aside0.mk (Kd.R_below (by (with_reducible repeat (first | apply Kd.R_alloc | apply Kd.R_drewN | apply Kd.R_drew)); exact (Kd.R_mono (Kd.R_far (p := ⟨gb677, 2, none⟩) (Kd.R_types HO670.out BK677.out (by decide)) (fun _ hk => hk.2) (.slice A0_2 y683.length c0_2)) (fun _ h_ => h_.1))) hb); have n1_ := Aside0.mk (Kd.R_lower ho70 (below_size (hO HB))); have n2_ := Aside0.mk (blk_below (g := gb664) (o := .cells #[.slice A0_0 l0_0.length c0_0, .slice A0_1 l0_1.length c0_1, .slice A0_2 l0_2.length c0_2, .int .i64 a0_3] 26 (0, 0)) (blk_far (bO BK664) NB664_677.out _) hb); have n3_ := Aside0.mk (blk_below (g := gb676) (o := .cells #[.slice A0_0 y679.length c0_0, .slice A0_1 l0_1.length c0_1, .slice A0_2 l0_2.length c0_2, .int .i64 a0_3] 26 (0, 0)) (blk_far (bO BK676) NB676_677.out _) hb); have n4_ := Aside0.mk (blk_below (g := gb677) (o := .cells #[.slice A0_0 l0_0.length c0_0, .slice A0_1 l0_1.length c0_1, .slice A0_2 y683.length c0_2, .int .i64 a0_3] 26 (0, 0)) (by (with_reducible repeat (first | refine blk_drewN ?_ _ | refine blk_drew ?_ | refine blk_alloc ?_ _)); refine blk_put (cs := #[.slice A0_0 l0_0.length c0_0, .slice A0_1 l0_1.length c0_1, .slice A0_2 l0_2.length c0_2, .int .i64 a0_3]) ?_ 2 _ rfl; (with_reducible repeat (first | refine blk_drewN ?_ _ | refine blk_drew ?_ | refine blk_alloc ?_ _)); exact BK677.out) hb); have n5_ := Aside0.mk (blk_below (g := gb678) (o := .cells #[.slice A0_0 l0_0.length c0_0, .slice A0_1 l0_1.length c0_1, .slice A0_2 l0_2.length c0_2, .int .i64 a0_3] 26 (0, 0)) (blk_far (bO BK678) NB678_677.out _) hb); have n6_ := Aside0.mk (below_step (hO HB) hb); clear HO670; clear BK664; clear BK676; clear BK677; clear BK678; clear HB; have HO670 := n0_; have HO689 := n1_; have BK664 := n2_; have BK676 := n3_; have BK677 := n4_; have BK678 := n5_; have HB := n6_; clear n0_ n1_ n2_ n3_ n4_ n5_ n6_; clear hb ho70; have hcz71_0 : w69.cell? ⟨gb664, 0, none⟩ = some (.slice A0_0 l0_0.length c0_0) := (blk_cell BK664.out 0).trans rfl; have hcz71_1 : w69.cell? ⟨gb664, 1, none⟩ = some (.slice A0_1 l0_1.length c0_1) := (blk_cell BK664.out 1).trans rfl; have hcz71_2 : w69.cell? ⟨gb664, 2, none⟩ = some (.slice A0_2 l0_2.length c0_2) := (blk_cell BK664.out 2).trans rfl; have hcz71_3 : w69.cell? ⟨gb664, 3, none⟩ = some (.int .i64 a0_3) := (blk_cell BK664.out 3).trans rfl; have hfz71_0 := blk_frozen BK664.out 0; have hfz71_1 := blk_frozen BK664.out 1; have hfz71_2 := blk_frozen BK664.out 2; have hfz71_3 := blk_frozen BK664.out 3) | ((with_reducible refine gate_builtin (b := .append) (xs := #[.tmp 62, .tmp 64]) rfl ?_); at_builtin; refine Kd.R_append_rows k55 (w0 := w) w.heap.size rfl (.tmp 62) (.tmp 64) 23 55 (.agg #[(.int .i64 0)]) 8 rfl Try.underlying23 info55 rfl (by decide) (by omega) v688 y687 l0_1 _ _ _ (fun _ => True) (fun _ => False) rfl rfl ?aO ?aR (fun _ _ h => h) (fun _ h => h.elim) ?aF ?aB ?aS ?aL ?_; (case aR => exact Kd.C_below HR0_1.out (hO HB)); (case aB => exact (hO HB)); (case aF => exact (fun _ _ => trivial)); (case aO => exact (rO HO689)); (case aS => exact (below_size (hO HB))); (case aL => have := LMc19.out; omega); intro v691 w72 ho hb hg hat; rw [← Ny690.out] at ho; have n0_ := Aside0.mk (blk_grown (g := gb664) (o := .cells #[.slice A0_0 l0_0.length c0_0, .slice A0_1 l0_1.length c0_1, .slice A0_2 l0_2.length c0_2, .int .i64 a0_3] 26 (0, 0)) (bO BK664) hg (Kd.R_ne HO689.out BK664.out (by decide))); have n1_ := Aside0.mk (Kd.R_over' (rO HO670) (Kd.R_typed (rO HO689)) (by decide) hg); have n2_ := Aside0.mk (blk_grown (g := gb676) (o := .cells #[.slice A0_0 y679.length c0_0, .slice A0_1 l0_1.length c0_1, .slice A0_2 l0_2.length c0_2, .int .i64 a0_3] 26 (0, 0)) (bO BK676) hg (Kd.R_ne HO689.out BK676.out (by decide))); have n3_ := Aside0.mk (blk_grown (g := gb677) (o := .cells #[.slice A0_0 l0_0.length c0_0, .slice A0_1 l0_1.length c0_1, .slice A0_2 y683.length c0_2, .int .i64 a0_3] 26 (0, 0)) (bO BK677) hg (Kd.R_ne HO689.out BK677.out (by decide))); have n4_ := Aside0.mk (blk_grown (g := gb678) (o := .cells #[.slice A0_0 l0_0.length c0_0, .slice A0_1 l0_1.length c0_1, .slice A0_2 l0_2.length c0_2, .int .i64 a0_3] 26 (0, 0)) (bO BK678) hg (Kd.R_ne HO689.out BK678.out (by decide))); have n5_ := Aside0.mk (hb); have n6_ := Aside0.mk (ho); clear BK664; clear HO670; clear BK676; clear BK677; clear BK678; clear HB; clear HO689; have BK664 := n0_; have HO670 := n1_; have BK676 := n2_; have BK677 := n3_; have BK678 := n4_; have HB := n5_; have HO692 := n6_; clear n0_ n1_ n2_ n3_ n4_ n5_ n6_; clear ho hb hg hat) | ((with_reducible refine gate_builtin (b := .append) (xs := #[.tmp 65, .tmp 67]) rfl ?_); at_builtin; refine Kd.R_append k55 (w0 := w) w.heap.size rfl (.tmp 65) (.tmp 67) 23 55 (.agg #[(.int .i64 0)]) 8 rfl Try.underlying23 info55 rfl (by decide) (by omega) v691 y690 (⟨1⟩ : S55) [.int .i64 1] (fun _ => True) (fun _ => False) rfl rfl ?aP (fun _ hk => hk.elim) ?aF ?aO ?aB ?aS ?aL ?_; (case aP => exact k55_mkM _ _ _ (⟨1⟩ : S55)); (case aB => exact (hO HB)); (case aF => exact (fun _ _ => trivial)); (case aO => exact (rO HO692)); (case aS => exact (below_size (hO HB))); (case aL => have := LMc20.out; omega); intro v694 w73 ho hb hg hat; rw [← Ny693.out] at ho; have n0_ := Aside0.mk (blk_grown (g := gb664) (o := .cells #[.slice A0_0 l0_0.length c0_0, .slice A0_1 l0_1.length c0_1, .slice A0_2 l0_2.length c0_2, .int .i64 a0_3] 26 (0, 0)) (bO BK664) hg (Kd.R_ne HO692.out BK664.out (by decide))); have n1_ := Aside0.mk (Kd.R_over' (rO HO670) (Kd.R_typed (rO HO692)) (by decide) hg); have n2_ := Aside0.mk (blk_grown (g := gb676) (o := .cells #[.slice A0_0 y679.length c0_0, .slice A0_1 l0_1.length c0_1, .slice A0_2 l0_2.length c0_2, .int .i64 a0_3] 26 (0, 0)) (bO BK676) hg (Kd.R_ne HO692.out BK676.out (by decide))); have n3_ := Aside0.mk (blk_grown (g := gb677) (o := .cells #[.slice A0_0 l0_0.length c0_0, .slice A0_1 l0_1.length c0_1, .slice A0_2 y683.length c0_2, .int .i64 a0_3] 26 (0, 0)) (bO BK677) hg (Kd.R_ne HO692.out BK677.out (by decide))); have n4_ := Aside0.mk (blk_grown (g := gb678) (o := .cells #[.slice A0_0 l0_0.length c0_0, .slice A0_1 l0_1.length c0_1, .slice A0_2 l0_2.length c0_2, .int .i64 a0_3] 26 (0, 0)) (bO BK678) hg (Kd.R_ne HO692.out BK678.out (by decide))); have n5_ := Aside0.mk (hb); have n6_ := Aside0.mk (ho); clear BK664; clear HO670; clear BK676; clear BK677; clear BK678; clear HB; clear HO692; have BK664 := n0_; have HO670 := n1_; have BK676 := n2_; have BK677 := n3_; have BK678 := n4_; have HB := n5_; have HO695 := n6_; clear n0_ n1_ n2_ n3_ n4_ n5_ n6_; clear ho hb hg hat; obtain ⟨Ao74, co74, eo74⟩ := Kd.R_slice HO695.out; subst eo74; have hcz75_0 : w73.cell? ⟨gb678, 0, none⟩ = some (.slice A0_0 l0_0.length c0_0) := (blk_cell BK678.out 0).trans rfl; have hcz75_1 : w73.cell? ⟨gb678, 1, none⟩ = some (.slice A0_1 l0_1.length c0_1) := (blk_cell BK678.out 1).trans rfl; have hcz75_2 : w73.cell? ⟨gb678, 2, none⟩ = some (.slice A0_2 l0_2.length c0_2) := (blk_cell BK678.out 2).trans rfl; have hcz75_3 : w73.cell? ⟨gb678, 3, none⟩ = some (.int .i64 a0_3) := (blk_cell BK678.out 3).trans rfl; have hfz75_0 := blk_frozen BK678.out 0; have hfz75_1 := blk_frozen BK678.out 1; have hfz75_2 := blk_frozen BK678.out 2; have hfz75_3 := blk_frozen BK678.out 3; have hcz76_0 : w73.cell? ⟨gb676, 0, none⟩ = some (.slice A0_0 y679.length c0_0) := (blk_cell BK676.out 0).trans rfl; have hcz76_1 : w73.cell? ⟨gb676, 1, none⟩ = some (.slice A0_1 l0_1.length c0_1) := (blk_cell BK676.out 1).trans rfl; have hcz76_2 : w73.cell? ⟨gb676, 2, none⟩ = some (.slice A0_2 l0_2.length c0_2) := (blk_cell BK676.out 2).trans rfl; have hcz76_3 : w73.cell? ⟨gb676, 3, none⟩ = some (.int .i64 a0_3) := (blk_cell BK676.out 3).trans rfl; have hfz76_0 := blk_frozen BK676.out 0; have hfz76_1 := blk_frozen BK676.out 1; have hfz76_2 := blk_frozen BK676.out 2; have hfz76_3 := blk_frozen BK676.out 3) | ((with_reducible refine gate_callee (f := 25) rfl ?_); refine goesL_ (some 72) rfl rfl Try.func25 (by kernel_rfl) rfl #[.agg #[.slice A0_0 y679.length c0_0, .slice A0_1 l0_1.length c0_1, .slice A0_2 l0_2.length c0_2, .int .i64 a0_3], .int .i64 t674] rfl (by (try simp only [List.map_toArray, List.map_cons, List.map_nil]); first | done | rfl | (simp only [List.length_drop, List.length_take]; rfl)) ?_; (with_reducible refine (dancestudiolaw50_sooner.calls k _ _ y679 _ _ l0_1 _ _ l0_2 a0_3 t674 true _ ?side1 ?side2 ?side3 ?side4 ?side5 ?side6 ?sidem_ A21.out).mono ?_); (case sidem_ => exact Mx.below HMX_.out (hO HB)); (case side1 => exact Kd.C_below HR682.out (hO HB)); (case side2 => exact HC682.out); (case side3 => exact Kd.C_below HR0_1.out (hO HB)); (case side4 => exact HC0_1.out); (case side5 => exact Kd.C_below HR0_2.out (hO HB)); (case side6 => exact HC0_2.out); rintro e w77 ⟨rfl, hb⟩; refine ⟨_, rfl, ?_⟩; have n0_ := Aside0.mk (Kd.R_below (by (with_reducible repeat (first | apply Kd.R_alloc | apply Kd.R_drewN | apply Kd.R_drew)); exact (Kd.R_mono (Kd.R_far (p := ⟨gb678, 1, none⟩) (Kd.R_types HO670.out BK678.out (by decide)) (fun _ hk => hk.2) (.slice Ao74 y693.length co74)) (fun _ h_ => h_.1))) hb); have n1_ := Aside0.mk (Kd.R_below (by (with_reducible repeat (first | apply Kd.R_alloc | apply Kd.R_drewN | apply Kd.R_drew)); exact (Kd.R_mono (Kd.R_far (p := ⟨gb678, 1, none⟩) (Kd.R_types HO695.out BK678.out (by decide)) (fun _ hk => hk.2) (.slice Ao74 y693.length co74)) (fun _ h_ => h_.1))) hb); have n2_ := Aside0.mk (blk_below (g := gb664) (o := .cells #[.slice A0_0 l0_0.length c0_0, .slice A0_1 l0_1.length c0_1, .slice A0_2 l0_2.length c0_2, .int .i64 a0_3] 26 (0, 0)) (blk_far (bO BK664) NB664_678.out _) hb); have n3_ := Aside0.mk (blk_below (g := gb676) (o := .cells #[.slice A0_0 y679.length c0_0, .slice A0_1 l0_1.length c0_1, .slice A0_2 l0_2.length c0_2, .int .i64 a0_3] 26 (0, 0)) (blk_far (bO BK676) NB676_678.out _) hb); have n4_ := Aside0.mk (blk_below (g := gb677) (o := .cells #[.slice A0_0 l0_0.length c0_0, .slice A0_1 l0_1.length c0_1, .slice A0_2 y683.length c0_2, .int .i64 a0_3] 26 (0, 0)) (blk_far (bO BK677) NB677_678.out _) hb); have n5_ := Aside0.mk (blk_below (g := gb678) (o := .cells #[.slice A0_0 l0_0.length c0_0, .slice Ao74 y693.length co74, .slice A0_2 l0_2.length c0_2, .int .i64 a0_3] 26 (0, 0)) (by (with_reducible repeat (first | refine blk_drewN ?_ _ | refine blk_drew ?_ | refine blk_alloc ?_ _)); refine blk_put (cs := #[.slice A0_0 l0_0.length c0_0, .slice A0_1 l0_1.length c0_1, .slice A0_2 l0_2.length c0_2, .int .i64 a0_3]) ?_ 1 _ rfl; (with_reducible repeat (first | refine blk_drewN ?_ _ | refine blk_drew ?_ | refine blk_alloc ?_ _)); exact BK678.out) hb); have n6_ := Aside0.mk (below_step (hO HB) hb); clear HO670; clear HO695; clear BK664; clear BK676; clear BK677; clear BK678; clear HB; have HO670 := n0_; have HO695 := n1_; have BK664 := n2_; have BK676 := n3_; have BK677 := n4_; have BK678 := n5_; have HB := n6_; clear n0_ n1_ n2_ n3_ n4_ n5_ n6_; (try clear hb); (try clear hb2); (try clear hk); (try clear hi); have hcz78_0 : w77.cell? ⟨gb677, 0, none⟩ = some (.slice A0_0 l0_0.length c0_0) := (blk_cell BK677.out 0).trans rfl; have hcz78_1 : w77.cell? ⟨gb677, 1, none⟩ = some (.slice A0_1 l0_1.length c0_1) := (blk_cell BK677.out 1).trans rfl; have hcz78_2 : w77.cell? ⟨gb677, 2, none⟩ = some (.slice A0_2 y683.length c0_2) := (blk_cell BK677.out 2).trans rfl; have hcz78_3 : w77.cell? ⟨gb677, 3, none⟩ = some (.int .i64 a0_3) := (blk_cell BK677.out 3).trans rfl; have hfz78_0 := blk_frozen BK677.out 0; have hfz78_1 := blk_frozen BK677.out 1; have hfz78_2 := blk_frozen BK677.out 2; have hfz78_3 := blk_frozen BK677.out 3) | (go_at_call 25; (with_reducible refine (dancestudiolaw50_sooner.calls k _ _ l0_0 _ _ l0_1 _ _ y683 a0_3 t674 true _ ?side1 ?side2 ?side3 ?side4 ?side5 ?side6 ?sidem_ A23.out).mono ?_); (case sidem_ => exact Mx.below HMX_.out (hO HB)); (case side1 => exact Kd.C_below HR0_0.out (hO HB)); (case side2 => exact HC0_0.out); (case side3 => exact Kd.C_below HR0_1.out (hO HB)); (case side4 => exact HC0_1.out); (case side5 => repeat (first | exact (Kd.C_below HR686.out HB.out) | (with_reducible refine Kd.C_alloc ?_ _) | (with_reducible refine Kd.C_drewN ?_ _) | (with_reducible refine Kd.C_drew ?_))); (case side6 => exact HC686.out); rintro e w79 ⟨rfl, hb⟩; have n0_ := Aside0.mk (Kd.R_below (rO HO670) hb); have n1_ := Aside0.mk (Kd.R_below (rO HO695) hb); have n2_ := bbO BK664 hb; have n3_ := bbO BK676 hb; have n4_ := bbO BK677 hb; have n5_ := bbO BK678 hb; have n6_ := Aside0.mk (below_step (hO HB) hb); clear HO670; clear HO695; clear BK664; clear BK676; clear BK677; clear BK678; clear HB; have HO670 := n0_; have HO695 := n1_; have BK664 := n2_; have BK676 := n3_; have BK677 := n4_; have BK678 := n5_; have HB := n6_; clear n0_ n1_ n2_ n3_ n4_ n5_ n6_; (try clear hb); (try clear hb2); (try clear hk); (try clear hi); have hcz80_0 : w79.cell? ⟨gb678, 0, none⟩ = some (.slice A0_0 l0_0.length c0_0) := (blk_cell BK678.out 0).trans rfl; have hcz80_1 : w79.cell? ⟨gb678, 1, none⟩ = some (.slice Ao74 y693.length co74) := (blk_cell BK678.out 1).trans rfl; have hcz80_2 : w79.cell? ⟨gb678, 2, none⟩ = some (.slice A0_2 l0_2.length c0_2) := (blk_cell BK678.out 2).trans rfl; have hcz80_3 : w79.cell? ⟨gb678, 3, none⟩ = some (.int .i64 a0_3) := (blk_cell BK678.out 3).trans rfl; have hfz80_0 := blk_frozen BK678.out 0; have hfz80_1 := blk_frozen BK678.out 1; have hfz80_2 := blk_frozen BK678.out 2; have hfz80_3 := blk_frozen BK678.out 3) | (go_at_call 25; (with_reducible refine (dancestudiolaw50_sooner.calls k _ _ l0_0 _ _ y693 _ _ l0_2 a0_3 t674 true _ ?side1 ?side2 ?side3 ?side4 ?side5 ?side6 ?sidem_ A25.out).mono ?_); (case sidem_ => exact Mx.below HMX_.out (hO HB)); (case side1 => exact Kd.C_below HR0_0.out (hO HB)); (case side2 => exact HC0_0.out); (case side3 => repeat (first | exact (Kd.R_reads' HO695.out).2.2 | (with_reducible refine Kd.C_alloc ?_ _) | (with_reducible refine Kd.C_drewN ?_ _) | (with_reducible refine Kd.C_drew ?_))); (case side4 => exact (Kd.R_reads' HO695.out).2.1); (case side5 => exact Kd.C_below HR0_2.out (hO HB)); (case side6 => exact HC0_2.out); rintro e w81 ⟨rfl, hb⟩; have n0_ := Aside0.mk (Kd.R_below (rO HO670) hb); have n1_ := Aside0.mk (Kd.R_below (rO HO695) hb); have n2_ := bbO BK664 hb; have n3_ := bbO BK676 hb; have n4_ := bbO BK677 hb; have n5_ := bbO BK678 hb; have n6_ := Aside0.mk (below_step (hO HB) hb); clear HO670; clear HO695; clear BK664; clear BK676; clear BK677; clear BK678; clear HB; have HO670 := n0_; have HO695 := n1_; have BK664 := n2_; have BK676 := n3_; have BK677 := n4_; have BK678 := n5_; have HB := n6_; clear n0_ n1_ n2_ n3_ n4_ n5_ n6_; (try clear hb); (try clear hb2); (try clear hk); (try clear hi)) | (go_at_call 15; (with_reducible refine (dancestudiolaw50_awake.calls k  t699 _ ?sidem_ A27.out).mono ?_); (case sidem_ => exact Mx.below HMX_.out (hO HB)); rintro e w82 ⟨rfl, hb⟩; have n0_ := Aside0.mk (Kd.R_below (rO HO670) hb); have n1_ := Aside0.mk (Kd.R_below (rO HO695) hb); have n2_ := bbO BK664 hb; have n3_ := bbO BK676 hb; have n4_ := bbO BK677 hb; have n5_ := bbO BK678 hb; have n6_ := Aside0.mk (below_step (hO HB) hb); clear HO670; clear HO695; clear BK664; clear BK676; clear BK677; clear BK678; clear HB; have HO670 := n0_; have HO695 := n1_; have BK664 := n2_; have BK676 := n3_; have BK677 := n4_; have BK678 := n5_; have HB := n6_; clear n0_ n1_ n2_ n3_ n4_ n5_ n6_; (try clear hb); (try clear hb2); (try clear hk); (try clear hi)))
                go_ret
                exact ⟨by first | rfl | (simp [errW_none, errW_some] <;> rfl) | (simp only [← hji11, ← hji15]; first | rfl | (simp [errW_none, errW_some] <;> rfl)) | (simp [*, errW_none, errW_some] <;> rfl), by repeat (first | (with_reducible first | exact HB.out | apply below_alloc | apply pw_below_drewN | apply below_drew1 | refine below_set ?_ GE664.out | refine below_set ?_ GE676.out | refine below_set ?_ GE677.out | refine below_set ?_ GE678.out) | exact HB.out)⟩
               ·
                replace c26 := Bool.eq_false_iff.mpr c26
                subst c26
                exact absurd H (by simp)
              ·
               replace c24 := Bool.eq_false_iff.mpr c24
               subst c24
               exact absurd H (by simp)
             ·
              replace c22 := Bool.eq_false_iff.mpr c22
              subst c22
              exact absurd H (by simp)
            ·
             rw [if_neg c20] at H
             exact absurd H (by simp)
           ·
            rw [if_neg c19] at H
            exact absurd H (by simp)
          ·
           rw [if_neg c18] at H
           have c18b0 : decide ((l0_1.length : Int) < 4) = false := decide_eq_false c18
           have c18b1 : decide (l0_1.length < 4) = false := decide_eq_false (by omega)
           clear c18
           replace H := Option.bind_eq_some_iff.mp H
           obtain ⟨t700, A830, H⟩ := H
           try dsimp only at H
           have A83 := Aside0.mk A830
           clear A830
           by_cases c84 : t700 = true
           ·
            subst c84
            rw [if_pos rfl] at H
            have H1 := H
            clear H
            have H := H1
            clear H1
            replace H := Option.bind_eq_some_iff.mp H
            obtain ⟨t701, A850, H⟩ := H
            replace H : (if t701 = true then ((dancestudiolaw50_sooner.f k l0_0 l0_1 l0_2 a0_3 t674).bind fun t702 => (if t702 = true then ((dancestudiolaw50_awake.f k).bind fun t703 => (some t703)) else (none))) else (none)) = some r := H
            have A85 := Aside0.mk A850
            clear A850
            by_cases c86 : t701 = true
            ·
             subst c86
             have H1 : ((dancestudiolaw50_sooner.f k l0_0 l0_1 l0_2 a0_3 t674).bind fun t702 => (if t702 = true then ((dancestudiolaw50_awake.f k).bind fun t703 => (some t703)) else (none))) = some r := by rw [if_pos rfl] at H; exact H
             clear H
             have H := H1
             clear H1
             replace H := Option.bind_eq_some_iff.mp H
             obtain ⟨t702, A870, H⟩ := H
             replace H : (if t702 = true then ((dancestudiolaw50_awake.f k).bind fun t703 => (some t703)) else (none)) = some r := H
             have A87 := Aside0.mk A870
             clear A870
             by_cases c88 : t702 = true
             ·
              subst c88
              have H1 : ((dancestudiolaw50_awake.f k).bind fun t703 => (some t703)) = some r := by rw [if_pos rfl] at H; exact H
              clear H
              have H := H1
              clear H1
              replace H := Option.bind_eq_some_iff.mp H
              obtain ⟨t703, A890, H⟩ := H
              replace H : (some t703) = some r := H
              have A89 := Aside0.mk A890
              clear A890
              obtain rfl := Option.some.inj H
              generalize w944 = w117 at HO670 BK664 BK676 BK677 BK678 HB ⊢
              have hnb118 := NB664_676.out
              have hnc118 := NB676_664.out
              have hnb119 := NB664_677.out
              have hnc119 := NB677_664.out
              have hnb120 := NB664_678.out
              have hnc120 := NB678_664.out
              have hcz121_0 : w117.cell? ⟨gb664, 0, none⟩ = some (.slice A0_0 l0_0.length c0_0) := (blk_cell BK664.out 0).trans rfl
              have hcz121_1 : w117.cell? ⟨gb664, 1, none⟩ = some (.slice A0_1 l0_1.length c0_1) := (blk_cell BK664.out 1).trans rfl
              have hcz121_2 : w117.cell? ⟨gb664, 2, none⟩ = some (.slice A0_2 l0_2.length c0_2) := (blk_cell BK664.out 2).trans rfl
              have hcz121_3 : w117.cell? ⟨gb664, 3, none⟩ = some (.int .i64 a0_3) := (blk_cell BK664.out 3).trans rfl
              have hfz121_0 := blk_frozen BK664.out 0
              have hfz121_1 := blk_frozen BK664.out 1
              have hfz121_2 := blk_frozen BK664.out 2
              have hfz121_3 := blk_frozen BK664.out 3
              have q122 : ((ji11) : Int) ≤ ((l0_0.length : Int) : Int) := of_decide_eq_true (by assumption)
              obtain ⟨i0122, hi0122, _, hsz122, _⟩ := info_parts info53
              have hroom122 : l0_0.length ≤ c0_0 := HC0_0.out
              have hC122 : Kd.C k53 _ A0_0 l0_0.length l0_0 := HR0_0.out
              have hcut122 := cut_to (P := Try.prog) 22 53 .i64 Try.underlying22 hi0122 A0_0 l0_0.length c0_0 (ji11) (of_decide_eq_true (by assumption)) q122 hroom122
              have hr122 := Kd.C_take (m := ((ji11) : Int).toNat) hC122 (by omega)
              have hy122 : y679.length = ((ji11) : Int).toNat := (by rw [Ny679.out, List.length_take]; omega)
              rw [← Ny679.out] at hr122
              rw [← hy122] at hcut122
              have HR682 := Aside0.mk hr122
              have HC682 := Aside0.mk (show y679.length ≤ c0_0 from by omega)
              clear hr122 hC122 hroom122 hi0122 hsz122
              have KY122 := Aside0.mk hy122
              clear hy122
              replace q122 := eq_true q122
              have hnb123 := NB676_677.out
              have hnc123 := NB677_676.out
              have hnb124 := NB676_678.out
              have hnc124 := NB678_676.out
              have hcz125_0 : w117.cell? ⟨gb676, 0, none⟩ = some (.slice A0_0 l0_0.length c0_0) := (blk_cell BK676.out 0).trans rfl
              have hcz125_1 : w117.cell? ⟨gb676, 1, none⟩ = some (.slice A0_1 l0_1.length c0_1) := (blk_cell BK676.out 1).trans rfl
              have hcz125_2 : w117.cell? ⟨gb676, 2, none⟩ = some (.slice A0_2 l0_2.length c0_2) := (blk_cell BK676.out 2).trans rfl
              have hcz125_3 : w117.cell? ⟨gb676, 3, none⟩ = some (.int .i64 a0_3) := (blk_cell BK676.out 3).trans rfl
              have hfz125_0 := blk_frozen BK676.out 0
              have hfz125_1 := blk_frozen BK676.out 1
              have hfz125_2 := blk_frozen BK676.out 2
              have hfz125_3 := blk_frozen BK676.out 3
              try go_wp2_with (first | ((with_reducible refine gate_store (t := 22) (p := 45) rfl ?_); refine store_event (t := 22) (p := 45) (v := ?vo_w126) (w1 := (w117.setCell ⟨gb676, 0, none⟩ (.slice A0_0 y679.length c0_0))) ?hg ?ho ?hn ?hr ?_; (case ho => rfl); (case hg => rfl); (case hn => rfl); (case hr => first | (go_simp; done) | (go_simp; rfl)); intro w126 hw; have n0_ : Aside0 (Kd.R k48 48 w126 w.heap.size (fun _ => True) (.slice Ao36 t668.length co36) t668) := ⟨(by rw [hw]; exact (by (with_reducible repeat (first | apply Kd.R_alloc | apply Kd.R_drewN | apply Kd.R_drew)); exact Kd.R_mono (Kd.R_far (p := ⟨gb676, 0, none⟩) (Kd.R_types HO670.out BK676.out (by decide)) (fun _ hk => hk.2) (.slice A0_0 y679.length c0_0)) (fun _ hk => trivial)))⟩; have n1_ : Aside0 (w126.heap[gb664]? = some (.cells #[.slice A0_0 l0_0.length c0_0, .slice A0_1 l0_1.length c0_1, .slice A0_2 l0_2.length c0_2, .int .i64 a0_3] 26 (0, 0))) := ⟨(by rw [hw]; exact (blk_far (bO BK664) NB664_676.out _))⟩; have n2_ : Aside0 (w126.heap[gb676]? = some (.cells #[.slice A0_0 y679.length c0_0, .slice A0_1 l0_1.length c0_1, .slice A0_2 l0_2.length c0_2, .int .i64 a0_3] 26 (0, 0))) := ⟨(by rw [hw]; exact (by (with_reducible repeat (first | refine blk_drewN ?_ _ | refine blk_drew ?_ | refine blk_alloc ?_ _)); refine blk_put (cs := #[.slice A0_0 l0_0.length c0_0, .slice A0_1 l0_1.length c0_1, .slice A0_2 l0_2.length c0_2, .int .i64 a0_3]) ?_ 0 _ rfl; (with_reducible repeat (first | refine blk_drewN ?_ _ | refine blk_drew ?_ | refine blk_alloc ?_ _)); exact BK676.out))⟩; have n3_ : Aside0 (w126.heap[gb677]? = some (.cells #[.slice A0_0 l0_0.length c0_0, .slice A0_1 l0_1.length c0_1, .slice A0_2 l0_2.length c0_2, .int .i64 a0_3] 26 (0, 0))) := ⟨(by rw [hw]; exact (blk_far (bO BK677) NB677_676.out _))⟩; have n4_ : Aside0 (w126.heap[gb678]? = some (.cells #[.slice A0_0 l0_0.length c0_0, .slice A0_1 l0_1.length c0_1, .slice A0_2 l0_2.length c0_2, .int .i64 a0_3] 26 (0, 0))) := ⟨(by rw [hw]; exact (blk_far (bO BK678) NB678_676.out _))⟩; have n5_ : Aside0 (Below w.heap.size w w126) := ⟨(by rw [hw]; exact (hO HB))⟩; clear hw; clear HO670; clear BK664; clear BK676; clear BK677; clear BK678; clear HB; have HO670 := n0_; have BK664 := n1_; have BK676 := n2_; have BK677 := n3_; have BK678 := n4_; have HB := n5_; clear n0_ n1_ n2_ n3_ n4_ n5_; have hcz127_0 : w126.cell? ⟨gb664, 0, none⟩ = some (.slice A0_0 l0_0.length c0_0) := (blk_cell BK664.out 0).trans rfl; have hcz127_1 : w126.cell? ⟨gb664, 1, none⟩ = some (.slice A0_1 l0_1.length c0_1) := (blk_cell BK664.out 1).trans rfl; have hcz127_2 : w126.cell? ⟨gb664, 2, none⟩ = some (.slice A0_2 l0_2.length c0_2) := (blk_cell BK664.out 2).trans rfl; have hcz127_3 : w126.cell? ⟨gb664, 3, none⟩ = some (.int .i64 a0_3) := (blk_cell BK664.out 3).trans rfl; have hfz127_0 := blk_frozen BK664.out 0; have hfz127_1 := blk_frozen BK664.out 1; have hfz127_2 := blk_frozen BK664.out 2; have hfz127_3 := blk_frozen BK664.out 3; have q128 : ((ji15) : Int) ≤ ((l0_2.length : Int) : Int) := of_decide_eq_true (by assumption); obtain ⟨i0128, hi0128, _, hsz128, _⟩ := info_parts info59; have hroom128 : l0_2.length ≤ c0_2 := HC0_2.out; have hC128 : Kd.C k59 _ A0_2 l0_2.length l0_2 := HR0_2.out; have hcut128 := cut_to (P := Try.prog) 24 59 .i64 Try.underlying24 hi0128 A0_2 l0_2.length c0_2 (ji15) (of_decide_eq_true (by assumption)) q128 hroom128; have hr128 := Kd.C_take (m := ((ji15) : Int).toNat) hC128 (by omega); have hy128 : y683.length = ((ji15) : Int).toNat := (by rw [Ny683.out, List.length_take]; omega); rw [← Ny683.out] at hr128; rw [← hy128] at hcut128; have HR686 := Aside0.mk hr128; have HC686 := Aside0.mk (show y683.length ≤ c0_2 from by omega); clear hr128 hC128 hroom128 hi0128 hsz128; have KY128 := Aside0.mk hy128; clear hy128; replace q128 := eq_true q128; have hnb129 := NB677_678.out; have hnc129 := NB678_677.out; have hcz130_0 : w126.cell? ⟨gb677, 0, none⟩ = some (.slice A0_0 l0_0.length c0_0) := (blk_cell BK677.out 0).trans rfl; have hcz130_1 : w126.cell? ⟨gb677, 1, none⟩ = some (.slice A0_1 l0_1.length c0_1) := (blk_cell BK677.out 1).trans rfl; have hcz130_2 : w126.cell? ⟨gb677, 2, none⟩ = some (.slice A0_2 l0_2.length c0_2) := (blk_cell BK677.out 2).trans rfl; have hcz130_3 : w126.cell? ⟨gb677, 3, none⟩ = some (.int .i64 a0_3) := (blk_cell BK677.out 3).trans rfl; have hfz130_0 := blk_frozen BK677.out 0; have hfz130_1 := blk_frozen BK677.out 1; have hfz130_2 := blk_frozen BK677.out 2; have hfz130_3 := blk_frozen BK677.out 3; have hcz131_0 : w126.cell? ⟨gb676, 0, none⟩ = some (.slice A0_0 y679.length c0_0) := (blk_cell BK676.out 0).trans rfl; have hcz131_1 : w126.cell? ⟨gb676, 1, none⟩ = some (.slice A0_1 l0_1.length c0_1) := (blk_cell BK676.out 1).trans rfl; have hcz131_2 : w126.cell? ⟨gb676, 2, none⟩ = some (.slice A0_2 l0_2.length c0_2) := (blk_cell BK676.out 2).trans rfl; have hcz131_3 : w126.cell? ⟨gb676, 3, none⟩ = some (.int .i64 a0_3) := (blk_cell BK676.out 3).trans rfl; have hfz131_0 := blk_frozen BK676.out 0; have hfz131_1 := blk_frozen BK676.out 1; have hfz131_2 := blk_frozen BK676.out 2; have hfz131_3 := blk_frozen BK676.out 3) | ((with_reducible refine gate_callee (f := 25) rfl ?_); refine goesL_ (some 72) rfl rfl Try.func25 (by kernel_rfl) rfl #[.agg #[.slice A0_0 y679.length c0_0, .slice A0_1 l0_1.length c0_1, .slice A0_2 l0_2.length c0_2, .int .i64 a0_3], .int .i64 t674] rfl (by (try simp only [List.map_toArray, List.map_cons, List.map_nil]); first | done | rfl | (simp only [List.length_drop, List.length_take]; rfl)) ?_; (with_reducible refine (dancestudiolaw50_sooner.calls k _ _ y679 _ _ l0_1 _ _ l0_2 a0_3 t674 true _ ?side1 ?side2 ?side3 ?side4 ?side5 ?side6 ?sidem_ A83.out).mono ?_); (case sidem_ => exact Mx.below HMX_.out (hO HB)); (case side1 => exact Kd.C_below HR682.out (hO HB)); (case side2 => exact HC682.out); (case side3 => exact Kd.C_below HR0_1.out (hO HB)); (case side4 => exact HC0_1.out); (case side5 => exact Kd.C_below HR0_2.out (hO HB)); (case side6 => exact HC0_2.out); rintro e w132 ⟨rfl, hb⟩; refine ⟨_, rfl, ?_⟩; have n0_ := Aside0.mk (Kd.R_below (by (with_reducible repeat (first | apply Kd.R_alloc | apply Kd.R_drewN | apply Kd.R_drew)); exact (Kd.R_mono (Kd.R_far (p := ⟨gb677, 2, none⟩) (Kd.R_types HO670.out BK677.out (by decide)) (fun _ hk => hk.2) (.slice A0_2 y683.length c0_2)) (fun _ h_ => h_.1))) hb); have n1_ := Aside0.mk (blk_below (g := gb664) (o := .cells #[.slice A0_0 l0_0.length c0_0, .slice A0_1 l0_1.length c0_1, .slice A0_2 l0_2.length c0_2, .int .i64 a0_3] 26 (0, 0)) (blk_far (bO BK664) NB664_677.out _) hb); have n2_ := Aside0.mk (blk_below (g := gb676) (o := .cells #[.slice A0_0 y679.length c0_0, .slice A0_1 l0_1.length c0_1, .slice A0_2 l0_2.length c0_2, .int .i64 a0_3] 26 (0, 0)) (blk_far (bO BK676) NB676_677.out _) hb); have n3_ := Aside0.mk (blk_below (g := gb677) (o := .cells #[.slice A0_0 l0_0.length c0_0, .slice A0_1 l0_1.length c0_1, .slice A0_2 y683.length c0_2, .int .i64 a0_3] 26 (0, 0)) (by (with_reducible repeat (first | refine blk_drewN ?_ _ | refine blk_drew ?_ | refine blk_alloc ?_ _)); refine blk_put (cs := #[.slice A0_0 l0_0.length c0_0, .slice A0_1 l0_1.length c0_1, .slice A0_2 l0_2.length c0_2, .int .i64 a0_3]) ?_ 2 _ rfl; (with_reducible repeat (first | refine blk_drewN ?_ _ | refine blk_drew ?_ | refine blk_alloc ?_ _)); exact BK677.out) hb); have n4_ := Aside0.mk (blk_below (g := gb678) (o := .cells #[.slice A0_0 l0_0.length c0_0, .slice A0_1 l0_1.length c0_1, .slice A0_2 l0_2.length c0_2, .int .i64 a0_3] 26 (0, 0)) (blk_far (bO BK678) NB678_677.out _) hb); have n5_ := Aside0.mk (below_step (hO HB) hb); clear HO670; clear BK664; clear BK676; clear BK677; clear BK678; clear HB; have HO670 := n0_; have BK664 := n1_; have BK676 := n2_; have BK677 := n3_; have BK678 := n4_; have HB := n5_; clear n0_ n1_ n2_ n3_ n4_ n5_; (try clear hb); (try clear hb2); (try clear hk); (try clear hi); have hcz133_0 : w132.cell? ⟨gb677, 0, none⟩ = some (.slice A0_0 l0_0.length c0_0) := (blk_cell BK677.out 0).trans rfl; have hcz133_1 : w132.cell? ⟨gb677, 1, none⟩ = some (.slice A0_1 l0_1.length c0_1) := (blk_cell BK677.out 1).trans rfl; have hcz133_2 : w132.cell? ⟨gb677, 2, none⟩ = some (.slice A0_2 y683.length c0_2) := (blk_cell BK677.out 2).trans rfl; have hcz133_3 : w132.cell? ⟨gb677, 3, none⟩ = some (.int .i64 a0_3) := (blk_cell BK677.out 3).trans rfl; have hfz133_0 := blk_frozen BK677.out 0; have hfz133_1 := blk_frozen BK677.out 1; have hfz133_2 := blk_frozen BK677.out 2; have hfz133_3 := blk_frozen BK677.out 3) | (go_at_call 25; (with_reducible refine (dancestudiolaw50_sooner.calls k _ _ l0_0 _ _ l0_1 _ _ y683 a0_3 t674 true _ ?side1 ?side2 ?side3 ?side4 ?side5 ?side6 ?sidem_ A85.out).mono ?_); (case sidem_ => exact Mx.below HMX_.out (hO HB)); (case side1 => exact Kd.C_below HR0_0.out (hO HB)); (case side2 => exact HC0_0.out); (case side3 => exact Kd.C_below HR0_1.out (hO HB)); (case side4 => exact HC0_1.out); (case side5 => repeat (first | exact (Kd.C_below HR686.out HB.out) | (with_reducible refine Kd.C_alloc ?_ _) | (with_reducible refine Kd.C_drewN ?_ _) | (with_reducible refine Kd.C_drew ?_))); (case side6 => exact HC686.out); rintro e w134 ⟨rfl, hb⟩; have n0_ := Aside0.mk (Kd.R_below (rO HO670) hb); have n1_ := bbO BK664 hb; have n2_ := bbO BK676 hb; have n3_ := bbO BK677 hb; have n4_ := bbO BK678 hb; have n5_ := Aside0.mk (below_step (hO HB) hb); clear HO670; clear BK664; clear BK676; clear BK677; clear BK678; clear HB; have HO670 := n0_; have BK664 := n1_; have BK676 := n2_; have BK677 := n3_; have BK678 := n4_; have HB := n5_; clear n0_ n1_ n2_ n3_ n4_ n5_; (try clear hb); (try clear hb2); (try clear hk); (try clear hi); have hcz135_0 : w134.cell? ⟨gb678, 0, none⟩ = some (.slice A0_0 l0_0.length c0_0) := (blk_cell BK678.out 0).trans rfl; have hcz135_1 : w134.cell? ⟨gb678, 1, none⟩ = some (.slice A0_1 l0_1.length c0_1) := (blk_cell BK678.out 1).trans rfl; have hcz135_2 : w134.cell? ⟨gb678, 2, none⟩ = some (.slice A0_2 l0_2.length c0_2) := (blk_cell BK678.out 2).trans rfl; have hcz135_3 : w134.cell? ⟨gb678, 3, none⟩ = some (.int .i64 a0_3) := (blk_cell BK678.out 3).trans rfl; have hfz135_0 := blk_frozen BK678.out 0; have hfz135_1 := blk_frozen BK678.out 1; have hfz135_2 := blk_frozen BK678.out 2; have hfz135_3 := blk_frozen BK678.out 3) | (go_at_call 25; (with_reducible refine (dancestudiolaw50_sooner.calls k _ _ l0_0 _ _ l0_1 _ _ l0_2 a0_3 t674 true _ ?side1 ?side2 ?side3 ?side4 ?side5 ?side6 ?sidem_ A87.out).mono ?_); (case sidem_ => exact Mx.below HMX_.out (hO HB)); (case side1 => exact Kd.C_below HR0_0.out (hO HB)); (case side2 => exact HC0_0.out); (case side3 => exact Kd.C_below HR0_1.out (hO HB)); (case side4 => exact HC0_1.out); (case side5 => exact Kd.C_below HR0_2.out (hO HB)); (case side6 => exact HC0_2.out); rintro e w136 ⟨rfl, hb⟩; have n0_ := Aside0.mk (Kd.R_below (rO HO670) hb); have n1_ := bbO BK664 hb; have n2_ := bbO BK676 hb; have n3_ := bbO BK677 hb; have n4_ := bbO BK678 hb; have n5_ := Aside0.mk (below_step (hO HB) hb); clear HO670; clear BK664; clear BK676; clear BK677; clear BK678; clear HB; have HO670 := n0_; have BK664 := n1_; have BK676 := n2_; have BK677 := n3_; have BK678 := n4_; have HB := n5_; clear n0_ n1_ n2_ n3_ n4_ n5_; (try clear hb); (try clear hb2); (try clear hk); (try clear hi)) | (go_at_call 15; (with_reducible refine (dancestudiolaw50_awake.calls k  t703 _ ?sidem_ A89.out).mono ?_); (case sidem_ => exact Mx.below HMX_.out (hO HB)); rintro e w137 ⟨rfl, hb⟩; have n0_ := Aside0.mk (Kd.R_below (rO HO670) hb); have n1_ := bbO BK664 hb; have n2_ := bbO BK676 hb; have n3_ := bbO BK677 hb; have n4_ := bbO BK678 hb; have n5_ := Aside0.mk (below_step (hO HB) hb); clear HO670; clear BK664; clear BK676; clear BK677; clear BK678; clear HB; have HO670 := n0_; have BK664 := n1_; have BK676 := n2_; have BK677 := n3_; have BK678 := n4_; have HB := n5_; clear n0_ n1_ n2_ n3_ n4_ n5_; (try clear hb); (try clear hb2); (try clear hk); (try clear hi)))
              go_ret
              exact ⟨by first | rfl | (simp [errW_none, errW_some] <;> rfl) | (simp only [← hji11, ← hji15]; first | rfl | (simp [errW_none, errW_some] <;> rfl)) | (simp [*, errW_none, errW_some] <;> rfl), by repeat (first | (with_reducible first | exact HB.out | apply below_alloc | apply pw_below_drewN | apply below_drew1 | refine below_set ?_ GE664.out | refine below_set ?_ GE676.out | refine below_set ?_ GE677.out | refine below_set ?_ GE678.out) | exact HB.out)⟩
             ·
              replace c88 := Bool.eq_false_iff.mpr c88
              subst c88
              exact absurd H (by simp)
            ·
             replace c86 := Bool.eq_false_iff.mpr c86
             subst c86
             exact absurd H (by simp)
           ·
            replace c84 := Bool.eq_false_iff.mpr c84
            subst c84
            exact absurd H (by simp)
         ·
          rw [if_neg c17] at H
          exact absurd H (by simp)
        ·
         rw [if_neg c16] at H
         exact absurd H (by simp)
       ·
        rw [if_neg c14] at H
        have c14b0 : decide (0 < (l0_2.length : Int)) = false := decide_eq_false c14
        have c14b1 : decide (0 < l0_2.length) = false := decide_eq_false (by omega)
        clear c14
        by_cases c138 : (l0_1.length : Int) < 4
        ·
         rw [if_pos c138] at H
         have c138b0 : decide ((l0_1.length : Int) < 4) = true := decide_eq_true c138
         have c138b1 : decide (l0_1.length < 4) = true := decide_eq_true (by omega)
         clear c138
         obtain ⟨y704, hy704⟩ : ∃ y_ : List (S55), y_ = (([] : List (S55))) := ⟨_, rfl⟩
         replace H : (if y704.length + l0_1.length < 17592186044416 then ((some (y704 ++ l0_1 : List (S55))).bind fun y707 => (if y707.length < 17592186044416 then ((dancestudiolaw50_sooner.f k y679 l0_1 l0_2 a0_3 t674).bind fun t713 => (if t713 = true then ((dancestudiolaw50_sooner.f k l0_0 l0_1 l0_2 a0_3 t674).bind fun t714 => (if t714 = true then ((dancestudiolaw50_sooner.f k l0_0 (y707 ++ [(⟨1⟩ : S55)]) l0_2 a0_3 t674).bind fun t715 => (if t715 = true then ((dancestudiolaw50_awake.f k).bind fun t716 => (some t716)) else (none))) else (none))) else (none))) else (none))) else (none)) = some r := by first | (rw [hy704]; with_reducible exact H) | (have H2_ := (Option.bind_some _ _).symm.trans H; rw [hy704]; with_reducible exact H2_) | (have H2_ := (Option.bind_some _ _).symm.trans H; with_reducible exact H2_) | with_reducible exact H | (rw [hy704]; exact H) | exact H
         have Ny704 := Aside0.mk hy704
         clear hy704
         by_cases c139 : y704.length + l0_1.length < 17592186044416
         ·
          rw [if_pos c139] at H
          have LMc139 := Aside0.mk c139
          clear c139
          obtain ⟨y707, hy707⟩ : ∃ y_ : List (S55), y_ = (y704 ++ l0_1) := ⟨_, rfl⟩
          replace H : (if y707.length < 17592186044416 then ((dancestudiolaw50_sooner.f k y679 l0_1 l0_2 a0_3 t674).bind fun t713 => (if t713 = true then ((dancestudiolaw50_sooner.f k l0_0 l0_1 l0_2 a0_3 t674).bind fun t714 => (if t714 = true then ((dancestudiolaw50_sooner.f k l0_0 (y707 ++ [(⟨1⟩ : S55)]) l0_2 a0_3 t674).bind fun t715 => (if t715 = true then ((dancestudiolaw50_awake.f k).bind fun t716 => (some t716)) else (none))) else (none))) else (none))) else (none)) = some r := by first | (rw [hy707]; with_reducible exact H) | (have H2_ := (Option.bind_some _ _).symm.trans H; rw [hy707]; with_reducible exact H2_) | (have H2_ := (Option.bind_some _ _).symm.trans H; with_reducible exact H2_) | with_reducible exact H | (rw [hy707]; exact H) | exact H
          have Ny707 := Aside0.mk hy707
          clear hy707
          by_cases c140 : y707.length < 17592186044416
          ·
           rw [if_pos c140] at H
           have LMc140 := Aside0.mk c140
           clear c140
           obtain ⟨y710, hy710⟩ : ∃ y_ : List (S55), y_ = (y707 ++ [(⟨1⟩ : S55)]) := ⟨_, rfl⟩
           replace H : ((dancestudiolaw50_sooner.f k y679 l0_1 l0_2 a0_3 t674).bind fun t713 => (if t713 = true then ((dancestudiolaw50_sooner.f k l0_0 l0_1 l0_2 a0_3 t674).bind fun t714 => (if t714 = true then ((dancestudiolaw50_sooner.f k l0_0 y710 l0_2 a0_3 t674).bind fun t715 => (if t715 = true then ((dancestudiolaw50_awake.f k).bind fun t716 => (some t716)) else (none))) else (none))) else (none))) = some r := by first | (rw [hy710]; with_reducible exact H) | (have H2_ := (Option.bind_some _ _).symm.trans H; rw [hy710]; with_reducible exact H2_) | (have H2_ := (Option.bind_some _ _).symm.trans H; with_reducible exact H2_) | with_reducible exact H | (rw [hy710]; exact H) | exact H
           have Ny710 := Aside0.mk hy710
           clear hy710
           replace H := Option.bind_eq_some_iff.mp H
           obtain ⟨t713, A1410, H⟩ := H
           try dsimp only at H
           have A141 := Aside0.mk A1410
           clear A1410
           by_cases c142 : t713 = true
           ·
            subst c142
            rw [if_pos rfl] at H
            have H1 := H
            clear H
            have H := H1
            clear H1
            replace H := Option.bind_eq_some_iff.mp H
            obtain ⟨t714, A1430, H⟩ := H
            replace H : (if t714 = true then ((dancestudiolaw50_sooner.f k l0_0 y710 l0_2 a0_3 t674).bind fun t715 => (if t715 = true then ((dancestudiolaw50_awake.f k).bind fun t716 => (some t716)) else (none))) else (none)) = some r := H
            have A143 := Aside0.mk A1430
            clear A1430
            by_cases c144 : t714 = true
            ·
             subst c144
             have H1 : ((dancestudiolaw50_sooner.f k l0_0 y710 l0_2 a0_3 t674).bind fun t715 => (if t715 = true then ((dancestudiolaw50_awake.f k).bind fun t716 => (some t716)) else (none))) = some r := by rw [if_pos rfl] at H; exact H
             clear H
             have H := H1
             clear H1
             replace H := Option.bind_eq_some_iff.mp H
             obtain ⟨t715, A1450, H⟩ := H
             replace H : (if t715 = true then ((dancestudiolaw50_awake.f k).bind fun t716 => (some t716)) else (none)) = some r := H
             have A145 := Aside0.mk A1450
             clear A1450
             by_cases c146 : t715 = true
             ·
              subst c146
              have H1 : ((dancestudiolaw50_awake.f k).bind fun t716 => (some t716)) = some r := by rw [if_pos rfl] at H; exact H
              clear H
              have H := H1
              clear H1
              replace H := Option.bind_eq_some_iff.mp H
              obtain ⟨t716, A1470, H⟩ := H
              replace H : (some t716) = some r := H
              have A147 := Aside0.mk A1470
              clear A1470
              obtain rfl := Option.some.inj H
              generalize w944 = w175 at HO670 BK664 BK676 BK677 BK678 HB ⊢
              have hnb176 := NB664_676.out
              have hnc176 := NB676_664.out
              have hnb177 := NB664_677.out
              have hnc177 := NB677_664.out
              have hnb178 := NB664_678.out
              have hnc178 := NB678_664.out
              have hcz179_0 : w175.cell? ⟨gb664, 0, none⟩ = some (.slice A0_0 l0_0.length c0_0) := (blk_cell BK664.out 0).trans rfl
              have hcz179_1 : w175.cell? ⟨gb664, 1, none⟩ = some (.slice A0_1 l0_1.length c0_1) := (blk_cell BK664.out 1).trans rfl
              have hcz179_2 : w175.cell? ⟨gb664, 2, none⟩ = some (.slice A0_2 l0_2.length c0_2) := (blk_cell BK664.out 2).trans rfl
              have hcz179_3 : w175.cell? ⟨gb664, 3, none⟩ = some (.int .i64 a0_3) := (blk_cell BK664.out 3).trans rfl
              have hfz179_0 := blk_frozen BK664.out 0
              have hfz179_1 := blk_frozen BK664.out 1
              have hfz179_2 := blk_frozen BK664.out 2
              have hfz179_3 := blk_frozen BK664.out 3
              have q180 : ((ji11) : Int) ≤ ((l0_0.length : Int) : Int) := of_decide_eq_true (by assumption)
              obtain ⟨i0180, hi0180, _, hsz180, _⟩ := info_parts info53
              have hroom180 : l0_0.length ≤ c0_0 := HC0_0.out
              have hC180 : Kd.C k53 _ A0_0 l0_0.length l0_0 := HR0_0.out
              have hcut180 := cut_to (P := Try.prog) 22 53 .i64 Try.underlying22 hi0180 A0_0 l0_0.length c0_0 (ji11) (of_decide_eq_true (by assumption)) q180 hroom180
              have hr180 := Kd.C_take (m := ((ji11) : Int).toNat) hC180 (by omega)
              have hy180 : y679.length = ((ji11) : Int).toNat := (by rw [Ny679.out, List.length_take]; omega)
              rw [← Ny679.out] at hr180
              rw [← hy180] at hcut180
              have HR682 := Aside0.mk hr180
              have HC682 := Aside0.mk (show y679.length ≤ c0_0 from by omega)
              clear hr180 hC180 hroom180 hi0180 hsz180
              have KY180 := Aside0.mk hy180
              clear hy180
              replace q180 := eq_true q180
              have hnb181 := NB676_677.out
              have hnc181 := NB677_676.out
              have hnb182 := NB676_678.out
              have hnc182 := NB678_676.out
              have hcz183_0 : w175.cell? ⟨gb676, 0, none⟩ = some (.slice A0_0 l0_0.length c0_0) := (blk_cell BK676.out 0).trans rfl
              have hcz183_1 : w175.cell? ⟨gb676, 1, none⟩ = some (.slice A0_1 l0_1.length c0_1) := (blk_cell BK676.out 1).trans rfl
              have hcz183_2 : w175.cell? ⟨gb676, 2, none⟩ = some (.slice A0_2 l0_2.length c0_2) := (blk_cell BK676.out 2).trans rfl
              have hcz183_3 : w175.cell? ⟨gb676, 3, none⟩ = some (.int .i64 a0_3) := (blk_cell BK676.out 3).trans rfl
              have hfz183_0 := blk_frozen BK676.out 0
              have hfz183_1 := blk_frozen BK676.out 1
              have hfz183_2 := blk_frozen BK676.out 2
              have hfz183_3 := blk_frozen BK676.out 3
              try go_wp2_with (first | ((with_reducible refine gate_dst (N := 62) rfl ?_); refine Kd.R_lit k55 _ 55 ?hg (N := 62) ?hd (xs := ([] : List (S55))) (inner := []) (ok := fun _ => True) (okp := fun _ => True) ?hr ?hp (fun _ hk => hk) trivial (Below.refl _ _) (Nat.le_refl _) (by simp) ?_; (case hd => rfl); (case hg => rfl); (case hr => first | (go_simp; done) | (go_simp; rfl)); (case hp => exact (Reps.none _ _)); intro v705 w184 ho185 hb hg_ hnew_; clear hg_ hnew_; (first | rw [← Ny704.out] at ho185 | (simp only [Int.reduceToNat] at ho185; rw [← Ny704.out] at ho185)); have n0_ := Aside0.mk (Kd.R_below (by (with_reducible repeat (first | apply Kd.R_alloc | apply Kd.R_drewN | apply Kd.R_drew)); exact (Kd.R_mono (Kd.R_far (p := ⟨gb676, 0, none⟩) (Kd.R_types HO670.out BK676.out (by decide)) (fun _ hk => hk.2) (.slice A0_0 y679.length c0_0)) (fun _ h_ => h_.1))) hb); have n1_ := Aside0.mk (Kd.R_lower ho185 (below_size (hO HB))); have n2_ := Aside0.mk (blk_below (g := gb664) (o := .cells #[.slice A0_0 l0_0.length c0_0, .slice A0_1 l0_1.length c0_1, .slice A0_2 l0_2.length c0_2, .int .i64 a0_3] 26 (0, 0)) (blk_far (bO BK664) NB664_676.out _) hb); have n3_ := Aside0.mk (blk_below (g := gb676) (o := .cells #[.slice A0_0 y679.length c0_0, .slice A0_1 l0_1.length c0_1, .slice A0_2 l0_2.length c0_2, .int .i64 a0_3] 26 (0, 0)) (by (with_reducible repeat (first | refine blk_drewN ?_ _ | refine blk_drew ?_ | refine blk_alloc ?_ _)); refine blk_put (cs := #[.slice A0_0 l0_0.length c0_0, .slice A0_1 l0_1.length c0_1, .slice A0_2 l0_2.length c0_2, .int .i64 a0_3]) ?_ 0 _ rfl; (with_reducible repeat (first | refine blk_drewN ?_ _ | refine blk_drew ?_ | refine blk_alloc ?_ _)); exact BK676.out) hb); have n4_ := Aside0.mk (blk_below (g := gb677) (o := .cells #[.slice A0_0 l0_0.length c0_0, .slice A0_1 l0_1.length c0_1, .slice A0_2 l0_2.length c0_2, .int .i64 a0_3] 26 (0, 0)) (blk_far (bO BK677) NB677_676.out _) hb); have n5_ := Aside0.mk (blk_below (g := gb678) (o := .cells #[.slice A0_0 l0_0.length c0_0, .slice A0_1 l0_1.length c0_1, .slice A0_2 l0_2.length c0_2, .int .i64 a0_3] 26 (0, 0)) (blk_far (bO BK678) NB678_676.out _) hb); have n6_ := Aside0.mk (below_step (hO HB) hb); clear HO670; clear BK664; clear BK676; clear BK677; clear BK678; clear HB; have HO670 := n0_; have HO706 := n1_; have BK664 := n2_; have BK676 := n3_; have BK677 := n4_; have BK678 := n5_; have HB := n6_; clear n0_ n1_ n2_ n3_ n4_ n5_ n6_; clear hb ho185; have hcz186_0 : w184.cell? ⟨gb664, 0, none⟩ = some (.slice A0_0 l0_0.length c0_0) := (blk_cell BK664.out 0).trans rfl; have hcz186_1 : w184.cell? ⟨gb664, 1, none⟩ = some (.slice A0_1 l0_1.length c0_1) := (blk_cell BK664.out 1).trans rfl; have hcz186_2 : w184.cell? ⟨gb664, 2, none⟩ = some (.slice A0_2 l0_2.length c0_2) := (blk_cell BK664.out 2).trans rfl; have hcz186_3 : w184.cell? ⟨gb664, 3, none⟩ = some (.int .i64 a0_3) := (blk_cell BK664.out 3).trans rfl; have hfz186_0 := blk_frozen BK664.out 0; have hfz186_1 := blk_frozen BK664.out 1; have hfz186_2 := blk_frozen BK664.out 2; have hfz186_3 := blk_frozen BK664.out 3) | ((with_reducible refine gate_builtin (b := .append) (xs := #[.tmp 62, .tmp 64]) rfl ?_); at_builtin; refine Kd.R_append_rows k55 (w0 := w) w.heap.size rfl (.tmp 62) (.tmp 64) 23 55 (.agg #[(.int .i64 0)]) 8 rfl Try.underlying23 info55 rfl (by decide) (by omega) v705 y704 l0_1 _ _ _ (fun _ => True) (fun _ => False) rfl rfl ?aO ?aR (fun _ _ h => h) (fun _ h => h.elim) ?aF ?aB ?aS ?aL ?_; (case aR => exact Kd.C_below HR0_1.out (hO HB)); (case aB => exact (hO HB)); (case aF => exact (fun _ _ => trivial)); (case aO => exact (rO HO706)); (case aS => exact (below_size (hO HB))); (case aL => have := LMc139.out; omega); intro v708 w187 ho hb hg hat; rw [← Ny707.out] at ho; have n0_ := Aside0.mk (blk_grown (g := gb664) (o := .cells #[.slice A0_0 l0_0.length c0_0, .slice A0_1 l0_1.length c0_1, .slice A0_2 l0_2.length c0_2, .int .i64 a0_3] 26 (0, 0)) (bO BK664) hg (Kd.R_ne HO706.out BK664.out (by decide))); have n1_ := Aside0.mk (Kd.R_over' (rO HO670) (Kd.R_typed (rO HO706)) (by decide) hg); have n2_ := Aside0.mk (blk_grown (g := gb676) (o := .cells #[.slice A0_0 y679.length c0_0, .slice A0_1 l0_1.length c0_1, .slice A0_2 l0_2.length c0_2, .int .i64 a0_3] 26 (0, 0)) (bO BK676) hg (Kd.R_ne HO706.out BK676.out (by decide))); have n3_ := Aside0.mk (blk_grown (g := gb677) (o := .cells #[.slice A0_0 l0_0.length c0_0, .slice A0_1 l0_1.length c0_1, .slice A0_2 l0_2.length c0_2, .int .i64 a0_3] 26 (0, 0)) (bO BK677) hg (Kd.R_ne HO706.out BK677.out (by decide))); have n4_ := Aside0.mk (blk_grown (g := gb678) (o := .cells #[.slice A0_0 l0_0.length c0_0, .slice A0_1 l0_1.length c0_1, .slice A0_2 l0_2.length c0_2, .int .i64 a0_3] 26 (0, 0)) (bO BK678) hg (Kd.R_ne HO706.out BK678.out (by decide))); have n5_ := Aside0.mk (hb); have n6_ := Aside0.mk (ho); clear BK664; clear HO670; clear BK676; clear BK677; clear BK678; clear HB; clear HO706; have BK664 := n0_; have HO670 := n1_; have BK676 := n2_; have BK677 := n3_; have BK678 := n4_; have HB := n5_; have HO709 := n6_; clear n0_ n1_ n2_ n3_ n4_ n5_ n6_; clear ho hb hg hat) | ((with_reducible refine gate_builtin (b := .append) (xs := #[.tmp 65, .tmp 67]) rfl ?_); at_builtin; refine Kd.R_append k55 (w0 := w) w.heap.size rfl (.tmp 65) (.tmp 67) 23 55 (.agg #[(.int .i64 0)]) 8 rfl Try.underlying23 info55 rfl (by decide) (by omega) v708 y707 (⟨1⟩ : S55) [.int .i64 1] (fun _ => True) (fun _ => False) rfl rfl ?aP (fun _ hk => hk.elim) ?aF ?aO ?aB ?aS ?aL ?_; (case aP => exact k55_mkM _ _ _ (⟨1⟩ : S55)); (case aB => exact (hO HB)); (case aF => exact (fun _ _ => trivial)); (case aO => exact (rO HO709)); (case aS => exact (below_size (hO HB))); (case aL => have := LMc140.out; omega); intro v711 w188 ho hb hg hat; rw [← Ny710.out] at ho; have n0_ := Aside0.mk (blk_grown (g := gb664) (o := .cells #[.slice A0_0 l0_0.length c0_0, .slice A0_1 l0_1.length c0_1, .slice A0_2 l0_2.length c0_2, .int .i64 a0_3] 26 (0, 0)) (bO BK664) hg (Kd.R_ne HO709.out BK664.out (by decide))); have n1_ := Aside0.mk (Kd.R_over' (rO HO670) (Kd.R_typed (rO HO709)) (by decide) hg); have n2_ := Aside0.mk (blk_grown (g := gb676) (o := .cells #[.slice A0_0 y679.length c0_0, .slice A0_1 l0_1.length c0_1, .slice A0_2 l0_2.length c0_2, .int .i64 a0_3] 26 (0, 0)) (bO BK676) hg (Kd.R_ne HO709.out BK676.out (by decide))); have n3_ := Aside0.mk (blk_grown (g := gb677) (o := .cells #[.slice A0_0 l0_0.length c0_0, .slice A0_1 l0_1.length c0_1, .slice A0_2 l0_2.length c0_2, .int .i64 a0_3] 26 (0, 0)) (bO BK677) hg (Kd.R_ne HO709.out BK677.out (by decide))); have n4_ := Aside0.mk (blk_grown (g := gb678) (o := .cells #[.slice A0_0 l0_0.length c0_0, .slice A0_1 l0_1.length c0_1, .slice A0_2 l0_2.length c0_2, .int .i64 a0_3] 26 (0, 0)) (bO BK678) hg (Kd.R_ne HO709.out BK678.out (by decide))); have n5_ := Aside0.mk (hb); have n6_ := Aside0.mk (ho); clear BK664; clear HO670; clear BK676; clear BK677; clear BK678; clear HB; clear HO709; have BK664 := n0_; have HO670 := n1_; have BK676 := n2_; have BK677 := n3_; have BK678 := n4_; have HB := n5_; have HO712 := n6_; clear n0_ n1_ n2_ n3_ n4_ n5_ n6_; clear ho hb hg hat; obtain ⟨Ao189, co189, eo189⟩ := Kd.R_slice HO712.out; subst eo189; have hnb190 := NB678_677.out; have hnc190 := NB677_678.out; have hcz191_0 : w188.cell? ⟨gb678, 0, none⟩ = some (.slice A0_0 l0_0.length c0_0) := (blk_cell BK678.out 0).trans rfl; have hcz191_1 : w188.cell? ⟨gb678, 1, none⟩ = some (.slice A0_1 l0_1.length c0_1) := (blk_cell BK678.out 1).trans rfl; have hcz191_2 : w188.cell? ⟨gb678, 2, none⟩ = some (.slice A0_2 l0_2.length c0_2) := (blk_cell BK678.out 2).trans rfl; have hcz191_3 : w188.cell? ⟨gb678, 3, none⟩ = some (.int .i64 a0_3) := (blk_cell BK678.out 3).trans rfl; have hfz191_0 := blk_frozen BK678.out 0; have hfz191_1 := blk_frozen BK678.out 1; have hfz191_2 := blk_frozen BK678.out 2; have hfz191_3 := blk_frozen BK678.out 3; have hcz192_0 : w188.cell? ⟨gb676, 0, none⟩ = some (.slice A0_0 y679.length c0_0) := (blk_cell BK676.out 0).trans rfl; have hcz192_1 : w188.cell? ⟨gb676, 1, none⟩ = some (.slice A0_1 l0_1.length c0_1) := (blk_cell BK676.out 1).trans rfl; have hcz192_2 : w188.cell? ⟨gb676, 2, none⟩ = some (.slice A0_2 l0_2.length c0_2) := (blk_cell BK676.out 2).trans rfl; have hcz192_3 : w188.cell? ⟨gb676, 3, none⟩ = some (.int .i64 a0_3) := (blk_cell BK676.out 3).trans rfl; have hfz192_0 := blk_frozen BK676.out 0; have hfz192_1 := blk_frozen BK676.out 1; have hfz192_2 := blk_frozen BK676.out 2; have hfz192_3 := blk_frozen BK676.out 3) | ((with_reducible refine gate_callee (f := 25) rfl ?_); refine goesL_ (some 72) rfl rfl Try.func25 (by kernel_rfl) rfl #[.agg #[.slice A0_0 y679.length c0_0, .slice A0_1 l0_1.length c0_1, .slice A0_2 l0_2.length c0_2, .int .i64 a0_3], .int .i64 t674] rfl (by (try simp only [List.map_toArray, List.map_cons, List.map_nil]); first | done | rfl | (simp only [List.length_drop, List.length_take]; rfl)) ?_; (with_reducible refine (dancestudiolaw50_sooner.calls k _ _ y679 _ _ l0_1 _ _ l0_2 a0_3 t674 true _ ?side1 ?side2 ?side3 ?side4 ?side5 ?side6 ?sidem_ A141.out).mono ?_); (case sidem_ => exact Mx.below HMX_.out (hO HB)); (case side1 => exact Kd.C_below HR682.out (hO HB)); (case side2 => exact HC682.out); (case side3 => exact Kd.C_below HR0_1.out (hO HB)); (case side4 => exact HC0_1.out); (case side5 => exact Kd.C_below HR0_2.out (hO HB)); (case side6 => exact HC0_2.out); rintro e w193 ⟨rfl, hb⟩; refine ⟨_, rfl, ?_⟩; have n0_ := Aside0.mk (Kd.R_below (by (with_reducible repeat (first | apply Kd.R_alloc | apply Kd.R_drewN | apply Kd.R_drew)); exact (Kd.R_mono (Kd.R_far (p := ⟨gb678, 1, none⟩) (Kd.R_types HO670.out BK678.out (by decide)) (fun _ hk => hk.2) (.slice Ao189 y710.length co189)) (fun _ h_ => h_.1))) hb); have n1_ := Aside0.mk (Kd.R_below (by (with_reducible repeat (first | apply Kd.R_alloc | apply Kd.R_drewN | apply Kd.R_drew)); exact (Kd.R_mono (Kd.R_far (p := ⟨gb678, 1, none⟩) (Kd.R_types HO712.out BK678.out (by decide)) (fun _ hk => hk.2) (.slice Ao189 y710.length co189)) (fun _ h_ => h_.1))) hb); have n2_ := Aside0.mk (blk_below (g := gb664) (o := .cells #[.slice A0_0 l0_0.length c0_0, .slice A0_1 l0_1.length c0_1, .slice A0_2 l0_2.length c0_2, .int .i64 a0_3] 26 (0, 0)) (blk_far (bO BK664) NB664_678.out _) hb); have n3_ := Aside0.mk (blk_below (g := gb676) (o := .cells #[.slice A0_0 y679.length c0_0, .slice A0_1 l0_1.length c0_1, .slice A0_2 l0_2.length c0_2, .int .i64 a0_3] 26 (0, 0)) (blk_far (bO BK676) NB676_678.out _) hb); have n4_ := Aside0.mk (blk_below (g := gb677) (o := .cells #[.slice A0_0 l0_0.length c0_0, .slice A0_1 l0_1.length c0_1, .slice A0_2 l0_2.length c0_2, .int .i64 a0_3] 26 (0, 0)) (blk_far (bO BK677) NB677_678.out _) hb); have n5_ := Aside0.mk (blk_below (g := gb678) (o := .cells #[.slice A0_0 l0_0.length c0_0, .slice Ao189 y710.length co189, .slice A0_2 l0_2.length c0_2, .int .i64 a0_3] 26 (0, 0)) (by (with_reducible repeat (first | refine blk_drewN ?_ _ | refine blk_drew ?_ | refine blk_alloc ?_ _)); refine blk_put (cs := #[.slice A0_0 l0_0.length c0_0, .slice A0_1 l0_1.length c0_1, .slice A0_2 l0_2.length c0_2, .int .i64 a0_3]) ?_ 1 _ rfl; (with_reducible repeat (first | refine blk_drewN ?_ _ | refine blk_drew ?_ | refine blk_alloc ?_ _)); exact BK678.out) hb); have n6_ := Aside0.mk (below_step (hO HB) hb); clear HO670; clear HO712; clear BK664; clear BK676; clear BK677; clear BK678; clear HB; have HO670 := n0_; have HO712 := n1_; have BK664 := n2_; have BK676 := n3_; have BK677 := n4_; have BK678 := n5_; have HB := n6_; clear n0_ n1_ n2_ n3_ n4_ n5_ n6_; (try clear hb); (try clear hb2); (try clear hk); (try clear hi); have hcz194_0 : w193.cell? ⟨gb677, 0, none⟩ = some (.slice A0_0 l0_0.length c0_0) := (blk_cell BK677.out 0).trans rfl; have hcz194_1 : w193.cell? ⟨gb677, 1, none⟩ = some (.slice A0_1 l0_1.length c0_1) := (blk_cell BK677.out 1).trans rfl; have hcz194_2 : w193.cell? ⟨gb677, 2, none⟩ = some (.slice A0_2 l0_2.length c0_2) := (blk_cell BK677.out 2).trans rfl; have hcz194_3 : w193.cell? ⟨gb677, 3, none⟩ = some (.int .i64 a0_3) := (blk_cell BK677.out 3).trans rfl; have hfz194_0 := blk_frozen BK677.out 0; have hfz194_1 := blk_frozen BK677.out 1; have hfz194_2 := blk_frozen BK677.out 2; have hfz194_3 := blk_frozen BK677.out 3) | (go_at_call 25; (with_reducible refine (dancestudiolaw50_sooner.calls k _ _ l0_0 _ _ l0_1 _ _ l0_2 a0_3 t674 true _ ?side1 ?side2 ?side3 ?side4 ?side5 ?side6 ?sidem_ A143.out).mono ?_); (case sidem_ => exact Mx.below HMX_.out (hO HB)); (case side1 => exact Kd.C_below HR0_0.out (hO HB)); (case side2 => exact HC0_0.out); (case side3 => exact Kd.C_below HR0_1.out (hO HB)); (case side4 => exact HC0_1.out); (case side5 => exact Kd.C_below HR0_2.out (hO HB)); (case side6 => exact HC0_2.out); rintro e w195 ⟨rfl, hb⟩; have n0_ := Aside0.mk (Kd.R_below (rO HO670) hb); have n1_ := Aside0.mk (Kd.R_below (rO HO712) hb); have n2_ := bbO BK664 hb; have n3_ := bbO BK676 hb; have n4_ := bbO BK677 hb; have n5_ := bbO BK678 hb; have n6_ := Aside0.mk (below_step (hO HB) hb); clear HO670; clear HO712; clear BK664; clear BK676; clear BK677; clear BK678; clear HB; have HO670 := n0_; have HO712 := n1_; have BK664 := n2_; have BK676 := n3_; have BK677 := n4_; have BK678 := n5_; have HB := n6_; clear n0_ n1_ n2_ n3_ n4_ n5_ n6_; (try clear hb); (try clear hb2); (try clear hk); (try clear hi); have hcz196_0 : w195.cell? ⟨gb678, 0, none⟩ = some (.slice A0_0 l0_0.length c0_0) := (blk_cell BK678.out 0).trans rfl; have hcz196_1 : w195.cell? ⟨gb678, 1, none⟩ = some (.slice Ao189 y710.length co189) := (blk_cell BK678.out 1).trans rfl; have hcz196_2 : w195.cell? ⟨gb678, 2, none⟩ = some (.slice A0_2 l0_2.length c0_2) := (blk_cell BK678.out 2).trans rfl; have hcz196_3 : w195.cell? ⟨gb678, 3, none⟩ = some (.int .i64 a0_3) := (blk_cell BK678.out 3).trans rfl; have hfz196_0 := blk_frozen BK678.out 0; have hfz196_1 := blk_frozen BK678.out 1; have hfz196_2 := blk_frozen BK678.out 2; have hfz196_3 := blk_frozen BK678.out 3) | (go_at_call 25; (with_reducible refine (dancestudiolaw50_sooner.calls k _ _ l0_0 _ _ y710 _ _ l0_2 a0_3 t674 true _ ?side1 ?side2 ?side3 ?side4 ?side5 ?side6 ?sidem_ A145.out).mono ?_); (case sidem_ => exact Mx.below HMX_.out (hO HB)); (case side1 => exact Kd.C_below HR0_0.out (hO HB)); (case side2 => exact HC0_0.out); (case side3 => repeat (first | exact (Kd.R_reads' HO712.out).2.2 | (with_reducible refine Kd.C_alloc ?_ _) | (with_reducible refine Kd.C_drewN ?_ _) | (with_reducible refine Kd.C_drew ?_))); (case side4 => exact (Kd.R_reads' HO712.out).2.1); (case side5 => exact Kd.C_below HR0_2.out (hO HB)); (case side6 => exact HC0_2.out); rintro e w197 ⟨rfl, hb⟩; have n0_ := Aside0.mk (Kd.R_below (rO HO670) hb); have n1_ := Aside0.mk (Kd.R_below (rO HO712) hb); have n2_ := bbO BK664 hb; have n3_ := bbO BK676 hb; have n4_ := bbO BK677 hb; have n5_ := bbO BK678 hb; have n6_ := Aside0.mk (below_step (hO HB) hb); clear HO670; clear HO712; clear BK664; clear BK676; clear BK677; clear BK678; clear HB; have HO670 := n0_; have HO712 := n1_; have BK664 := n2_; have BK676 := n3_; have BK677 := n4_; have BK678 := n5_; have HB := n6_; clear n0_ n1_ n2_ n3_ n4_ n5_ n6_; (try clear hb); (try clear hb2); (try clear hk); (try clear hi)) | (go_at_call 15; (with_reducible refine (dancestudiolaw50_awake.calls k  t716 _ ?sidem_ A147.out).mono ?_); (case sidem_ => exact Mx.below HMX_.out (hO HB)); rintro e w198 ⟨rfl, hb⟩; have n0_ := Aside0.mk (Kd.R_below (rO HO670) hb); have n1_ := Aside0.mk (Kd.R_below (rO HO712) hb); have n2_ := bbO BK664 hb; have n3_ := bbO BK676 hb; have n4_ := bbO BK677 hb; have n5_ := bbO BK678 hb; have n6_ := Aside0.mk (below_step (hO HB) hb); clear HO670; clear HO712; clear BK664; clear BK676; clear BK677; clear BK678; clear HB; have HO670 := n0_; have HO712 := n1_; have BK664 := n2_; have BK676 := n3_; have BK677 := n4_; have BK678 := n5_; have HB := n6_; clear n0_ n1_ n2_ n3_ n4_ n5_ n6_; (try clear hb); (try clear hb2); (try clear hk); (try clear hi)))
              go_ret
              exact ⟨by first | rfl | (simp [errW_none, errW_some] <;> rfl) | (simp only [← hji11]; first | rfl | (simp [errW_none, errW_some] <;> rfl)) | (simp [*, errW_none, errW_some] <;> rfl), by repeat (first | (with_reducible first | exact HB.out | apply below_alloc | apply pw_below_drewN | apply below_drew1 | refine below_set ?_ GE664.out | refine below_set ?_ GE676.out | refine below_set ?_ GE677.out | refine below_set ?_ GE678.out) | exact HB.out)⟩
             ·
              replace c146 := Bool.eq_false_iff.mpr c146
              subst c146
              exact absurd H (by simp)
            ·
             replace c144 := Bool.eq_false_iff.mpr c144
             subst c144
             exact absurd H (by simp)
           ·
            replace c142 := Bool.eq_false_iff.mpr c142
            subst c142
            exact absurd H (by simp)
          ·
           rw [if_neg c140] at H
           exact absurd H (by simp)
         ·
          rw [if_neg c139] at H
          exact absurd H (by simp)
        ·
         rw [if_neg c138] at H
         have c138b0 : decide ((l0_1.length : Int) < 4) = false := decide_eq_false c138
         have c138b1 : decide (l0_1.length < 4) = false := decide_eq_false (by omega)
         clear c138
         replace H := Option.bind_eq_some_iff.mp H
         obtain ⟨t717, A1990, H⟩ := H
         try dsimp only at H
         have A199 := Aside0.mk A1990
         clear A1990
         by_cases c200 : t717 = true
         ·
          subst c200
          rw [if_pos rfl] at H
          have H1 := H
          clear H
          have H := H1
          clear H1
          replace H := Option.bind_eq_some_iff.mp H
          obtain ⟨t718, A2010, H⟩ := H
          replace H : (if t718 = true then ((dancestudiolaw50_sooner.f k l0_0 l0_1 l0_2 a0_3 t674).bind fun t719 => (if t719 = true then ((dancestudiolaw50_awake.f k).bind fun t720 => (some t720)) else (none))) else (none)) = some r := H
          have A201 := Aside0.mk A2010
          clear A2010
          by_cases c202 : t718 = true
          ·
           subst c202
           have H1 : ((dancestudiolaw50_sooner.f k l0_0 l0_1 l0_2 a0_3 t674).bind fun t719 => (if t719 = true then ((dancestudiolaw50_awake.f k).bind fun t720 => (some t720)) else (none))) = some r := by rw [if_pos rfl] at H; exact H
           clear H
           have H := H1
           clear H1
           replace H := Option.bind_eq_some_iff.mp H
           obtain ⟨t719, A2030, H⟩ := H
           replace H : (if t719 = true then ((dancestudiolaw50_awake.f k).bind fun t720 => (some t720)) else (none)) = some r := H
           have A203 := Aside0.mk A2030
           clear A2030
           by_cases c204 : t719 = true
           ·
            subst c204
            have H1 : ((dancestudiolaw50_awake.f k).bind fun t720 => (some t720)) = some r := by rw [if_pos rfl] at H; exact H
            clear H
            have H := H1
            clear H1
            replace H := Option.bind_eq_some_iff.mp H
            obtain ⟨t720, A2050, H⟩ := H
            replace H : (some t720) = some r := H
            have A205 := Aside0.mk A2050
            clear A2050
            obtain rfl := Option.some.inj H
            generalize w944 = w233 at HO670 BK664 BK676 BK677 BK678 HB ⊢
            have hnb234 := NB664_676.out
            have hnc234 := NB676_664.out
            have hnb235 := NB664_677.out
            have hnc235 := NB677_664.out
            have hnb236 := NB664_678.out
            have hnc236 := NB678_664.out
            have hcz237_0 : w233.cell? ⟨gb664, 0, none⟩ = some (.slice A0_0 l0_0.length c0_0) := (blk_cell BK664.out 0).trans rfl
            have hcz237_1 : w233.cell? ⟨gb664, 1, none⟩ = some (.slice A0_1 l0_1.length c0_1) := (blk_cell BK664.out 1).trans rfl
            have hcz237_2 : w233.cell? ⟨gb664, 2, none⟩ = some (.slice A0_2 l0_2.length c0_2) := (blk_cell BK664.out 2).trans rfl
            have hcz237_3 : w233.cell? ⟨gb664, 3, none⟩ = some (.int .i64 a0_3) := (blk_cell BK664.out 3).trans rfl
            have hfz237_0 := blk_frozen BK664.out 0
            have hfz237_1 := blk_frozen BK664.out 1
            have hfz237_2 := blk_frozen BK664.out 2
            have hfz237_3 := blk_frozen BK664.out 3
            have q238 : ((ji11) : Int) ≤ ((l0_0.length : Int) : Int) := of_decide_eq_true (by assumption)
            obtain ⟨i0238, hi0238, _, hsz238, _⟩ := info_parts info53
            have hroom238 : l0_0.length ≤ c0_0 := HC0_0.out
            have hC238 : Kd.C k53 _ A0_0 l0_0.length l0_0 := HR0_0.out
            have hcut238 := cut_to (P := Try.prog) 22 53 .i64 Try.underlying22 hi0238 A0_0 l0_0.length c0_0 (ji11) (of_decide_eq_true (by assumption)) q238 hroom238
            have hr238 := Kd.C_take (m := ((ji11) : Int).toNat) hC238 (by omega)
            have hy238 : y679.length = ((ji11) : Int).toNat := (by rw [Ny679.out, List.length_take]; omega)
            rw [← Ny679.out] at hr238
            rw [← hy238] at hcut238
            have HR682 := Aside0.mk hr238
            have HC682 := Aside0.mk (show y679.length ≤ c0_0 from by omega)
            clear hr238 hC238 hroom238 hi0238 hsz238
            have KY238 := Aside0.mk hy238
            clear hy238
            replace q238 := eq_true q238
            have hnb239 := NB676_677.out
            have hnc239 := NB677_676.out
            have hnb240 := NB676_678.out
            have hnc240 := NB678_676.out
            have hcz241_0 : w233.cell? ⟨gb676, 0, none⟩ = some (.slice A0_0 l0_0.length c0_0) := (blk_cell BK676.out 0).trans rfl
            have hcz241_1 : w233.cell? ⟨gb676, 1, none⟩ = some (.slice A0_1 l0_1.length c0_1) := (blk_cell BK676.out 1).trans rfl
            have hcz241_2 : w233.cell? ⟨gb676, 2, none⟩ = some (.slice A0_2 l0_2.length c0_2) := (blk_cell BK676.out 2).trans rfl
            have hcz241_3 : w233.cell? ⟨gb676, 3, none⟩ = some (.int .i64 a0_3) := (blk_cell BK676.out 3).trans rfl
            have hfz241_0 := blk_frozen BK676.out 0
            have hfz241_1 := blk_frozen BK676.out 1
            have hfz241_2 := blk_frozen BK676.out 2
            have hfz241_3 := blk_frozen BK676.out 3
            try go_wp2_with (first | ((with_reducible refine gate_callee (f := 25) rfl ?_); refine goesL_ (some 72) rfl rfl Try.func25 (by kernel_rfl) rfl #[.agg #[.slice A0_0 y679.length c0_0, .slice A0_1 l0_1.length c0_1, .slice A0_2 l0_2.length c0_2, .int .i64 a0_3], .int .i64 t674] rfl (by (try simp only [List.map_toArray, List.map_cons, List.map_nil]); first | done | rfl | (simp only [List.length_drop, List.length_take]; rfl)) ?_; (with_reducible refine (dancestudiolaw50_sooner.calls k _ _ y679 _ _ l0_1 _ _ l0_2 a0_3 t674 true _ ?side1 ?side2 ?side3 ?side4 ?side5 ?side6 ?sidem_ A199.out).mono ?_); (case sidem_ => exact Mx.below HMX_.out (hO HB)); (case side1 => exact Kd.C_below HR682.out (hO HB)); (case side2 => exact HC682.out); (case side3 => exact Kd.C_below HR0_1.out (hO HB)); (case side4 => exact HC0_1.out); (case side5 => exact Kd.C_below HR0_2.out (hO HB)); (case side6 => exact HC0_2.out); rintro e w242 ⟨rfl, hb⟩; refine ⟨_, rfl, ?_⟩; have n0_ := Aside0.mk (Kd.R_below (by (with_reducible repeat (first | apply Kd.R_alloc | apply Kd.R_drewN | apply Kd.R_drew)); exact (Kd.R_mono (Kd.R_far (p := ⟨gb676, 0, none⟩) (Kd.R_types HO670.out BK676.out (by decide)) (fun _ hk => hk.2) (.slice A0_0 y679.length c0_0)) (fun _ h_ => h_.1))) hb); have n1_ := Aside0.mk (blk_below (g := gb664) (o := .cells #[.slice A0_0 l0_0.length c0_0, .slice A0_1 l0_1.length c0_1, .slice A0_2 l0_2.length c0_2, .int .i64 a0_3] 26 (0, 0)) (blk_far (bO BK664) NB664_676.out _) hb); have n2_ := Aside0.mk (blk_below (g := gb676) (o := .cells #[.slice A0_0 y679.length c0_0, .slice A0_1 l0_1.length c0_1, .slice A0_2 l0_2.length c0_2, .int .i64 a0_3] 26 (0, 0)) (by (with_reducible repeat (first | refine blk_drewN ?_ _ | refine blk_drew ?_ | refine blk_alloc ?_ _)); refine blk_put (cs := #[.slice A0_0 l0_0.length c0_0, .slice A0_1 l0_1.length c0_1, .slice A0_2 l0_2.length c0_2, .int .i64 a0_3]) ?_ 0 _ rfl; (with_reducible repeat (first | refine blk_drewN ?_ _ | refine blk_drew ?_ | refine blk_alloc ?_ _)); exact BK676.out) hb); have n3_ := Aside0.mk (blk_below (g := gb677) (o := .cells #[.slice A0_0 l0_0.length c0_0, .slice A0_1 l0_1.length c0_1, .slice A0_2 l0_2.length c0_2, .int .i64 a0_3] 26 (0, 0)) (blk_far (bO BK677) NB677_676.out _) hb); have n4_ := Aside0.mk (blk_below (g := gb678) (o := .cells #[.slice A0_0 l0_0.length c0_0, .slice A0_1 l0_1.length c0_1, .slice A0_2 l0_2.length c0_2, .int .i64 a0_3] 26 (0, 0)) (blk_far (bO BK678) NB678_676.out _) hb); have n5_ := Aside0.mk (below_step (hO HB) hb); clear HO670; clear BK664; clear BK676; clear BK677; clear BK678; clear HB; have HO670 := n0_; have BK664 := n1_; have BK676 := n2_; have BK677 := n3_; have BK678 := n4_; have HB := n5_; clear n0_ n1_ n2_ n3_ n4_ n5_; (try clear hb); (try clear hb2); (try clear hk); (try clear hi); have hnb243 := NB677_678.out; have hnc243 := NB678_677.out; have hcz244_0 : w242.cell? ⟨gb677, 0, none⟩ = some (.slice A0_0 l0_0.length c0_0) := (blk_cell BK677.out 0).trans rfl; have hcz244_1 : w242.cell? ⟨gb677, 1, none⟩ = some (.slice A0_1 l0_1.length c0_1) := (blk_cell BK677.out 1).trans rfl; have hcz244_2 : w242.cell? ⟨gb677, 2, none⟩ = some (.slice A0_2 l0_2.length c0_2) := (blk_cell BK677.out 2).trans rfl; have hcz244_3 : w242.cell? ⟨gb677, 3, none⟩ = some (.int .i64 a0_3) := (blk_cell BK677.out 3).trans rfl; have hfz244_0 := blk_frozen BK677.out 0; have hfz244_1 := blk_frozen BK677.out 1; have hfz244_2 := blk_frozen BK677.out 2; have hfz244_3 := blk_frozen BK677.out 3) | (go_at_call 25; (with_reducible refine (dancestudiolaw50_sooner.calls k _ _ l0_0 _ _ l0_1 _ _ l0_2 a0_3 t674 true _ ?side1 ?side2 ?side3 ?side4 ?side5 ?side6 ?sidem_ A201.out).mono ?_); (case sidem_ => exact Mx.below HMX_.out (hO HB)); (case side1 => exact Kd.C_below HR0_0.out (hO HB)); (case side2 => exact HC0_0.out); (case side3 => exact Kd.C_below HR0_1.out (hO HB)); (case side4 => exact HC0_1.out); (case side5 => exact Kd.C_below HR0_2.out (hO HB)); (case side6 => exact HC0_2.out); rintro e w245 ⟨rfl, hb⟩; have n0_ := Aside0.mk (Kd.R_below (rO HO670) hb); have n1_ := bbO BK664 hb; have n2_ := bbO BK676 hb; have n3_ := bbO BK677 hb; have n4_ := bbO BK678 hb; have n5_ := Aside0.mk (below_step (hO HB) hb); clear HO670; clear BK664; clear BK676; clear BK677; clear BK678; clear HB; have HO670 := n0_; have BK664 := n1_; have BK676 := n2_; have BK677 := n3_; have BK678 := n4_; have HB := n5_; clear n0_ n1_ n2_ n3_ n4_ n5_; (try clear hb); (try clear hb2); (try clear hk); (try clear hi); have hcz246_0 : w245.cell? ⟨gb678, 0, none⟩ = some (.slice A0_0 l0_0.length c0_0) := (blk_cell BK678.out 0).trans rfl; have hcz246_1 : w245.cell? ⟨gb678, 1, none⟩ = some (.slice A0_1 l0_1.length c0_1) := (blk_cell BK678.out 1).trans rfl; have hcz246_2 : w245.cell? ⟨gb678, 2, none⟩ = some (.slice A0_2 l0_2.length c0_2) := (blk_cell BK678.out 2).trans rfl; have hcz246_3 : w245.cell? ⟨gb678, 3, none⟩ = some (.int .i64 a0_3) := (blk_cell BK678.out 3).trans rfl; have hfz246_0 := blk_frozen BK678.out 0; have hfz246_1 := blk_frozen BK678.out 1; have hfz246_2 := blk_frozen BK678.out 2; have hfz246_3 := blk_frozen BK678.out 3) | (go_at_call 25; (with_reducible refine (dancestudiolaw50_sooner.calls k _ _ l0_0 _ _ l0_1 _ _ l0_2 a0_3 t674 true _ ?side1 ?side2 ?side3 ?side4 ?side5 ?side6 ?sidem_ A203.out).mono ?_); (case sidem_ => exact Mx.below HMX_.out (hO HB)); (case side1 => exact Kd.C_below HR0_0.out (hO HB)); (case side2 => exact HC0_0.out); (case side3 => exact Kd.C_below HR0_1.out (hO HB)); (case side4 => exact HC0_1.out); (case side5 => exact Kd.C_below HR0_2.out (hO HB)); (case side6 => exact HC0_2.out); rintro e w247 ⟨rfl, hb⟩; have n0_ := Aside0.mk (Kd.R_below (rO HO670) hb); have n1_ := bbO BK664 hb; have n2_ := bbO BK676 hb; have n3_ := bbO BK677 hb; have n4_ := bbO BK678 hb; have n5_ := Aside0.mk (below_step (hO HB) hb); clear HO670; clear BK664; clear BK676; clear BK677; clear BK678; clear HB; have HO670 := n0_; have BK664 := n1_; have BK676 := n2_; have BK677 := n3_; have BK678 := n4_; have HB := n5_; clear n0_ n1_ n2_ n3_ n4_ n5_; (try clear hb); (try clear hb2); (try clear hk); (try clear hi)) | (go_at_call 15; (with_reducible refine (dancestudiolaw50_awake.calls k  t720 _ ?sidem_ A205.out).mono ?_); (case sidem_ => exact Mx.below HMX_.out (hO HB)); rintro e w248 ⟨rfl, hb⟩; have n0_ := Aside0.mk (Kd.R_below (rO HO670) hb); have n1_ := bbO BK664 hb; have n2_ := bbO BK676 hb; have n3_ := bbO BK677 hb; have n4_ := bbO BK678 hb; have n5_ := Aside0.mk (below_step (hO HB) hb); clear HO670; clear BK664; clear BK676; clear BK677; clear BK678; clear HB; have HO670 := n0_; have BK664 := n1_; have BK676 := n2_; have BK677 := n3_; have BK678 := n4_; have HB := n5_; clear n0_ n1_ n2_ n3_ n4_ n5_; (try clear hb); (try clear hb2); (try clear hk); (try clear hi)))
            go_ret
            exact ⟨by first | rfl | (simp [errW_none, errW_some] <;> rfl) | (simp only [← hji11]; first | rfl | (simp [errW_none, errW_some] <;> rfl)) | (simp [*, errW_none, errW_some] <;> rfl), by repeat (first | (with_reducible first | exact HB.out | apply below_alloc | apply pw_below_drewN | apply below_drew1 | refine below_set ?_ GE664.out | refine below_set ?_ GE676.out | refine below_set ?_ GE677.out | refine below_set ?_ GE678.out) | exact HB.out)⟩
           ·
            replace c204 := Bool.eq_false_iff.mpr c204
            subst c204
            exact absurd H (by simp)
          ·
           replace c202 := Bool.eq_false_iff.mpr c202
           subst c202
           exact absurd H (by simp)
         ·
          replace c200 := Bool.eq_false_iff.mpr c200
          subst c200
          exact absurd H (by simp)
      ·
       rw [if_neg c13] at H
       exact absurd H (by simp)
     ·
      rw [if_neg c12] at H
      exact absurd H (by simp)
    ·
     rw [if_neg c10] at H
     have c10b0 : decide (0 < (l0_0.length : Int)) = false := decide_eq_false c10
     have c10b1 : decide (0 < l0_0.length) = false := decide_eq_false (by omega)
     clear c10
     by_cases c249 : (l0_2.length : Int) > 0
     ·
      rw [if_pos c249] at H
      have c249b0 : decide (0 < (l0_2.length : Int)) = true := decide_eq_true c249
      have c249b1 : decide (0 < l0_2.length) = true := decide_eq_true (by omega)
      clear c249
      obtain ⟨ji250, hji250⟩ : ∃ j_ : Int, (wrap64 ((l0_2.length : Int) - 1)) = j_ := ⟨_, rfl⟩
      replace H : (if 0 ≤ (ji250) then (if (ji250) ≤ (l0_2.length : Int) then ((some (l0_2.take ((ji250) : Int).toNat : List (S59))).bind fun y721 => (if (l0_1.length : Int) < 4 then ((some (([] : List (S55)) : List (S55))).bind fun y725 => (if y725.length + l0_1.length < 17592186044416 then ((some (y725 ++ l0_1 : List (S55))).bind fun y728 => (if y728.length < 17592186044416 then ((dancestudiolaw50_sooner.f k l0_0 l0_1 l0_2 a0_3 t674).bind fun t734 => (if t734 = true then ((dancestudiolaw50_sooner.f k l0_0 l0_1 y721 a0_3 t674).bind fun t735 => (if t735 = true then ((dancestudiolaw50_sooner.f k l0_0 (y728 ++ [(⟨1⟩ : S55)]) l0_2 a0_3 t674).bind fun t736 => (if t736 = true then ((dancestudiolaw50_awake.f k).bind fun t737 => (some t737)) else (none))) else (none))) else (none))) else (none))) else (none))) else ((dancestudiolaw50_sooner.f k l0_0 l0_1 l0_2 a0_3 t674).bind fun t738 => (if t738 = true then ((dancestudiolaw50_sooner.f k l0_0 l0_1 y721 a0_3 t674).bind fun t739 => (if t739 = true then ((dancestudiolaw50_sooner.f k l0_0 l0_1 l0_2 a0_3 t674).bind fun t740 => (if t740 = true then ((dancestudiolaw50_awake.f k).bind fun t741 => (some t741)) else (none))) else (none))) else (none))))) else (none)) else (none)) = some r := by first | (rw [hji250] at H; exact H) | (simp only [hji250] at H ⊢; exact H)
      (try rw [hji250] at A2)
      (try rw [hji250] at A4)
      (try rw [hji250] at A5)
      (try rw [hji250] at A7)
      (try rw [hji250] at A8)
      have hji250w : (IntKind.i64.wrap ((l0_2.length : Int) - 1)) = ji250 := (i64_w _).trans hji250
      by_cases c251 : 0 ≤ (ji250)
      ·
       rw [if_pos c251] at H
       have c251b0 := eq_true c251
       have c251b1 : decide (0 ≤ (ji250)) = true := decide_eq_true c251
       clear c251
       by_cases c252 : (ji250) ≤ (l0_2.length : Int)
       ·
        rw [if_pos c252] at H
        have c252b0 := eq_true c252
        have c252b1 : decide ((ji250) ≤ (l0_2.length : Int)) = true := decide_eq_true c252
        clear c252
        obtain ⟨y721, hy721⟩ : ∃ y_ : List (S59), y_ = (l0_2.take ((ji250) : Int).toNat) := ⟨_, rfl⟩
        replace H : (if (l0_1.length : Int) < 4 then ((some (([] : List (S55)) : List (S55))).bind fun y725 => (if y725.length + l0_1.length < 17592186044416 then ((some (y725 ++ l0_1 : List (S55))).bind fun y728 => (if y728.length < 17592186044416 then ((dancestudiolaw50_sooner.f k l0_0 l0_1 l0_2 a0_3 t674).bind fun t734 => (if t734 = true then ((dancestudiolaw50_sooner.f k l0_0 l0_1 y721 a0_3 t674).bind fun t735 => (if t735 = true then ((dancestudiolaw50_sooner.f k l0_0 (y728 ++ [(⟨1⟩ : S55)]) l0_2 a0_3 t674).bind fun t736 => (if t736 = true then ((dancestudiolaw50_awake.f k).bind fun t737 => (some t737)) else (none))) else (none))) else (none))) else (none))) else (none))) else ((dancestudiolaw50_sooner.f k l0_0 l0_1 l0_2 a0_3 t674).bind fun t738 => (if t738 = true then ((dancestudiolaw50_sooner.f k l0_0 l0_1 y721 a0_3 t674).bind fun t739 => (if t739 = true then ((dancestudiolaw50_sooner.f k l0_0 l0_1 l0_2 a0_3 t674).bind fun t740 => (if t740 = true then ((dancestudiolaw50_awake.f k).bind fun t741 => (some t741)) else (none))) else (none))) else (none)))) = some r := by first | (rw [hy721]; with_reducible exact H) | (have H2_ := (Option.bind_some _ _).symm.trans H; rw [hy721]; with_reducible exact H2_) | (have H2_ := (Option.bind_some _ _).symm.trans H; with_reducible exact H2_) | with_reducible exact H | (rw [hy721]; exact H) | exact H
        have Ny721 := Aside0.mk hy721
        clear hy721
        by_cases c253 : (l0_1.length : Int) < 4
        ·
         rw [if_pos c253] at H
         have c253b0 : decide ((l0_1.length : Int) < 4) = true := decide_eq_true c253
         have c253b1 : decide (l0_1.length < 4) = true := decide_eq_true (by omega)
         clear c253
         obtain ⟨y725, hy725⟩ : ∃ y_ : List (S55), y_ = (([] : List (S55))) := ⟨_, rfl⟩
         replace H : (if y725.length + l0_1.length < 17592186044416 then ((some (y725 ++ l0_1 : List (S55))).bind fun y728 => (if y728.length < 17592186044416 then ((dancestudiolaw50_sooner.f k l0_0 l0_1 l0_2 a0_3 t674).bind fun t734 => (if t734 = true then ((dancestudiolaw50_sooner.f k l0_0 l0_1 y721 a0_3 t674).bind fun t735 => (if t735 = true then ((dancestudiolaw50_sooner.f k l0_0 (y728 ++ [(⟨1⟩ : S55)]) l0_2 a0_3 t674).bind fun t736 => (if t736 = true then ((dancestudiolaw50_awake.f k).bind fun t737 => (some t737)) else (none))) else (none))) else (none))) else (none))) else (none)) = some r := by first | (rw [hy725]; with_reducible exact H) | (have H2_ := (Option.bind_some _ _).symm.trans H; rw [hy725]; with_reducible exact H2_) | (have H2_ := (Option.bind_some _ _).symm.trans H; with_reducible exact H2_) | with_reducible exact H | (rw [hy725]; exact H) | exact H
         have Ny725 := Aside0.mk hy725
         clear hy725
         by_cases c254 : y725.length + l0_1.length < 17592186044416
         ·
          rw [if_pos c254] at H
          have LMc254 := Aside0.mk c254
          clear c254
          obtain ⟨y728, hy728⟩ : ∃ y_ : List (S55), y_ = (y725 ++ l0_1) := ⟨_, rfl⟩
          replace H : (if y728.length < 17592186044416 then ((dancestudiolaw50_sooner.f k l0_0 l0_1 l0_2 a0_3 t674).bind fun t734 => (if t734 = true then ((dancestudiolaw50_sooner.f k l0_0 l0_1 y721 a0_3 t674).bind fun t735 => (if t735 = true then ((dancestudiolaw50_sooner.f k l0_0 (y728 ++ [(⟨1⟩ : S55)]) l0_2 a0_3 t674).bind fun t736 => (if t736 = true then ((dancestudiolaw50_awake.f k).bind fun t737 => (some t737)) else (none))) else (none))) else (none))) else (none)) = some r := by first | (rw [hy728]; with_reducible exact H) | (have H2_ := (Option.bind_some _ _).symm.trans H; rw [hy728]; with_reducible exact H2_) | (have H2_ := (Option.bind_some _ _).symm.trans H; with_reducible exact H2_) | with_reducible exact H | (rw [hy728]; exact H) | exact H
          have Ny728 := Aside0.mk hy728
          clear hy728
          by_cases c255 : y728.length < 17592186044416
          ·
           rw [if_pos c255] at H
           have LMc255 := Aside0.mk c255
           clear c255
           obtain ⟨y731, hy731⟩ : ∃ y_ : List (S55), y_ = (y728 ++ [(⟨1⟩ : S55)]) := ⟨_, rfl⟩
           replace H : ((dancestudiolaw50_sooner.f k l0_0 l0_1 l0_2 a0_3 t674).bind fun t734 => (if t734 = true then ((dancestudiolaw50_sooner.f k l0_0 l0_1 y721 a0_3 t674).bind fun t735 => (if t735 = true then ((dancestudiolaw50_sooner.f k l0_0 y731 l0_2 a0_3 t674).bind fun t736 => (if t736 = true then ((dancestudiolaw50_awake.f k).bind fun t737 => (some t737)) else (none))) else (none))) else (none))) = some r := by first | (rw [hy731]; with_reducible exact H) | (have H2_ := (Option.bind_some _ _).symm.trans H; rw [hy731]; with_reducible exact H2_) | (have H2_ := (Option.bind_some _ _).symm.trans H; with_reducible exact H2_) | with_reducible exact H | (rw [hy731]; exact H) | exact H
           have Ny731 := Aside0.mk hy731
           clear hy731
           replace H := Option.bind_eq_some_iff.mp H
           obtain ⟨t734, A2560, H⟩ := H
           try dsimp only at H
           have A256 := Aside0.mk A2560
           clear A2560
           by_cases c257 : t734 = true
           ·
            subst c257
            rw [if_pos rfl] at H
            have H1 := H
            clear H
            have H := H1
            clear H1
            replace H := Option.bind_eq_some_iff.mp H
            obtain ⟨t735, A2580, H⟩ := H
            replace H : (if t735 = true then ((dancestudiolaw50_sooner.f k l0_0 y731 l0_2 a0_3 t674).bind fun t736 => (if t736 = true then ((dancestudiolaw50_awake.f k).bind fun t737 => (some t737)) else (none))) else (none)) = some r := H
            have A258 := Aside0.mk A2580
            clear A2580
            by_cases c259 : t735 = true
            ·
             subst c259
             have H1 : ((dancestudiolaw50_sooner.f k l0_0 y731 l0_2 a0_3 t674).bind fun t736 => (if t736 = true then ((dancestudiolaw50_awake.f k).bind fun t737 => (some t737)) else (none))) = some r := by rw [if_pos rfl] at H; exact H
             clear H
             have H := H1
             clear H1
             replace H := Option.bind_eq_some_iff.mp H
             obtain ⟨t736, A2600, H⟩ := H
             replace H : (if t736 = true then ((dancestudiolaw50_awake.f k).bind fun t737 => (some t737)) else (none)) = some r := H
             have A260 := Aside0.mk A2600
             clear A2600
             by_cases c261 : t736 = true
             ·
              subst c261
              have H1 : ((dancestudiolaw50_awake.f k).bind fun t737 => (some t737)) = some r := by rw [if_pos rfl] at H; exact H
              clear H
              have H := H1
              clear H1
              replace H := Option.bind_eq_some_iff.mp H
              obtain ⟨t737, A2620, H⟩ := H
              replace H : (some t737) = some r := H
              have A262 := Aside0.mk A2620
              clear A2620
              obtain rfl := Option.some.inj H
              generalize w944 = w290 at HO670 BK664 BK676 BK677 BK678 HB ⊢
              have hnb291 := NB664_676.out
              have hnc291 := NB676_664.out
              have hnb292 := NB664_677.out
              have hnc292 := NB677_664.out
              have hnb293 := NB664_678.out
              have hnc293 := NB678_664.out
              have hcz294_0 : w290.cell? ⟨gb664, 0, none⟩ = some (.slice A0_0 l0_0.length c0_0) := (blk_cell BK664.out 0).trans rfl
              have hcz294_1 : w290.cell? ⟨gb664, 1, none⟩ = some (.slice A0_1 l0_1.length c0_1) := (blk_cell BK664.out 1).trans rfl
              have hcz294_2 : w290.cell? ⟨gb664, 2, none⟩ = some (.slice A0_2 l0_2.length c0_2) := (blk_cell BK664.out 2).trans rfl
              have hcz294_3 : w290.cell? ⟨gb664, 3, none⟩ = some (.int .i64 a0_3) := (blk_cell BK664.out 3).trans rfl
              have hfz294_0 := blk_frozen BK664.out 0
              have hfz294_1 := blk_frozen BK664.out 1
              have hfz294_2 := blk_frozen BK664.out 2
              have hfz294_3 := blk_frozen BK664.out 3
              have q295 : ((ji250) : Int) ≤ ((l0_2.length : Int) : Int) := of_decide_eq_true (by assumption)
              obtain ⟨i0295, hi0295, _, hsz295, _⟩ := info_parts info59
              have hroom295 : l0_2.length ≤ c0_2 := HC0_2.out
              have hC295 : Kd.C k59 _ A0_2 l0_2.length l0_2 := HR0_2.out
              have hcut295 := cut_to (P := Try.prog) 24 59 .i64 Try.underlying24 hi0295 A0_2 l0_2.length c0_2 (ji250) (of_decide_eq_true (by assumption)) q295 hroom295
              have hr295 := Kd.C_take (m := ((ji250) : Int).toNat) hC295 (by omega)
              have hy295 : y721.length = ((ji250) : Int).toNat := (by rw [Ny721.out, List.length_take]; omega)
              rw [← Ny721.out] at hr295
              rw [← hy295] at hcut295
              have HR724 := Aside0.mk hr295
              have HC724 := Aside0.mk (show y721.length ≤ c0_2 from by omega)
              clear hr295 hC295 hroom295 hi0295 hsz295
              have KY295 := Aside0.mk hy295
              clear hy295
              replace q295 := eq_true q295
              have hnb296 := NB677_676.out
              have hnc296 := NB676_677.out
              have hnb297 := NB677_678.out
              have hnc297 := NB678_677.out
              have hcz298_0 : w290.cell? ⟨gb677, 0, none⟩ = some (.slice A0_0 l0_0.length c0_0) := (blk_cell BK677.out 0).trans rfl
              have hcz298_1 : w290.cell? ⟨gb677, 1, none⟩ = some (.slice A0_1 l0_1.length c0_1) := (blk_cell BK677.out 1).trans rfl
              have hcz298_2 : w290.cell? ⟨gb677, 2, none⟩ = some (.slice A0_2 l0_2.length c0_2) := (blk_cell BK677.out 2).trans rfl
              have hcz298_3 : w290.cell? ⟨gb677, 3, none⟩ = some (.int .i64 a0_3) := (blk_cell BK677.out 3).trans rfl
              have hfz298_0 := blk_frozen BK677.out 0
              have hfz298_1 := blk_frozen BK677.out 1
              have hfz298_2 := blk_frozen BK677.out 2
              have hfz298_3 := blk_frozen BK677.out 3
              try go_wp2_with (first | ((with_reducible refine gate_dst (N := 62) rfl ?_); refine Kd.R_lit k55 _ 55 ?hg (N := 62) ?hd (xs := ([] : List (S55))) (inner := []) (ok := fun _ => True) (okp := fun _ => True) ?hr ?hp (fun _ hk => hk) trivial (Below.refl _ _) (Nat.le_refl _) (by simp) ?_; (case hd => rfl); (case hg => rfl); (case hr => first | (go_simp; done) | (go_simp; rfl)); (case hp => exact (Reps.none _ _)); intro v726 w299 ho300 hb hg_ hnew_; clear hg_ hnew_; (first | rw [← Ny725.out] at ho300 | (simp only [Int.reduceToNat] at ho300; rw [← Ny725.out] at ho300)); have n0_ := Aside0.mk (Kd.R_below (by (with_reducible repeat (first | apply Kd.R_alloc | apply Kd.R_drewN | apply Kd.R_drew)); exact (Kd.R_mono (Kd.R_far (p := ⟨gb677, 2, none⟩) (Kd.R_types HO670.out BK677.out (by decide)) (fun _ hk => hk.2) (.slice A0_2 y721.length c0_2)) (fun _ h_ => h_.1))) hb); have n1_ := Aside0.mk (Kd.R_lower ho300 (below_size (hO HB))); have n2_ := Aside0.mk (blk_below (g := gb664) (o := .cells #[.slice A0_0 l0_0.length c0_0, .slice A0_1 l0_1.length c0_1, .slice A0_2 l0_2.length c0_2, .int .i64 a0_3] 26 (0, 0)) (blk_far (bO BK664) NB664_677.out _) hb); have n3_ := Aside0.mk (blk_below (g := gb676) (o := .cells #[.slice A0_0 l0_0.length c0_0, .slice A0_1 l0_1.length c0_1, .slice A0_2 l0_2.length c0_2, .int .i64 a0_3] 26 (0, 0)) (blk_far (bO BK676) NB676_677.out _) hb); have n4_ := Aside0.mk (blk_below (g := gb677) (o := .cells #[.slice A0_0 l0_0.length c0_0, .slice A0_1 l0_1.length c0_1, .slice A0_2 y721.length c0_2, .int .i64 a0_3] 26 (0, 0)) (by (with_reducible repeat (first | refine blk_drewN ?_ _ | refine blk_drew ?_ | refine blk_alloc ?_ _)); refine blk_put (cs := #[.slice A0_0 l0_0.length c0_0, .slice A0_1 l0_1.length c0_1, .slice A0_2 l0_2.length c0_2, .int .i64 a0_3]) ?_ 2 _ rfl; (with_reducible repeat (first | refine blk_drewN ?_ _ | refine blk_drew ?_ | refine blk_alloc ?_ _)); exact BK677.out) hb); have n5_ := Aside0.mk (blk_below (g := gb678) (o := .cells #[.slice A0_0 l0_0.length c0_0, .slice A0_1 l0_1.length c0_1, .slice A0_2 l0_2.length c0_2, .int .i64 a0_3] 26 (0, 0)) (blk_far (bO BK678) NB678_677.out _) hb); have n6_ := Aside0.mk (below_step (hO HB) hb); clear HO670; clear BK664; clear BK676; clear BK677; clear BK678; clear HB; have HO670 := n0_; have HO727 := n1_; have BK664 := n2_; have BK676 := n3_; have BK677 := n4_; have BK678 := n5_; have HB := n6_; clear n0_ n1_ n2_ n3_ n4_ n5_ n6_; clear hb ho300; have hcz301_0 : w299.cell? ⟨gb664, 0, none⟩ = some (.slice A0_0 l0_0.length c0_0) := (blk_cell BK664.out 0).trans rfl; have hcz301_1 : w299.cell? ⟨gb664, 1, none⟩ = some (.slice A0_1 l0_1.length c0_1) := (blk_cell BK664.out 1).trans rfl; have hcz301_2 : w299.cell? ⟨gb664, 2, none⟩ = some (.slice A0_2 l0_2.length c0_2) := (blk_cell BK664.out 2).trans rfl; have hcz301_3 : w299.cell? ⟨gb664, 3, none⟩ = some (.int .i64 a0_3) := (blk_cell BK664.out 3).trans rfl; have hfz301_0 := blk_frozen BK664.out 0; have hfz301_1 := blk_frozen BK664.out 1; have hfz301_2 := blk_frozen BK664.out 2; have hfz301_3 := blk_frozen BK664.out 3) | ((with_reducible refine gate_builtin (b := .append) (xs := #[.tmp 62, .tmp 64]) rfl ?_); at_builtin; refine Kd.R_append_rows k55 (w0 := w) w.heap.size rfl (.tmp 62) (.tmp 64) 23 55 (.agg #[(.int .i64 0)]) 8 rfl Try.underlying23 info55 rfl (by decide) (by omega) v726 y725 l0_1 _ _ _ (fun _ => True) (fun _ => False) rfl rfl ?aO ?aR (fun _ _ h => h) (fun _ h => h.elim) ?aF ?aB ?aS ?aL ?_; (case aR => exact Kd.C_below HR0_1.out (hO HB)); (case aB => exact (hO HB)); (case aF => exact (fun _ _ => trivial)); (case aO => exact (rO HO727)); (case aS => exact (below_size (hO HB))); (case aL => have := LMc254.out; omega); intro v729 w302 ho hb hg hat; rw [← Ny728.out] at ho; have n0_ := Aside0.mk (blk_grown (g := gb664) (o := .cells #[.slice A0_0 l0_0.length c0_0, .slice A0_1 l0_1.length c0_1, .slice A0_2 l0_2.length c0_2, .int .i64 a0_3] 26 (0, 0)) (bO BK664) hg (Kd.R_ne HO727.out BK664.out (by decide))); have n1_ := Aside0.mk (Kd.R_over' (rO HO670) (Kd.R_typed (rO HO727)) (by decide) hg); have n2_ := Aside0.mk (blk_grown (g := gb676) (o := .cells #[.slice A0_0 l0_0.length c0_0, .slice A0_1 l0_1.length c0_1, .slice A0_2 l0_2.length c0_2, .int .i64 a0_3] 26 (0, 0)) (bO BK676) hg (Kd.R_ne HO727.out BK676.out (by decide))); have n3_ := Aside0.mk (blk_grown (g := gb677) (o := .cells #[.slice A0_0 l0_0.length c0_0, .slice A0_1 l0_1.length c0_1, .slice A0_2 y721.length c0_2, .int .i64 a0_3] 26 (0, 0)) (bO BK677) hg (Kd.R_ne HO727.out BK677.out (by decide))); have n4_ := Aside0.mk (blk_grown (g := gb678) (o := .cells #[.slice A0_0 l0_0.length c0_0, .slice A0_1 l0_1.length c0_1, .slice A0_2 l0_2.length c0_2, .int .i64 a0_3] 26 (0, 0)) (bO BK678) hg (Kd.R_ne HO727.out BK678.out (by decide))); have n5_ := Aside0.mk (hb); have n6_ := Aside0.mk (ho); clear BK664; clear HO670; clear BK676; clear BK677; clear BK678; clear HB; clear HO727; have BK664 := n0_; have HO670 := n1_; have BK676 := n2_; have BK677 := n3_; have BK678 := n4_; have HB := n5_; have HO730 := n6_; clear n0_ n1_ n2_ n3_ n4_ n5_ n6_; clear ho hb hg hat) | ((with_reducible refine gate_builtin (b := .append) (xs := #[.tmp 65, .tmp 67]) rfl ?_); at_builtin; refine Kd.R_append k55 (w0 := w) w.heap.size rfl (.tmp 65) (.tmp 67) 23 55 (.agg #[(.int .i64 0)]) 8 rfl Try.underlying23 info55 rfl (by decide) (by omega) v729 y728 (⟨1⟩ : S55) [.int .i64 1] (fun _ => True) (fun _ => False) rfl rfl ?aP (fun _ hk => hk.elim) ?aF ?aO ?aB ?aS ?aL ?_; (case aP => exact k55_mkM _ _ _ (⟨1⟩ : S55)); (case aB => exact (hO HB)); (case aF => exact (fun _ _ => trivial)); (case aO => exact (rO HO730)); (case aS => exact (below_size (hO HB))); (case aL => have := LMc255.out; omega); intro v732 w303 ho hb hg hat; rw [← Ny731.out] at ho; have n0_ := Aside0.mk (blk_grown (g := gb664) (o := .cells #[.slice A0_0 l0_0.length c0_0, .slice A0_1 l0_1.length c0_1, .slice A0_2 l0_2.length c0_2, .int .i64 a0_3] 26 (0, 0)) (bO BK664) hg (Kd.R_ne HO730.out BK664.out (by decide))); have n1_ := Aside0.mk (Kd.R_over' (rO HO670) (Kd.R_typed (rO HO730)) (by decide) hg); have n2_ := Aside0.mk (blk_grown (g := gb676) (o := .cells #[.slice A0_0 l0_0.length c0_0, .slice A0_1 l0_1.length c0_1, .slice A0_2 l0_2.length c0_2, .int .i64 a0_3] 26 (0, 0)) (bO BK676) hg (Kd.R_ne HO730.out BK676.out (by decide))); have n3_ := Aside0.mk (blk_grown (g := gb677) (o := .cells #[.slice A0_0 l0_0.length c0_0, .slice A0_1 l0_1.length c0_1, .slice A0_2 y721.length c0_2, .int .i64 a0_3] 26 (0, 0)) (bO BK677) hg (Kd.R_ne HO730.out BK677.out (by decide))); have n4_ := Aside0.mk (blk_grown (g := gb678) (o := .cells #[.slice A0_0 l0_0.length c0_0, .slice A0_1 l0_1.length c0_1, .slice A0_2 l0_2.length c0_2, .int .i64 a0_3] 26 (0, 0)) (bO BK678) hg (Kd.R_ne HO730.out BK678.out (by decide))); have n5_ := Aside0.mk (hb); have n6_ := Aside0.mk (ho); clear BK664; clear HO670; clear BK676; clear BK677; clear BK678; clear HB; clear HO730; have BK664 := n0_; have HO670 := n1_; have BK676 := n2_; have BK677 := n3_; have BK678 := n4_; have HB := n5_; have HO733 := n6_; clear n0_ n1_ n2_ n3_ n4_ n5_ n6_; clear ho hb hg hat; obtain ⟨Ao304, co304, eo304⟩ := Kd.R_slice HO733.out; subst eo304; have hnb305 := NB678_676.out; have hnc305 := NB676_678.out; have hcz306_0 : w303.cell? ⟨gb678, 0, none⟩ = some (.slice A0_0 l0_0.length c0_0) := (blk_cell BK678.out 0).trans rfl; have hcz306_1 : w303.cell? ⟨gb678, 1, none⟩ = some (.slice A0_1 l0_1.length c0_1) := (blk_cell BK678.out 1).trans rfl; have hcz306_2 : w303.cell? ⟨gb678, 2, none⟩ = some (.slice A0_2 l0_2.length c0_2) := (blk_cell BK678.out 2).trans rfl; have hcz306_3 : w303.cell? ⟨gb678, 3, none⟩ = some (.int .i64 a0_3) := (blk_cell BK678.out 3).trans rfl; have hfz306_0 := blk_frozen BK678.out 0; have hfz306_1 := blk_frozen BK678.out 1; have hfz306_2 := blk_frozen BK678.out 2; have hfz306_3 := blk_frozen BK678.out 3; have hcz307_0 : w303.cell? ⟨gb676, 0, none⟩ = some (.slice A0_0 l0_0.length c0_0) := (blk_cell BK676.out 0).trans rfl; have hcz307_1 : w303.cell? ⟨gb676, 1, none⟩ = some (.slice A0_1 l0_1.length c0_1) := (blk_cell BK676.out 1).trans rfl; have hcz307_2 : w303.cell? ⟨gb676, 2, none⟩ = some (.slice A0_2 l0_2.length c0_2) := (blk_cell BK676.out 2).trans rfl; have hcz307_3 : w303.cell? ⟨gb676, 3, none⟩ = some (.int .i64 a0_3) := (blk_cell BK676.out 3).trans rfl; have hfz307_0 := blk_frozen BK676.out 0; have hfz307_1 := blk_frozen BK676.out 1; have hfz307_2 := blk_frozen BK676.out 2; have hfz307_3 := blk_frozen BK676.out 3) | ((with_reducible refine gate_callee (f := 25) rfl ?_); refine goesL_ (some 72) rfl rfl Try.func25 (by kernel_rfl) rfl #[.agg #[.slice A0_0 l0_0.length c0_0, .slice A0_1 l0_1.length c0_1, .slice A0_2 l0_2.length c0_2, .int .i64 a0_3], .int .i64 t674] rfl (by (try simp only [List.map_toArray, List.map_cons, List.map_nil]); first | done | rfl | (simp only [List.length_drop, List.length_take]; rfl)) ?_; (with_reducible refine (dancestudiolaw50_sooner.calls k _ _ l0_0 _ _ l0_1 _ _ l0_2 a0_3 t674 true _ ?side1 ?side2 ?side3 ?side4 ?side5 ?side6 ?sidem_ A256.out).mono ?_); (case sidem_ => exact Mx.below HMX_.out (hO HB)); (case side1 => exact Kd.C_below HR0_0.out (hO HB)); (case side2 => exact HC0_0.out); (case side3 => exact Kd.C_below HR0_1.out (hO HB)); (case side4 => exact HC0_1.out); (case side5 => exact Kd.C_below HR0_2.out (hO HB)); (case side6 => exact HC0_2.out); rintro e w308 ⟨rfl, hb⟩; refine ⟨_, rfl, ?_⟩; have n0_ := Aside0.mk (Kd.R_below (by (with_reducible repeat (first | apply Kd.R_alloc | apply Kd.R_drewN | apply Kd.R_drew)); exact (Kd.R_mono (Kd.R_far (p := ⟨gb678, 1, none⟩) (Kd.R_types HO670.out BK678.out (by decide)) (fun _ hk => hk.2) (.slice Ao304 y731.length co304)) (fun _ h_ => h_.1))) hb); have n1_ := Aside0.mk (Kd.R_below (by (with_reducible repeat (first | apply Kd.R_alloc | apply Kd.R_drewN | apply Kd.R_drew)); exact (Kd.R_mono (Kd.R_far (p := ⟨gb678, 1, none⟩) (Kd.R_types HO733.out BK678.out (by decide)) (fun _ hk => hk.2) (.slice Ao304 y731.length co304)) (fun _ h_ => h_.1))) hb); have n2_ := Aside0.mk (blk_below (g := gb664) (o := .cells #[.slice A0_0 l0_0.length c0_0, .slice A0_1 l0_1.length c0_1, .slice A0_2 l0_2.length c0_2, .int .i64 a0_3] 26 (0, 0)) (blk_far (bO BK664) NB664_678.out _) hb); have n3_ := Aside0.mk (blk_below (g := gb676) (o := .cells #[.slice A0_0 l0_0.length c0_0, .slice A0_1 l0_1.length c0_1, .slice A0_2 l0_2.length c0_2, .int .i64 a0_3] 26 (0, 0)) (blk_far (bO BK676) NB676_678.out _) hb); have n4_ := Aside0.mk (blk_below (g := gb677) (o := .cells #[.slice A0_0 l0_0.length c0_0, .slice A0_1 l0_1.length c0_1, .slice A0_2 y721.length c0_2, .int .i64 a0_3] 26 (0, 0)) (blk_far (bO BK677) NB677_678.out _) hb); have n5_ := Aside0.mk (blk_below (g := gb678) (o := .cells #[.slice A0_0 l0_0.length c0_0, .slice Ao304 y731.length co304, .slice A0_2 l0_2.length c0_2, .int .i64 a0_3] 26 (0, 0)) (by (with_reducible repeat (first | refine blk_drewN ?_ _ | refine blk_drew ?_ | refine blk_alloc ?_ _)); refine blk_put (cs := #[.slice A0_0 l0_0.length c0_0, .slice A0_1 l0_1.length c0_1, .slice A0_2 l0_2.length c0_2, .int .i64 a0_3]) ?_ 1 _ rfl; (with_reducible repeat (first | refine blk_drewN ?_ _ | refine blk_drew ?_ | refine blk_alloc ?_ _)); exact BK678.out) hb); have n6_ := Aside0.mk (below_step (hO HB) hb); clear HO670; clear HO733; clear BK664; clear BK676; clear BK677; clear BK678; clear HB; have HO670 := n0_; have HO733 := n1_; have BK664 := n2_; have BK676 := n3_; have BK677 := n4_; have BK678 := n5_; have HB := n6_; clear n0_ n1_ n2_ n3_ n4_ n5_ n6_; (try clear hb); (try clear hb2); (try clear hk); (try clear hi); have hcz309_0 : w308.cell? ⟨gb677, 0, none⟩ = some (.slice A0_0 l0_0.length c0_0) := (blk_cell BK677.out 0).trans rfl; have hcz309_1 : w308.cell? ⟨gb677, 1, none⟩ = some (.slice A0_1 l0_1.length c0_1) := (blk_cell BK677.out 1).trans rfl; have hcz309_2 : w308.cell? ⟨gb677, 2, none⟩ = some (.slice A0_2 y721.length c0_2) := (blk_cell BK677.out 2).trans rfl; have hcz309_3 : w308.cell? ⟨gb677, 3, none⟩ = some (.int .i64 a0_3) := (blk_cell BK677.out 3).trans rfl; have hfz309_0 := blk_frozen BK677.out 0; have hfz309_1 := blk_frozen BK677.out 1; have hfz309_2 := blk_frozen BK677.out 2; have hfz309_3 := blk_frozen BK677.out 3) | (go_at_call 25; (with_reducible refine (dancestudiolaw50_sooner.calls k _ _ l0_0 _ _ l0_1 _ _ y721 a0_3 t674 true _ ?side1 ?side2 ?side3 ?side4 ?side5 ?side6 ?sidem_ A258.out).mono ?_); (case sidem_ => exact Mx.below HMX_.out (hO HB)); (case side1 => exact Kd.C_below HR0_0.out (hO HB)); (case side2 => exact HC0_0.out); (case side3 => exact Kd.C_below HR0_1.out (hO HB)); (case side4 => exact HC0_1.out); (case side5 => repeat (first | exact (Kd.C_below HR724.out HB.out) | (with_reducible refine Kd.C_alloc ?_ _) | (with_reducible refine Kd.C_drewN ?_ _) | (with_reducible refine Kd.C_drew ?_))); (case side6 => exact HC724.out); rintro e w310 ⟨rfl, hb⟩; have n0_ := Aside0.mk (Kd.R_below (rO HO670) hb); have n1_ := Aside0.mk (Kd.R_below (rO HO733) hb); have n2_ := bbO BK664 hb; have n3_ := bbO BK676 hb; have n4_ := bbO BK677 hb; have n5_ := bbO BK678 hb; have n6_ := Aside0.mk (below_step (hO HB) hb); clear HO670; clear HO733; clear BK664; clear BK676; clear BK677; clear BK678; clear HB; have HO670 := n0_; have HO733 := n1_; have BK664 := n2_; have BK676 := n3_; have BK677 := n4_; have BK678 := n5_; have HB := n6_; clear n0_ n1_ n2_ n3_ n4_ n5_ n6_; (try clear hb); (try clear hb2); (try clear hk); (try clear hi); have hcz311_0 : w310.cell? ⟨gb678, 0, none⟩ = some (.slice A0_0 l0_0.length c0_0) := (blk_cell BK678.out 0).trans rfl; have hcz311_1 : w310.cell? ⟨gb678, 1, none⟩ = some (.slice Ao304 y731.length co304) := (blk_cell BK678.out 1).trans rfl; have hcz311_2 : w310.cell? ⟨gb678, 2, none⟩ = some (.slice A0_2 l0_2.length c0_2) := (blk_cell BK678.out 2).trans rfl; have hcz311_3 : w310.cell? ⟨gb678, 3, none⟩ = some (.int .i64 a0_3) := (blk_cell BK678.out 3).trans rfl; have hfz311_0 := blk_frozen BK678.out 0; have hfz311_1 := blk_frozen BK678.out 1; have hfz311_2 := blk_frozen BK678.out 2; have hfz311_3 := blk_frozen BK678.out 3) | (go_at_call 25; (with_reducible refine (dancestudiolaw50_sooner.calls k _ _ l0_0 _ _ y731 _ _ l0_2 a0_3 t674 true _ ?side1 ?side2 ?side3 ?side4 ?side5 ?side6 ?sidem_ A260.out).mono ?_); (case sidem_ => exact Mx.below HMX_.out (hO HB)); (case side1 => exact Kd.C_below HR0_0.out (hO HB)); (case side2 => exact HC0_0.out); (case side3 => repeat (first | exact (Kd.R_reads' HO733.out).2.2 | (with_reducible refine Kd.C_alloc ?_ _) | (with_reducible refine Kd.C_drewN ?_ _) | (with_reducible refine Kd.C_drew ?_))); (case side4 => exact (Kd.R_reads' HO733.out).2.1); (case side5 => exact Kd.C_below HR0_2.out (hO HB)); (case side6 => exact HC0_2.out); rintro e w312 ⟨rfl, hb⟩; have n0_ := Aside0.mk (Kd.R_below (rO HO670) hb); have n1_ := Aside0.mk (Kd.R_below (rO HO733) hb); have n2_ := bbO BK664 hb; have n3_ := bbO BK676 hb; have n4_ := bbO BK677 hb; have n5_ := bbO BK678 hb; have n6_ := Aside0.mk (below_step (hO HB) hb); clear HO670; clear HO733; clear BK664; clear BK676; clear BK677; clear BK678; clear HB; have HO670 := n0_; have HO733 := n1_; have BK664 := n2_; have BK676 := n3_; have BK677 := n4_; have BK678 := n5_; have HB := n6_; clear n0_ n1_ n2_ n3_ n4_ n5_ n6_; (try clear hb); (try clear hb2); (try clear hk); (try clear hi)) | (go_at_call 15; (with_reducible refine (dancestudiolaw50_awake.calls k  t737 _ ?sidem_ A262.out).mono ?_); (case sidem_ => exact Mx.below HMX_.out (hO HB)); rintro e w313 ⟨rfl, hb⟩; have n0_ := Aside0.mk (Kd.R_below (rO HO670) hb); have n1_ := Aside0.mk (Kd.R_below (rO HO733) hb); have n2_ := bbO BK664 hb; have n3_ := bbO BK676 hb; have n4_ := bbO BK677 hb; have n5_ := bbO BK678 hb; have n6_ := Aside0.mk (below_step (hO HB) hb); clear HO670; clear HO733; clear BK664; clear BK676; clear BK677; clear BK678; clear HB; have HO670 := n0_; have HO733 := n1_; have BK664 := n2_; have BK676 := n3_; have BK677 := n4_; have BK678 := n5_; have HB := n6_; clear n0_ n1_ n2_ n3_ n4_ n5_ n6_; (try clear hb); (try clear hb2); (try clear hk); (try clear hi)))
              go_ret
              exact ⟨by first | rfl | (simp [errW_none, errW_some] <;> rfl) | (simp only [← hji250]; first | rfl | (simp [errW_none, errW_some] <;> rfl)) | (simp [*, errW_none, errW_some] <;> rfl), by repeat (first | (with_reducible first | exact HB.out | apply below_alloc | apply pw_below_drewN | apply below_drew1 | refine below_set ?_ GE664.out | refine below_set ?_ GE676.out | refine below_set ?_ GE677.out | refine below_set ?_ GE678.out) | exact HB.out)⟩
             ·
              replace c261 := Bool.eq_false_iff.mpr c261
              subst c261
              exact absurd H (by simp)
            ·
             replace c259 := Bool.eq_false_iff.mpr c259
             subst c259
             exact absurd H (by simp)
           ·
            replace c257 := Bool.eq_false_iff.mpr c257
            subst c257
            exact absurd H (by simp)
          ·
           rw [if_neg c255] at H
           exact absurd H (by simp)
         ·
          rw [if_neg c254] at H
          exact absurd H (by simp)
        ·
         rw [if_neg c253] at H
         have c253b0 : decide ((l0_1.length : Int) < 4) = false := decide_eq_false c253
         have c253b1 : decide (l0_1.length < 4) = false := decide_eq_false (by omega)
         clear c253
         replace H := Option.bind_eq_some_iff.mp H
         obtain ⟨t738, A3140, H⟩ := H
         try dsimp only at H
         have A314 := Aside0.mk A3140
         clear A3140
         by_cases c315 : t738 = true
         ·
          subst c315
          rw [if_pos rfl] at H
          have H1 := H
          clear H
          have H := H1
          clear H1
          replace H := Option.bind_eq_some_iff.mp H
          obtain ⟨t739, A3160, H⟩ := H
          replace H : (if t739 = true then ((dancestudiolaw50_sooner.f k l0_0 l0_1 l0_2 a0_3 t674).bind fun t740 => (if t740 = true then ((dancestudiolaw50_awake.f k).bind fun t741 => (some t741)) else (none))) else (none)) = some r := H
          have A316 := Aside0.mk A3160
          clear A3160
          by_cases c317 : t739 = true
          ·
           subst c317
           have H1 : ((dancestudiolaw50_sooner.f k l0_0 l0_1 l0_2 a0_3 t674).bind fun t740 => (if t740 = true then ((dancestudiolaw50_awake.f k).bind fun t741 => (some t741)) else (none))) = some r := by rw [if_pos rfl] at H; exact H
           clear H
           have H := H1
           clear H1
           replace H := Option.bind_eq_some_iff.mp H
           obtain ⟨t740, A3180, H⟩ := H
           replace H : (if t740 = true then ((dancestudiolaw50_awake.f k).bind fun t741 => (some t741)) else (none)) = some r := H
           have A318 := Aside0.mk A3180
           clear A3180
           by_cases c319 : t740 = true
           ·
            subst c319
            have H1 : ((dancestudiolaw50_awake.f k).bind fun t741 => (some t741)) = some r := by rw [if_pos rfl] at H; exact H
            clear H
            have H := H1
            clear H1
            replace H := Option.bind_eq_some_iff.mp H
            obtain ⟨t741, A3200, H⟩ := H
            replace H : (some t741) = some r := H
            have A320 := Aside0.mk A3200
            clear A3200
            obtain rfl := Option.some.inj H
            generalize w944 = w348 at HO670 BK664 BK676 BK677 BK678 HB ⊢
            have hnb349 := NB664_676.out
            have hnc349 := NB676_664.out
            have hnb350 := NB664_677.out
            have hnc350 := NB677_664.out
            have hnb351 := NB664_678.out
            have hnc351 := NB678_664.out
            have hcz352_0 : w348.cell? ⟨gb664, 0, none⟩ = some (.slice A0_0 l0_0.length c0_0) := (blk_cell BK664.out 0).trans rfl
            have hcz352_1 : w348.cell? ⟨gb664, 1, none⟩ = some (.slice A0_1 l0_1.length c0_1) := (blk_cell BK664.out 1).trans rfl
            have hcz352_2 : w348.cell? ⟨gb664, 2, none⟩ = some (.slice A0_2 l0_2.length c0_2) := (blk_cell BK664.out 2).trans rfl
            have hcz352_3 : w348.cell? ⟨gb664, 3, none⟩ = some (.int .i64 a0_3) := (blk_cell BK664.out 3).trans rfl
            have hfz352_0 := blk_frozen BK664.out 0
            have hfz352_1 := blk_frozen BK664.out 1
            have hfz352_2 := blk_frozen BK664.out 2
            have hfz352_3 := blk_frozen BK664.out 3
            have q353 : ((ji250) : Int) ≤ ((l0_2.length : Int) : Int) := of_decide_eq_true (by assumption)
            obtain ⟨i0353, hi0353, _, hsz353, _⟩ := info_parts info59
            have hroom353 : l0_2.length ≤ c0_2 := HC0_2.out
            have hC353 : Kd.C k59 _ A0_2 l0_2.length l0_2 := HR0_2.out
            have hcut353 := cut_to (P := Try.prog) 24 59 .i64 Try.underlying24 hi0353 A0_2 l0_2.length c0_2 (ji250) (of_decide_eq_true (by assumption)) q353 hroom353
            have hr353 := Kd.C_take (m := ((ji250) : Int).toNat) hC353 (by omega)
            have hy353 : y721.length = ((ji250) : Int).toNat := (by rw [Ny721.out, List.length_take]; omega)
            rw [← Ny721.out] at hr353
            rw [← hy353] at hcut353
            have HR724 := Aside0.mk hr353
            have HC724 := Aside0.mk (show y721.length ≤ c0_2 from by omega)
            clear hr353 hC353 hroom353 hi0353 hsz353
            have KY353 := Aside0.mk hy353
            clear hy353
            replace q353 := eq_true q353
            have hnb354 := NB677_676.out
            have hnc354 := NB676_677.out
            have hnb355 := NB677_678.out
            have hnc355 := NB678_677.out
            have hcz356_0 : w348.cell? ⟨gb677, 0, none⟩ = some (.slice A0_0 l0_0.length c0_0) := (blk_cell BK677.out 0).trans rfl
            have hcz356_1 : w348.cell? ⟨gb677, 1, none⟩ = some (.slice A0_1 l0_1.length c0_1) := (blk_cell BK677.out 1).trans rfl
            have hcz356_2 : w348.cell? ⟨gb677, 2, none⟩ = some (.slice A0_2 l0_2.length c0_2) := (blk_cell BK677.out 2).trans rfl
            have hcz356_3 : w348.cell? ⟨gb677, 3, none⟩ = some (.int .i64 a0_3) := (blk_cell BK677.out 3).trans rfl
            have hfz356_0 := blk_frozen BK677.out 0
            have hfz356_1 := blk_frozen BK677.out 1
            have hfz356_2 := blk_frozen BK677.out 2
            have hfz356_3 := blk_frozen BK677.out 3
            have hnb357 := NB676_678.out
            have hnc357 := NB678_676.out
            have hcz358_0 : w348.cell? ⟨gb676, 0, none⟩ = some (.slice A0_0 l0_0.length c0_0) := (blk_cell BK676.out 0).trans rfl
            have hcz358_1 : w348.cell? ⟨gb676, 1, none⟩ = some (.slice A0_1 l0_1.length c0_1) := (blk_cell BK676.out 1).trans rfl
            have hcz358_2 : w348.cell? ⟨gb676, 2, none⟩ = some (.slice A0_2 l0_2.length c0_2) := (blk_cell BK676.out 2).trans rfl
            have hcz358_3 : w348.cell? ⟨gb676, 3, none⟩ = some (.int .i64 a0_3) := (blk_cell BK676.out 3).trans rfl
            have hfz358_0 := blk_frozen BK676.out 0
            have hfz358_1 := blk_frozen BK676.out 1
            have hfz358_2 := blk_frozen BK676.out 2
            have hfz358_3 := blk_frozen BK676.out 3
            try go_wp2_with (first | ((with_reducible refine gate_callee (f := 25) rfl ?_); refine goesL_ (some 72) rfl rfl Try.func25 (by kernel_rfl) rfl #[.agg #[.slice A0_0 l0_0.length c0_0, .slice A0_1 l0_1.length c0_1, .slice A0_2 l0_2.length c0_2, .int .i64 a0_3], .int .i64 t674] rfl (by (try simp only [List.map_toArray, List.map_cons, List.map_nil]); first | done | rfl | (simp only [List.length_drop, List.length_take]; rfl)) ?_; (with_reducible refine (dancestudiolaw50_sooner.calls k _ _ l0_0 _ _ l0_1 _ _ l0_2 a0_3 t674 true _ ?side1 ?side2 ?side3 ?side4 ?side5 ?side6 ?sidem_ A314.out).mono ?_); (case sidem_ => exact Mx.below HMX_.out (hO HB)); (case side1 => exact Kd.C_below HR0_0.out (hO HB)); (case side2 => exact HC0_0.out); (case side3 => exact Kd.C_below HR0_1.out (hO HB)); (case side4 => exact HC0_1.out); (case side5 => exact Kd.C_below HR0_2.out (hO HB)); (case side6 => exact HC0_2.out); rintro e w359 ⟨rfl, hb⟩; refine ⟨_, rfl, ?_⟩; have n0_ := Aside0.mk (Kd.R_below (by (with_reducible repeat (first | apply Kd.R_alloc | apply Kd.R_drewN | apply Kd.R_drew)); exact (Kd.R_mono (Kd.R_far (p := ⟨gb677, 2, none⟩) (Kd.R_types HO670.out BK677.out (by decide)) (fun _ hk => hk.2) (.slice A0_2 y721.length c0_2)) (fun _ h_ => h_.1))) hb); have n1_ := Aside0.mk (blk_below (g := gb664) (o := .cells #[.slice A0_0 l0_0.length c0_0, .slice A0_1 l0_1.length c0_1, .slice A0_2 l0_2.length c0_2, .int .i64 a0_3] 26 (0, 0)) (blk_far (bO BK664) NB664_677.out _) hb); have n2_ := Aside0.mk (blk_below (g := gb676) (o := .cells #[.slice A0_0 l0_0.length c0_0, .slice A0_1 l0_1.length c0_1, .slice A0_2 l0_2.length c0_2, .int .i64 a0_3] 26 (0, 0)) (blk_far (bO BK676) NB676_677.out _) hb); have n3_ := Aside0.mk (blk_below (g := gb677) (o := .cells #[.slice A0_0 l0_0.length c0_0, .slice A0_1 l0_1.length c0_1, .slice A0_2 y721.length c0_2, .int .i64 a0_3] 26 (0, 0)) (by (with_reducible repeat (first | refine blk_drewN ?_ _ | refine blk_drew ?_ | refine blk_alloc ?_ _)); refine blk_put (cs := #[.slice A0_0 l0_0.length c0_0, .slice A0_1 l0_1.length c0_1, .slice A0_2 l0_2.length c0_2, .int .i64 a0_3]) ?_ 2 _ rfl; (with_reducible repeat (first | refine blk_drewN ?_ _ | refine blk_drew ?_ | refine blk_alloc ?_ _)); exact BK677.out) hb); have n4_ := Aside0.mk (blk_below (g := gb678) (o := .cells #[.slice A0_0 l0_0.length c0_0, .slice A0_1 l0_1.length c0_1, .slice A0_2 l0_2.length c0_2, .int .i64 a0_3] 26 (0, 0)) (blk_far (bO BK678) NB678_677.out _) hb); have n5_ := Aside0.mk (below_step (hO HB) hb); clear HO670; clear BK664; clear BK676; clear BK677; clear BK678; clear HB; have HO670 := n0_; have BK664 := n1_; have BK676 := n2_; have BK677 := n3_; have BK678 := n4_; have HB := n5_; clear n0_ n1_ n2_ n3_ n4_ n5_; (try clear hb); (try clear hb2); (try clear hk); (try clear hi); have hcz360_0 : w359.cell? ⟨gb677, 0, none⟩ = some (.slice A0_0 l0_0.length c0_0) := (blk_cell BK677.out 0).trans rfl; have hcz360_1 : w359.cell? ⟨gb677, 1, none⟩ = some (.slice A0_1 l0_1.length c0_1) := (blk_cell BK677.out 1).trans rfl; have hcz360_2 : w359.cell? ⟨gb677, 2, none⟩ = some (.slice A0_2 y721.length c0_2) := (blk_cell BK677.out 2).trans rfl; have hcz360_3 : w359.cell? ⟨gb677, 3, none⟩ = some (.int .i64 a0_3) := (blk_cell BK677.out 3).trans rfl; have hfz360_0 := blk_frozen BK677.out 0; have hfz360_1 := blk_frozen BK677.out 1; have hfz360_2 := blk_frozen BK677.out 2; have hfz360_3 := blk_frozen BK677.out 3) | (go_at_call 25; (with_reducible refine (dancestudiolaw50_sooner.calls k _ _ l0_0 _ _ l0_1 _ _ y721 a0_3 t674 true _ ?side1 ?side2 ?side3 ?side4 ?side5 ?side6 ?sidem_ A316.out).mono ?_); (case sidem_ => exact Mx.below HMX_.out (hO HB)); (case side1 => exact Kd.C_below HR0_0.out (hO HB)); (case side2 => exact HC0_0.out); (case side3 => exact Kd.C_below HR0_1.out (hO HB)); (case side4 => exact HC0_1.out); (case side5 => repeat (first | exact (Kd.C_below HR724.out HB.out) | (with_reducible refine Kd.C_alloc ?_ _) | (with_reducible refine Kd.C_drewN ?_ _) | (with_reducible refine Kd.C_drew ?_))); (case side6 => exact HC724.out); rintro e w361 ⟨rfl, hb⟩; have n0_ := Aside0.mk (Kd.R_below (rO HO670) hb); have n1_ := bbO BK664 hb; have n2_ := bbO BK676 hb; have n3_ := bbO BK677 hb; have n4_ := bbO BK678 hb; have n5_ := Aside0.mk (below_step (hO HB) hb); clear HO670; clear BK664; clear BK676; clear BK677; clear BK678; clear HB; have HO670 := n0_; have BK664 := n1_; have BK676 := n2_; have BK677 := n3_; have BK678 := n4_; have HB := n5_; clear n0_ n1_ n2_ n3_ n4_ n5_; (try clear hb); (try clear hb2); (try clear hk); (try clear hi); have hcz362_0 : w361.cell? ⟨gb678, 0, none⟩ = some (.slice A0_0 l0_0.length c0_0) := (blk_cell BK678.out 0).trans rfl; have hcz362_1 : w361.cell? ⟨gb678, 1, none⟩ = some (.slice A0_1 l0_1.length c0_1) := (blk_cell BK678.out 1).trans rfl; have hcz362_2 : w361.cell? ⟨gb678, 2, none⟩ = some (.slice A0_2 l0_2.length c0_2) := (blk_cell BK678.out 2).trans rfl; have hcz362_3 : w361.cell? ⟨gb678, 3, none⟩ = some (.int .i64 a0_3) := (blk_cell BK678.out 3).trans rfl; have hfz362_0 := blk_frozen BK678.out 0; have hfz362_1 := blk_frozen BK678.out 1; have hfz362_2 := blk_frozen BK678.out 2; have hfz362_3 := blk_frozen BK678.out 3) | (go_at_call 25; (with_reducible refine (dancestudiolaw50_sooner.calls k _ _ l0_0 _ _ l0_1 _ _ l0_2 a0_3 t674 true _ ?side1 ?side2 ?side3 ?side4 ?side5 ?side6 ?sidem_ A318.out).mono ?_); (case sidem_ => exact Mx.below HMX_.out (hO HB)); (case side1 => exact Kd.C_below HR0_0.out (hO HB)); (case side2 => exact HC0_0.out); (case side3 => exact Kd.C_below HR0_1.out (hO HB)); (case side4 => exact HC0_1.out); (case side5 => exact Kd.C_below HR0_2.out (hO HB)); (case side6 => exact HC0_2.out); rintro e w363 ⟨rfl, hb⟩; have n0_ := Aside0.mk (Kd.R_below (rO HO670) hb); have n1_ := bbO BK664 hb; have n2_ := bbO BK676 hb; have n3_ := bbO BK677 hb; have n4_ := bbO BK678 hb; have n5_ := Aside0.mk (below_step (hO HB) hb); clear HO670; clear BK664; clear BK676; clear BK677; clear BK678; clear HB; have HO670 := n0_; have BK664 := n1_; have BK676 := n2_; have BK677 := n3_; have BK678 := n4_; have HB := n5_; clear n0_ n1_ n2_ n3_ n4_ n5_; (try clear hb); (try clear hb2); (try clear hk); (try clear hi)) | (go_at_call 15; (with_reducible refine (dancestudiolaw50_awake.calls k  t741 _ ?sidem_ A320.out).mono ?_); (case sidem_ => exact Mx.below HMX_.out (hO HB)); rintro e w364 ⟨rfl, hb⟩; have n0_ := Aside0.mk (Kd.R_below (rO HO670) hb); have n1_ := bbO BK664 hb; have n2_ := bbO BK676 hb; have n3_ := bbO BK677 hb; have n4_ := bbO BK678 hb; have n5_ := Aside0.mk (below_step (hO HB) hb); clear HO670; clear BK664; clear BK676; clear BK677; clear BK678; clear HB; have HO670 := n0_; have BK664 := n1_; have BK676 := n2_; have BK677 := n3_; have BK678 := n4_; have HB := n5_; clear n0_ n1_ n2_ n3_ n4_ n5_; (try clear hb); (try clear hb2); (try clear hk); (try clear hi)))
            go_ret
            exact ⟨by first | rfl | (simp [errW_none, errW_some] <;> rfl) | (simp only [← hji250]; first | rfl | (simp [errW_none, errW_some] <;> rfl)) | (simp [*, errW_none, errW_some] <;> rfl), by repeat (first | (with_reducible first | exact HB.out | apply below_alloc | apply pw_below_drewN | apply below_drew1 | refine below_set ?_ GE664.out | refine below_set ?_ GE676.out | refine below_set ?_ GE677.out | refine below_set ?_ GE678.out) | exact HB.out)⟩
           ·
            replace c319 := Bool.eq_false_iff.mpr c319
            subst c319
            exact absurd H (by simp)
          ·
           replace c317 := Bool.eq_false_iff.mpr c317
           subst c317
           exact absurd H (by simp)
         ·
          replace c315 := Bool.eq_false_iff.mpr c315
          subst c315
          exact absurd H (by simp)
       ·
        rw [if_neg c252] at H
        exact absurd H (by simp)
      ·
       rw [if_neg c251] at H
       exact absurd H (by simp)
     ·
      rw [if_neg c249] at H
      have c249b0 : decide (0 < (l0_2.length : Int)) = false := decide_eq_false c249
      have c249b1 : decide (0 < l0_2.length) = false := decide_eq_false (by omega)
      clear c249
      by_cases c365 : (l0_1.length : Int) < 4
      ·
       rw [if_pos c365] at H
       have c365b0 : decide ((l0_1.length : Int) < 4) = true := decide_eq_true c365
       have c365b1 : decide (l0_1.length < 4) = true := decide_eq_true (by omega)
       clear c365
       obtain ⟨y742, hy742⟩ : ∃ y_ : List (S55), y_ = (([] : List (S55))) := ⟨_, rfl⟩
       replace H : (if y742.length + l0_1.length < 17592186044416 then ((some (y742 ++ l0_1 : List (S55))).bind fun y745 => (if y745.length < 17592186044416 then ((dancestudiolaw50_sooner.f k l0_0 l0_1 l0_2 a0_3 t674).bind fun t751 => (if t751 = true then ((dancestudiolaw50_sooner.f k l0_0 l0_1 l0_2 a0_3 t674).bind fun t752 => (if t752 = true then ((dancestudiolaw50_sooner.f k l0_0 (y745 ++ [(⟨1⟩ : S55)]) l0_2 a0_3 t674).bind fun t753 => (if t753 = true then ((dancestudiolaw50_awake.f k).bind fun t754 => (some t754)) else (none))) else (none))) else (none))) else (none))) else (none)) = some r := by first | (rw [hy742]; with_reducible exact H) | (have H2_ := (Option.bind_some _ _).symm.trans H; rw [hy742]; with_reducible exact H2_) | (have H2_ := (Option.bind_some _ _).symm.trans H; with_reducible exact H2_) | with_reducible exact H | (rw [hy742]; exact H) | exact H
       have Ny742 := Aside0.mk hy742
       clear hy742
       by_cases c366 : y742.length + l0_1.length < 17592186044416
       ·
        rw [if_pos c366] at H
        have LMc366 := Aside0.mk c366
        clear c366
        obtain ⟨y745, hy745⟩ : ∃ y_ : List (S55), y_ = (y742 ++ l0_1) := ⟨_, rfl⟩
        replace H : (if y745.length < 17592186044416 then ((dancestudiolaw50_sooner.f k l0_0 l0_1 l0_2 a0_3 t674).bind fun t751 => (if t751 = true then ((dancestudiolaw50_sooner.f k l0_0 l0_1 l0_2 a0_3 t674).bind fun t752 => (if t752 = true then ((dancestudiolaw50_sooner.f k l0_0 (y745 ++ [(⟨1⟩ : S55)]) l0_2 a0_3 t674).bind fun t753 => (if t753 = true then ((dancestudiolaw50_awake.f k).bind fun t754 => (some t754)) else (none))) else (none))) else (none))) else (none)) = some r := by first | (rw [hy745]; with_reducible exact H) | (have H2_ := (Option.bind_some _ _).symm.trans H; rw [hy745]; with_reducible exact H2_) | (have H2_ := (Option.bind_some _ _).symm.trans H; with_reducible exact H2_) | with_reducible exact H | (rw [hy745]; exact H) | exact H
        have Ny745 := Aside0.mk hy745
        clear hy745
        by_cases c367 : y745.length < 17592186044416
        ·
         rw [if_pos c367] at H
         have LMc367 := Aside0.mk c367
         clear c367
         obtain ⟨y748, hy748⟩ : ∃ y_ : List (S55), y_ = (y745 ++ [(⟨1⟩ : S55)]) := ⟨_, rfl⟩
         replace H : ((dancestudiolaw50_sooner.f k l0_0 l0_1 l0_2 a0_3 t674).bind fun t751 => (if t751 = true then ((dancestudiolaw50_sooner.f k l0_0 l0_1 l0_2 a0_3 t674).bind fun t752 => (if t752 = true then ((dancestudiolaw50_sooner.f k l0_0 y748 l0_2 a0_3 t674).bind fun t753 => (if t753 = true then ((dancestudiolaw50_awake.f k).bind fun t754 => (some t754)) else (none))) else (none))) else (none))) = some r := by first | (rw [hy748]; with_reducible exact H) | (have H2_ := (Option.bind_some _ _).symm.trans H; rw [hy748]; with_reducible exact H2_) | (have H2_ := (Option.bind_some _ _).symm.trans H; with_reducible exact H2_) | with_reducible exact H | (rw [hy748]; exact H) | exact H
         have Ny748 := Aside0.mk hy748
         clear hy748
         replace H := Option.bind_eq_some_iff.mp H
         obtain ⟨t751, A3680, H⟩ := H
         try dsimp only at H
         have A368 := Aside0.mk A3680
         clear A3680
         by_cases c369 : t751 = true
         ·
          subst c369
          rw [if_pos rfl] at H
          have H1 := H
          clear H
          have H := H1
          clear H1
          replace H := Option.bind_eq_some_iff.mp H
          obtain ⟨t752, A3700, H⟩ := H
          replace H : (if t752 = true then ((dancestudiolaw50_sooner.f k l0_0 y748 l0_2 a0_3 t674).bind fun t753 => (if t753 = true then ((dancestudiolaw50_awake.f k).bind fun t754 => (some t754)) else (none))) else (none)) = some r := H
          have A370 := Aside0.mk A3700
          clear A3700
          by_cases c371 : t752 = true
          ·
           subst c371
           have H1 : ((dancestudiolaw50_sooner.f k l0_0 y748 l0_2 a0_3 t674).bind fun t753 => (if t753 = true then ((dancestudiolaw50_awake.f k).bind fun t754 => (some t754)) else (none))) = some r := by rw [if_pos rfl] at H; exact H
           clear H
           have H := H1
           clear H1
           replace H := Option.bind_eq_some_iff.mp H
           obtain ⟨t753, A3720, H⟩ := H
           replace H : (if t753 = true then ((dancestudiolaw50_awake.f k).bind fun t754 => (some t754)) else (none)) = some r := H
           have A372 := Aside0.mk A3720
           clear A3720
           by_cases c373 : t753 = true
           ·
            subst c373
            have H1 : ((dancestudiolaw50_awake.f k).bind fun t754 => (some t754)) = some r := by rw [if_pos rfl] at H; exact H
            clear H
            have H := H1
            clear H1
            replace H := Option.bind_eq_some_iff.mp H
            obtain ⟨t754, A3740, H⟩ := H
            replace H : (some t754) = some r := H
            have A374 := Aside0.mk A3740
            clear A3740
            obtain rfl := Option.some.inj H
            have hnb402 := NB664_676.out
            have hnc402 := NB676_664.out
            have hnb403 := NB664_677.out
            have hnc403 := NB677_664.out
            have hnb404 := NB664_678.out
            have hnc404 := NB678_664.out
            have hcz405_0 : w944.cell? ⟨gb664, 0, none⟩ = some (.slice A0_0 l0_0.length c0_0) := (blk_cell BK664.out 0).trans rfl
            have hcz405_1 : w944.cell? ⟨gb664, 1, none⟩ = some (.slice A0_1 l0_1.length c0_1) := (blk_cell BK664.out 1).trans rfl
            have hcz405_2 : w944.cell? ⟨gb664, 2, none⟩ = some (.slice A0_2 l0_2.length c0_2) := (blk_cell BK664.out 2).trans rfl
            have hcz405_3 : w944.cell? ⟨gb664, 3, none⟩ = some (.int .i64 a0_3) := (blk_cell BK664.out 3).trans rfl
            have hfz405_0 := blk_frozen BK664.out 0
            have hfz405_1 := blk_frozen BK664.out 1
            have hfz405_2 := blk_frozen BK664.out 2
            have hfz405_3 := blk_frozen BK664.out 3
            try go_wp2_with (first | ((with_reducible refine gate_dst (N := 62) rfl ?_); refine Kd.R_lit k55 _ 55 ?hg (N := 62) ?hd (xs := ([] : List (S55))) (inner := []) (ok := fun _ => True) (okp := fun _ => True) ?hr ?hp (fun _ hk => hk) trivial (Below.refl _ _) (Nat.le_refl _) (by simp) ?_; (case hd => rfl); (case hg => rfl); (case hr => first | (go_simp; done) | (go_simp; rfl)); (case hp => exact (Reps.none _ _)); intro v743 w406 ho407 hb hg_ hnew_; clear hg_ hnew_; (first | rw [← Ny742.out] at ho407 | (simp only [Int.reduceToNat] at ho407; rw [← Ny742.out] at ho407)); have n0_ := Aside0.mk (Kd.R_below (rO HO670) hb); have n1_ := Aside0.mk (Kd.R_lower ho407 (below_size (hO HB))); have n2_ := bbO BK664 hb; have n3_ := bbO BK676 hb; have n4_ := bbO BK677 hb; have n5_ := bbO BK678 hb; have n6_ := Aside0.mk (below_step (hO HB) hb); clear HO670; clear BK664; clear BK676; clear BK677; clear BK678; clear HB; have HO670 := n0_; have HO744 := n1_; have BK664 := n2_; have BK676 := n3_; have BK677 := n4_; have BK678 := n5_; have HB := n6_; clear n0_ n1_ n2_ n3_ n4_ n5_ n6_; clear hb ho407; have hcz408_0 : w406.cell? ⟨gb664, 0, none⟩ = some (.slice A0_0 l0_0.length c0_0) := (blk_cell BK664.out 0).trans rfl; have hcz408_1 : w406.cell? ⟨gb664, 1, none⟩ = some (.slice A0_1 l0_1.length c0_1) := (blk_cell BK664.out 1).trans rfl; have hcz408_2 : w406.cell? ⟨gb664, 2, none⟩ = some (.slice A0_2 l0_2.length c0_2) := (blk_cell BK664.out 2).trans rfl; have hcz408_3 : w406.cell? ⟨gb664, 3, none⟩ = some (.int .i64 a0_3) := (blk_cell BK664.out 3).trans rfl; have hfz408_0 := blk_frozen BK664.out 0; have hfz408_1 := blk_frozen BK664.out 1; have hfz408_2 := blk_frozen BK664.out 2; have hfz408_3 := blk_frozen BK664.out 3) | ((with_reducible refine gate_builtin (b := .append) (xs := #[.tmp 62, .tmp 64]) rfl ?_); at_builtin; refine Kd.R_append_rows k55 (w0 := w) w.heap.size rfl (.tmp 62) (.tmp 64) 23 55 (.agg #[(.int .i64 0)]) 8 rfl Try.underlying23 info55 rfl (by decide) (by omega) v743 y742 l0_1 _ _ _ (fun _ => True) (fun _ => False) rfl rfl ?aO ?aR (fun _ _ h => h) (fun _ h => h.elim) ?aF ?aB ?aS ?aL ?_; (case aR => exact Kd.C_below HR0_1.out (hO HB)); (case aB => exact (hO HB)); (case aF => exact (fun _ _ => trivial)); (case aO => exact (rO HO744)); (case aS => exact (below_size (hO HB))); (case aL => have := LMc366.out; omega); intro v746 w409 ho hb hg hat; rw [← Ny745.out] at ho; have n0_ := Aside0.mk (blk_grown (g := gb664) (o := .cells #[.slice A0_0 l0_0.length c0_0, .slice A0_1 l0_1.length c0_1, .slice A0_2 l0_2.length c0_2, .int .i64 a0_3] 26 (0, 0)) (bO BK664) hg (Kd.R_ne HO744.out BK664.out (by decide))); have n1_ := Aside0.mk (Kd.R_over' (rO HO670) (Kd.R_typed (rO HO744)) (by decide) hg); have n2_ := Aside0.mk (blk_grown (g := gb676) (o := .cells #[.slice A0_0 l0_0.length c0_0, .slice A0_1 l0_1.length c0_1, .slice A0_2 l0_2.length c0_2, .int .i64 a0_3] 26 (0, 0)) (bO BK676) hg (Kd.R_ne HO744.out BK676.out (by decide))); have n3_ := Aside0.mk (blk_grown (g := gb677) (o := .cells #[.slice A0_0 l0_0.length c0_0, .slice A0_1 l0_1.length c0_1, .slice A0_2 l0_2.length c0_2, .int .i64 a0_3] 26 (0, 0)) (bO BK677) hg (Kd.R_ne HO744.out BK677.out (by decide))); have n4_ := Aside0.mk (blk_grown (g := gb678) (o := .cells #[.slice A0_0 l0_0.length c0_0, .slice A0_1 l0_1.length c0_1, .slice A0_2 l0_2.length c0_2, .int .i64 a0_3] 26 (0, 0)) (bO BK678) hg (Kd.R_ne HO744.out BK678.out (by decide))); have n5_ := Aside0.mk (hb); have n6_ := Aside0.mk (ho); clear BK664; clear HO670; clear BK676; clear BK677; clear BK678; clear HB; clear HO744; have BK664 := n0_; have HO670 := n1_; have BK676 := n2_; have BK677 := n3_; have BK678 := n4_; have HB := n5_; have HO747 := n6_; clear n0_ n1_ n2_ n3_ n4_ n5_ n6_; clear ho hb hg hat) | ((with_reducible refine gate_builtin (b := .append) (xs := #[.tmp 65, .tmp 67]) rfl ?_); at_builtin; refine Kd.R_append k55 (w0 := w) w.heap.size rfl (.tmp 65) (.tmp 67) 23 55 (.agg #[(.int .i64 0)]) 8 rfl Try.underlying23 info55 rfl (by decide) (by omega) v746 y745 (⟨1⟩ : S55) [.int .i64 1] (fun _ => True) (fun _ => False) rfl rfl ?aP (fun _ hk => hk.elim) ?aF ?aO ?aB ?aS ?aL ?_; (case aP => exact k55_mkM _ _ _ (⟨1⟩ : S55)); (case aB => exact (hO HB)); (case aF => exact (fun _ _ => trivial)); (case aO => exact (rO HO747)); (case aS => exact (below_size (hO HB))); (case aL => have := LMc367.out; omega); intro v749 w410 ho hb hg hat; rw [← Ny748.out] at ho; have n0_ := Aside0.mk (blk_grown (g := gb664) (o := .cells #[.slice A0_0 l0_0.length c0_0, .slice A0_1 l0_1.length c0_1, .slice A0_2 l0_2.length c0_2, .int .i64 a0_3] 26 (0, 0)) (bO BK664) hg (Kd.R_ne HO747.out BK664.out (by decide))); have n1_ := Aside0.mk (Kd.R_over' (rO HO670) (Kd.R_typed (rO HO747)) (by decide) hg); have n2_ := Aside0.mk (blk_grown (g := gb676) (o := .cells #[.slice A0_0 l0_0.length c0_0, .slice A0_1 l0_1.length c0_1, .slice A0_2 l0_2.length c0_2, .int .i64 a0_3] 26 (0, 0)) (bO BK676) hg (Kd.R_ne HO747.out BK676.out (by decide))); have n3_ := Aside0.mk (blk_grown (g := gb677) (o := .cells #[.slice A0_0 l0_0.length c0_0, .slice A0_1 l0_1.length c0_1, .slice A0_2 l0_2.length c0_2, .int .i64 a0_3] 26 (0, 0)) (bO BK677) hg (Kd.R_ne HO747.out BK677.out (by decide))); have n4_ := Aside0.mk (blk_grown (g := gb678) (o := .cells #[.slice A0_0 l0_0.length c0_0, .slice A0_1 l0_1.length c0_1, .slice A0_2 l0_2.length c0_2, .int .i64 a0_3] 26 (0, 0)) (bO BK678) hg (Kd.R_ne HO747.out BK678.out (by decide))); have n5_ := Aside0.mk (hb); have n6_ := Aside0.mk (ho); clear BK664; clear HO670; clear BK676; clear BK677; clear BK678; clear HB; clear HO747; have BK664 := n0_; have HO670 := n1_; have BK676 := n2_; have BK677 := n3_; have BK678 := n4_; have HB := n5_; have HO750 := n6_; clear n0_ n1_ n2_ n3_ n4_ n5_ n6_; clear ho hb hg hat; obtain ⟨Ao411, co411, eo411⟩ := Kd.R_slice HO750.out; subst eo411; have hnb412 := NB678_676.out; have hnc412 := NB676_678.out; have hnb413 := NB678_677.out; have hnc413 := NB677_678.out; have hcz414_0 : w410.cell? ⟨gb678, 0, none⟩ = some (.slice A0_0 l0_0.length c0_0) := (blk_cell BK678.out 0).trans rfl; have hcz414_1 : w410.cell? ⟨gb678, 1, none⟩ = some (.slice A0_1 l0_1.length c0_1) := (blk_cell BK678.out 1).trans rfl; have hcz414_2 : w410.cell? ⟨gb678, 2, none⟩ = some (.slice A0_2 l0_2.length c0_2) := (blk_cell BK678.out 2).trans rfl; have hcz414_3 : w410.cell? ⟨gb678, 3, none⟩ = some (.int .i64 a0_3) := (blk_cell BK678.out 3).trans rfl; have hfz414_0 := blk_frozen BK678.out 0; have hfz414_1 := blk_frozen BK678.out 1; have hfz414_2 := blk_frozen BK678.out 2; have hfz414_3 := blk_frozen BK678.out 3; have hnb415 := NB676_677.out; have hnc415 := NB677_676.out; have hcz416_0 : w410.cell? ⟨gb676, 0, none⟩ = some (.slice A0_0 l0_0.length c0_0) := (blk_cell BK676.out 0).trans rfl; have hcz416_1 : w410.cell? ⟨gb676, 1, none⟩ = some (.slice A0_1 l0_1.length c0_1) := (blk_cell BK676.out 1).trans rfl; have hcz416_2 : w410.cell? ⟨gb676, 2, none⟩ = some (.slice A0_2 l0_2.length c0_2) := (blk_cell BK676.out 2).trans rfl; have hcz416_3 : w410.cell? ⟨gb676, 3, none⟩ = some (.int .i64 a0_3) := (blk_cell BK676.out 3).trans rfl; have hfz416_0 := blk_frozen BK676.out 0; have hfz416_1 := blk_frozen BK676.out 1; have hfz416_2 := blk_frozen BK676.out 2; have hfz416_3 := blk_frozen BK676.out 3) | ((with_reducible refine gate_callee (f := 25) rfl ?_); refine goesL_ (some 72) rfl rfl Try.func25 (by kernel_rfl) rfl #[.agg #[.slice A0_0 l0_0.length c0_0, .slice A0_1 l0_1.length c0_1, .slice A0_2 l0_2.length c0_2, .int .i64 a0_3], .int .i64 t674] rfl (by (try simp only [List.map_toArray, List.map_cons, List.map_nil]); first | done | rfl | (simp only [List.length_drop, List.length_take]; rfl)) ?_; (with_reducible refine (dancestudiolaw50_sooner.calls k _ _ l0_0 _ _ l0_1 _ _ l0_2 a0_3 t674 true _ ?side1 ?side2 ?side3 ?side4 ?side5 ?side6 ?sidem_ A368.out).mono ?_); (case sidem_ => exact Mx.below HMX_.out (hO HB)); (case side1 => exact Kd.C_below HR0_0.out (hO HB)); (case side2 => exact HC0_0.out); (case side3 => exact Kd.C_below HR0_1.out (hO HB)); (case side4 => exact HC0_1.out); (case side5 => exact Kd.C_below HR0_2.out (hO HB)); (case side6 => exact HC0_2.out); rintro e w417 ⟨rfl, hb⟩; refine ⟨_, rfl, ?_⟩; have n0_ := Aside0.mk (Kd.R_below (by (with_reducible repeat (first | apply Kd.R_alloc | apply Kd.R_drewN | apply Kd.R_drew)); exact (Kd.R_mono (Kd.R_far (p := ⟨gb678, 1, none⟩) (Kd.R_types HO670.out BK678.out (by decide)) (fun _ hk => hk.2) (.slice Ao411 y748.length co411)) (fun _ h_ => h_.1))) hb); have n1_ := Aside0.mk (Kd.R_below (by (with_reducible repeat (first | apply Kd.R_alloc | apply Kd.R_drewN | apply Kd.R_drew)); exact (Kd.R_mono (Kd.R_far (p := ⟨gb678, 1, none⟩) (Kd.R_types HO750.out BK678.out (by decide)) (fun _ hk => hk.2) (.slice Ao411 y748.length co411)) (fun _ h_ => h_.1))) hb); have n2_ := Aside0.mk (blk_below (g := gb664) (o := .cells #[.slice A0_0 l0_0.length c0_0, .slice A0_1 l0_1.length c0_1, .slice A0_2 l0_2.length c0_2, .int .i64 a0_3] 26 (0, 0)) (blk_far (bO BK664) NB664_678.out _) hb); have n3_ := Aside0.mk (blk_below (g := gb676) (o := .cells #[.slice A0_0 l0_0.length c0_0, .slice A0_1 l0_1.length c0_1, .slice A0_2 l0_2.length c0_2, .int .i64 a0_3] 26 (0, 0)) (blk_far (bO BK676) NB676_678.out _) hb); have n4_ := Aside0.mk (blk_below (g := gb677) (o := .cells #[.slice A0_0 l0_0.length c0_0, .slice A0_1 l0_1.length c0_1, .slice A0_2 l0_2.length c0_2, .int .i64 a0_3] 26 (0, 0)) (blk_far (bO BK677) NB677_678.out _) hb); have n5_ := Aside0.mk (blk_below (g := gb678) (o := .cells #[.slice A0_0 l0_0.length c0_0, .slice Ao411 y748.length co411, .slice A0_2 l0_2.length c0_2, .int .i64 a0_3] 26 (0, 0)) (by (with_reducible repeat (first | refine blk_drewN ?_ _ | refine blk_drew ?_ | refine blk_alloc ?_ _)); refine blk_put (cs := #[.slice A0_0 l0_0.length c0_0, .slice A0_1 l0_1.length c0_1, .slice A0_2 l0_2.length c0_2, .int .i64 a0_3]) ?_ 1 _ rfl; (with_reducible repeat (first | refine blk_drewN ?_ _ | refine blk_drew ?_ | refine blk_alloc ?_ _)); exact BK678.out) hb); have n6_ := Aside0.mk (below_step (hO HB) hb); clear HO670; clear HO750; clear BK664; clear BK676; clear BK677; clear BK678; clear HB; have HO670 := n0_; have HO750 := n1_; have BK664 := n2_; have BK676 := n3_; have BK677 := n4_; have BK678 := n5_; have HB := n6_; clear n0_ n1_ n2_ n3_ n4_ n5_ n6_; (try clear hb); (try clear hb2); (try clear hk); (try clear hi); have hcz418_0 : w417.cell? ⟨gb677, 0, none⟩ = some (.slice A0_0 l0_0.length c0_0) := (blk_cell BK677.out 0).trans rfl; have hcz418_1 : w417.cell? ⟨gb677, 1, none⟩ = some (.slice A0_1 l0_1.length c0_1) := (blk_cell BK677.out 1).trans rfl; have hcz418_2 : w417.cell? ⟨gb677, 2, none⟩ = some (.slice A0_2 l0_2.length c0_2) := (blk_cell BK677.out 2).trans rfl; have hcz418_3 : w417.cell? ⟨gb677, 3, none⟩ = some (.int .i64 a0_3) := (blk_cell BK677.out 3).trans rfl; have hfz418_0 := blk_frozen BK677.out 0; have hfz418_1 := blk_frozen BK677.out 1; have hfz418_2 := blk_frozen BK677.out 2; have hfz418_3 := blk_frozen BK677.out 3) | (go_at_call 25; (with_reducible refine (dancestudiolaw50_sooner.calls k _ _ l0_0 _ _ l0_1 _ _ l0_2 a0_3 t674 true _ ?side1 ?side2 ?side3 ?side4 ?side5 ?side6 ?sidem_ A370.out).mono ?_); (case sidem_ => exact Mx.below HMX_.out (hO HB)); (case side1 => exact Kd.C_below HR0_0.out (hO HB)); (case side2 => exact HC0_0.out); (case side3 => exact Kd.C_below HR0_1.out (hO HB)); (case side4 => exact HC0_1.out); (case side5 => exact Kd.C_below HR0_2.out (hO HB)); (case side6 => exact HC0_2.out); rintro e w419 ⟨rfl, hb⟩; have n0_ := Aside0.mk (Kd.R_below (rO HO670) hb); have n1_ := Aside0.mk (Kd.R_below (rO HO750) hb); have n2_ := bbO BK664 hb; have n3_ := bbO BK676 hb; have n4_ := bbO BK677 hb; have n5_ := bbO BK678 hb; have n6_ := Aside0.mk (below_step (hO HB) hb); clear HO670; clear HO750; clear BK664; clear BK676; clear BK677; clear BK678; clear HB; have HO670 := n0_; have HO750 := n1_; have BK664 := n2_; have BK676 := n3_; have BK677 := n4_; have BK678 := n5_; have HB := n6_; clear n0_ n1_ n2_ n3_ n4_ n5_ n6_; (try clear hb); (try clear hb2); (try clear hk); (try clear hi); have hcz420_0 : w419.cell? ⟨gb678, 0, none⟩ = some (.slice A0_0 l0_0.length c0_0) := (blk_cell BK678.out 0).trans rfl; have hcz420_1 : w419.cell? ⟨gb678, 1, none⟩ = some (.slice Ao411 y748.length co411) := (blk_cell BK678.out 1).trans rfl; have hcz420_2 : w419.cell? ⟨gb678, 2, none⟩ = some (.slice A0_2 l0_2.length c0_2) := (blk_cell BK678.out 2).trans rfl; have hcz420_3 : w419.cell? ⟨gb678, 3, none⟩ = some (.int .i64 a0_3) := (blk_cell BK678.out 3).trans rfl; have hfz420_0 := blk_frozen BK678.out 0; have hfz420_1 := blk_frozen BK678.out 1; have hfz420_2 := blk_frozen BK678.out 2; have hfz420_3 := blk_frozen BK678.out 3) | (go_at_call 25; (with_reducible refine (dancestudiolaw50_sooner.calls k _ _ l0_0 _ _ y748 _ _ l0_2 a0_3 t674 true _ ?side1 ?side2 ?side3 ?side4 ?side5 ?side6 ?sidem_ A372.out).mono ?_); (case sidem_ => exact Mx.below HMX_.out (hO HB)); (case side1 => exact Kd.C_below HR0_0.out (hO HB)); (case side2 => exact HC0_0.out); (case side3 => repeat (first | exact (Kd.R_reads' HO750.out).2.2 | (with_reducible refine Kd.C_alloc ?_ _) | (with_reducible refine Kd.C_drewN ?_ _) | (with_reducible refine Kd.C_drew ?_))); (case side4 => exact (Kd.R_reads' HO750.out).2.1); (case side5 => exact Kd.C_below HR0_2.out (hO HB)); (case side6 => exact HC0_2.out); rintro e w421 ⟨rfl, hb⟩; have n0_ := Aside0.mk (Kd.R_below (rO HO670) hb); have n1_ := Aside0.mk (Kd.R_below (rO HO750) hb); have n2_ := bbO BK664 hb; have n3_ := bbO BK676 hb; have n4_ := bbO BK677 hb; have n5_ := bbO BK678 hb; have n6_ := Aside0.mk (below_step (hO HB) hb); clear HO670; clear HO750; clear BK664; clear BK676; clear BK677; clear BK678; clear HB; have HO670 := n0_; have HO750 := n1_; have BK664 := n2_; have BK676 := n3_; have BK677 := n4_; have BK678 := n5_; have HB := n6_; clear n0_ n1_ n2_ n3_ n4_ n5_ n6_; (try clear hb); (try clear hb2); (try clear hk); (try clear hi)) | (go_at_call 15; (with_reducible refine (dancestudiolaw50_awake.calls k  t754 _ ?sidem_ A374.out).mono ?_); (case sidem_ => exact Mx.below HMX_.out (hO HB)); rintro e w422 ⟨rfl, hb⟩; have n0_ := Aside0.mk (Kd.R_below (rO HO670) hb); have n1_ := Aside0.mk (Kd.R_below (rO HO750) hb); have n2_ := bbO BK664 hb; have n3_ := bbO BK676 hb; have n4_ := bbO BK677 hb; have n5_ := bbO BK678 hb; have n6_ := Aside0.mk (below_step (hO HB) hb); clear HO670; clear HO750; clear BK664; clear BK676; clear BK677; clear BK678; clear HB; have HO670 := n0_; have HO750 := n1_; have BK664 := n2_; have BK676 := n3_; have BK677 := n4_; have BK678 := n5_; have HB := n6_; clear n0_ n1_ n2_ n3_ n4_ n5_ n6_; (try clear hb); (try clear hb2); (try clear hk); (try clear hi)))
            go_ret
            exact ⟨by first | rfl | (simp [errW_none, errW_some] <;> rfl) | (simp [*, errW_none, errW_some] <;> rfl), by repeat (first | (with_reducible first | exact HB.out | apply below_alloc | apply pw_below_drewN | apply below_drew1 | refine below_set ?_ GE664.out | refine below_set ?_ GE676.out | refine below_set ?_ GE677.out | refine below_set ?_ GE678.out) | exact HB.out)⟩
           ·
            replace c373 := Bool.eq_false_iff.mpr c373
            subst c373
            exact absurd H (by simp)
          ·
           replace c371 := Bool.eq_false_iff.mpr c371
           subst c371
           exact absurd H (by simp)
         ·
          replace c369 := Bool.eq_false_iff.mpr c369
          subst c369
          exact absurd H (by simp)
        ·
         rw [if_neg c367] at H
         exact absurd H (by simp)
       ·
        rw [if_neg c366] at H
        exact absurd H (by simp)
      ·
       rw [if_neg c365] at H
       have c365b0 : decide ((l0_1.length : Int) < 4) = false := decide_eq_false c365
       have c365b1 : decide (l0_1.length < 4) = false := decide_eq_false (by omega)
       clear c365
       replace H := Option.bind_eq_some_iff.mp H
       obtain ⟨t755, A4230, H⟩ := H
       try dsimp only at H
       have A423 := Aside0.mk A4230
       clear A4230
       by_cases c424 : t755 = true
       ·
        subst c424
        rw [if_pos rfl] at H
        have H1 := H
        clear H
        have H := H1
        clear H1
        replace H := Option.bind_eq_some_iff.mp H
        obtain ⟨t756, A4250, H⟩ := H
        replace H : (if t756 = true then ((dancestudiolaw50_sooner.f k l0_0 l0_1 l0_2 a0_3 t674).bind fun t757 => (if t757 = true then ((dancestudiolaw50_awake.f k).bind fun t758 => (some t758)) else (none))) else (none)) = some r := H
        have A425 := Aside0.mk A4250
        clear A4250
        by_cases c426 : t756 = true
        ·
         subst c426
         have H1 : ((dancestudiolaw50_sooner.f k l0_0 l0_1 l0_2 a0_3 t674).bind fun t757 => (if t757 = true then ((dancestudiolaw50_awake.f k).bind fun t758 => (some t758)) else (none))) = some r := by rw [if_pos rfl] at H; exact H
         clear H
         have H := H1
         clear H1
         replace H := Option.bind_eq_some_iff.mp H
         obtain ⟨t757, A4270, H⟩ := H
         replace H : (if t757 = true then ((dancestudiolaw50_awake.f k).bind fun t758 => (some t758)) else (none)) = some r := H
         have A427 := Aside0.mk A4270
         clear A4270
         by_cases c428 : t757 = true
         ·
          subst c428
          have H1 : ((dancestudiolaw50_awake.f k).bind fun t758 => (some t758)) = some r := by rw [if_pos rfl] at H; exact H
          clear H
          have H := H1
          clear H1
          replace H := Option.bind_eq_some_iff.mp H
          obtain ⟨t758, A4290, H⟩ := H
          replace H : (some t758) = some r := H
          have A429 := Aside0.mk A4290
          clear A4290
          obtain rfl := Option.some.inj H
          have hnb457 := NB664_676.out
          have hnc457 := NB676_664.out
          have hnb458 := NB664_677.out
          have hnc458 := NB677_664.out
          have hnb459 := NB664_678.out
          have hnc459 := NB678_664.out
          have hcz460_0 : w944.cell? ⟨gb664, 0, none⟩ = some (.slice A0_0 l0_0.length c0_0) := (blk_cell BK664.out 0).trans rfl
          have hcz460_1 : w944.cell? ⟨gb664, 1, none⟩ = some (.slice A0_1 l0_1.length c0_1) := (blk_cell BK664.out 1).trans rfl
          have hcz460_2 : w944.cell? ⟨gb664, 2, none⟩ = some (.slice A0_2 l0_2.length c0_2) := (blk_cell BK664.out 2).trans rfl
          have hcz460_3 : w944.cell? ⟨gb664, 3, none⟩ = some (.int .i64 a0_3) := (blk_cell BK664.out 3).trans rfl
          have hfz460_0 := blk_frozen BK664.out 0
          have hfz460_1 := blk_frozen BK664.out 1
          have hfz460_2 := blk_frozen BK664.out 2
          have hfz460_3 := blk_frozen BK664.out 3
          have hnb461 := NB676_677.out
          have hnc461 := NB677_676.out
          have hnb462 := NB676_678.out
          have hnc462 := NB678_676.out
          have hcz463_0 : w944.cell? ⟨gb676, 0, none⟩ = some (.slice A0_0 l0_0.length c0_0) := (blk_cell BK676.out 0).trans rfl
          have hcz463_1 : w944.cell? ⟨gb676, 1, none⟩ = some (.slice A0_1 l0_1.length c0_1) := (blk_cell BK676.out 1).trans rfl
          have hcz463_2 : w944.cell? ⟨gb676, 2, none⟩ = some (.slice A0_2 l0_2.length c0_2) := (blk_cell BK676.out 2).trans rfl
          have hcz463_3 : w944.cell? ⟨gb676, 3, none⟩ = some (.int .i64 a0_3) := (blk_cell BK676.out 3).trans rfl
          have hfz463_0 := blk_frozen BK676.out 0
          have hfz463_1 := blk_frozen BK676.out 1
          have hfz463_2 := blk_frozen BK676.out 2
          have hfz463_3 := blk_frozen BK676.out 3
          try go_wp2_with (first | ((with_reducible refine gate_callee (f := 25) rfl ?_); refine goesL_ (some 72) rfl rfl Try.func25 (by kernel_rfl) rfl #[.agg #[.slice A0_0 l0_0.length c0_0, .slice A0_1 l0_1.length c0_1, .slice A0_2 l0_2.length c0_2, .int .i64 a0_3], .int .i64 t674] rfl (by (try simp only [List.map_toArray, List.map_cons, List.map_nil]); first | done | rfl | (simp only [List.length_drop, List.length_take]; rfl)) ?_; (with_reducible refine (dancestudiolaw50_sooner.calls k _ _ l0_0 _ _ l0_1 _ _ l0_2 a0_3 t674 true _ ?side1 ?side2 ?side3 ?side4 ?side5 ?side6 ?sidem_ A423.out).mono ?_); (case sidem_ => exact Mx.below HMX_.out (hO HB)); (case side1 => exact Kd.C_below HR0_0.out (hO HB)); (case side2 => exact HC0_0.out); (case side3 => exact Kd.C_below HR0_1.out (hO HB)); (case side4 => exact HC0_1.out); (case side5 => exact Kd.C_below HR0_2.out (hO HB)); (case side6 => exact HC0_2.out); rintro e w464 ⟨rfl, hb⟩; refine ⟨_, rfl, ?_⟩; have n0_ := Aside0.mk (Kd.R_below (rO HO670) hb); have n1_ := bbO BK664 hb; have n2_ := bbO BK676 hb; have n3_ := bbO BK677 hb; have n4_ := bbO BK678 hb; have n5_ := Aside0.mk (below_step (hO HB) hb); clear HO670; clear BK664; clear BK676; clear BK677; clear BK678; clear HB; have HO670 := n0_; have BK664 := n1_; have BK676 := n2_; have BK677 := n3_; have BK678 := n4_; have HB := n5_; clear n0_ n1_ n2_ n3_ n4_ n5_; (try clear hb); (try clear hb2); (try clear hk); (try clear hi); have hnb465 := NB677_678.out; have hnc465 := NB678_677.out; have hcz466_0 : w464.cell? ⟨gb677, 0, none⟩ = some (.slice A0_0 l0_0.length c0_0) := (blk_cell BK677.out 0).trans rfl; have hcz466_1 : w464.cell? ⟨gb677, 1, none⟩ = some (.slice A0_1 l0_1.length c0_1) := (blk_cell BK677.out 1).trans rfl; have hcz466_2 : w464.cell? ⟨gb677, 2, none⟩ = some (.slice A0_2 l0_2.length c0_2) := (blk_cell BK677.out 2).trans rfl; have hcz466_3 : w464.cell? ⟨gb677, 3, none⟩ = some (.int .i64 a0_3) := (blk_cell BK677.out 3).trans rfl; have hfz466_0 := blk_frozen BK677.out 0; have hfz466_1 := blk_frozen BK677.out 1; have hfz466_2 := blk_frozen BK677.out 2; have hfz466_3 := blk_frozen BK677.out 3) | (go_at_call 25; (with_reducible refine (dancestudiolaw50_sooner.calls k _ _ l0_0 _ _ l0_1 _ _ l0_2 a0_3 t674 true _ ?side1 ?side2 ?side3 ?side4 ?side5 ?side6 ?sidem_ A425.out).mono ?_); (case sidem_ => exact Mx.below HMX_.out (hO HB)); (case side1 => exact Kd.C_below HR0_0.out (hO HB)); (case side2 => exact HC0_0.out); (case side3 => exact Kd.C_below HR0_1.out (hO HB)); (case side4 => exact HC0_1.out); (case side5 => exact Kd.C_below HR0_2.out (hO HB)); (case side6 => exact HC0_2.out); rintro e w467 ⟨rfl, hb⟩; have n0_ := Aside0.mk (Kd.R_below (rO HO670) hb); have n1_ := bbO BK664 hb; have n2_ := bbO BK676 hb; have n3_ := bbO BK677 hb; have n4_ := bbO BK678 hb; have n5_ := Aside0.mk (below_step (hO HB) hb); clear HO670; clear BK664; clear BK676; clear BK677; clear BK678; clear HB; have HO670 := n0_; have BK664 := n1_; have BK676 := n2_; have BK677 := n3_; have BK678 := n4_; have HB := n5_; clear n0_ n1_ n2_ n3_ n4_ n5_; (try clear hb); (try clear hb2); (try clear hk); (try clear hi); have hcz468_0 : w467.cell? ⟨gb678, 0, none⟩ = some (.slice A0_0 l0_0.length c0_0) := (blk_cell BK678.out 0).trans rfl; have hcz468_1 : w467.cell? ⟨gb678, 1, none⟩ = some (.slice A0_1 l0_1.length c0_1) := (blk_cell BK678.out 1).trans rfl; have hcz468_2 : w467.cell? ⟨gb678, 2, none⟩ = some (.slice A0_2 l0_2.length c0_2) := (blk_cell BK678.out 2).trans rfl; have hcz468_3 : w467.cell? ⟨gb678, 3, none⟩ = some (.int .i64 a0_3) := (blk_cell BK678.out 3).trans rfl; have hfz468_0 := blk_frozen BK678.out 0; have hfz468_1 := blk_frozen BK678.out 1; have hfz468_2 := blk_frozen BK678.out 2; have hfz468_3 := blk_frozen BK678.out 3) | (go_at_call 25; (with_reducible refine (dancestudiolaw50_sooner.calls k _ _ l0_0 _ _ l0_1 _ _ l0_2 a0_3 t674 true _ ?side1 ?side2 ?side3 ?side4 ?side5 ?side6 ?sidem_ A427.out).mono ?_); (case sidem_ => exact Mx.below HMX_.out (hO HB)); (case side1 => exact Kd.C_below HR0_0.out (hO HB)); (case side2 => exact HC0_0.out); (case side3 => exact Kd.C_below HR0_1.out (hO HB)); (case side4 => exact HC0_1.out); (case side5 => exact Kd.C_below HR0_2.out (hO HB)); (case side6 => exact HC0_2.out); rintro e w469 ⟨rfl, hb⟩; have n0_ := Aside0.mk (Kd.R_below (rO HO670) hb); have n1_ := bbO BK664 hb; have n2_ := bbO BK676 hb; have n3_ := bbO BK677 hb; have n4_ := bbO BK678 hb; have n5_ := Aside0.mk (below_step (hO HB) hb); clear HO670; clear BK664; clear BK676; clear BK677; clear BK678; clear HB; have HO670 := n0_; have BK664 := n1_; have BK676 := n2_; have BK677 := n3_; have BK678 := n4_; have HB := n5_; clear n0_ n1_ n2_ n3_ n4_ n5_; (try clear hb); (try clear hb2); (try clear hk); (try clear hi)) | (go_at_call 15; (with_reducible refine (dancestudiolaw50_awake.calls k  t758 _ ?sidem_ A429.out).mono ?_); (case sidem_ => exact Mx.below HMX_.out (hO HB)); rintro e w470 ⟨rfl, hb⟩; have n0_ := Aside0.mk (Kd.R_below (rO HO670) hb); have n1_ := bbO BK664 hb; have n2_ := bbO BK676 hb; have n3_ := bbO BK677 hb; have n4_ := bbO BK678 hb; have n5_ := Aside0.mk (below_step (hO HB) hb); clear HO670; clear BK664; clear BK676; clear BK677; clear BK678; clear HB; have HO670 := n0_; have BK664 := n1_; have BK676 := n2_; have BK677 := n3_; have BK678 := n4_; have HB := n5_; clear n0_ n1_ n2_ n3_ n4_ n5_; (try clear hb); (try clear hb2); (try clear hk); (try clear hi)))
          go_ret
          exact ⟨by first | rfl | (simp [errW_none, errW_some] <;> rfl) | (simp [*, errW_none, errW_some] <;> rfl), by repeat (first | (with_reducible first | exact HB.out | apply below_alloc | apply pw_below_drewN | apply below_drew1 | refine below_set ?_ GE664.out | refine below_set ?_ GE676.out | refine below_set ?_ GE677.out | refine below_set ?_ GE678.out) | exact HB.out)⟩
         ·
          replace c428 := Bool.eq_false_iff.mpr c428
          subst c428
          exact absurd H (by simp)
        ·
         replace c426 := Bool.eq_false_iff.mpr c426
         subst c426
         exact absurd H (by simp)
       ·
        replace c424 := Bool.eq_false_iff.mpr c424
        subst c424
        exact absurd H (by simp)
   ·
    rw [if_neg c9] at H
    exact absurd H (by simp)
  ·
   rw [if_neg c6] at H
   have c6b0 : (t671 == 0) = false := beq_eq_false_iff_ne.mpr c6
   have c6b1 : (t671 != 0) = true := bne_iff_ne.mpr c6
   replace H := Option.bind_eq_some_iff.mp H
   obtain ⟨t672, A4710, H⟩ := H
   replace H : (some t672) = some r := H
   have A471 := Aside0.mk A4710
   clear A4710
   obtain rfl := Option.some.inj H
   go_enter Try.func8, Try.ntmps8
   go_wp2_with (first | ((with_reducible refine gate_dst (N := 1) rfl ?_); refine box_event ?hg (N := 1) ?hd (cs := #[.slice A0_0 l0_0.length c0_0, .slice A0_1 l0_1.length c0_1, .slice A0_2 l0_2.length c0_2, .int .i64 a0_3]) (t := 26) ?hr ?_; (case hd => rfl); (case hg => rfl); (case hr => first | (go_simp; done) | (go_simp; rfl)); intro gb664 hg w472 hbox hb; have n0_ := Aside0.mk (below_step (hO HB) hb); have n1_ := Aside0.mk (hbox); have n2_ := Aside0.mk ((by rw [hg]; exact (below_size (hO HB)) : w.heap.size ≤ gb664)); have n3_ := Aside0.mk ((by rw [hg]; exact (below_size (hO HB)) : w.heap.size ≤ gb664)); clear HB; have HB := n0_; have BK664 := n1_; have GW664 := n2_; have GE664 := n3_; clear n0_ n1_ n2_ n3_; clear hb hbox hg; have hcz473_0 : w472.cell? ⟨gb664, 0, none⟩ = some (.slice A0_0 l0_0.length c0_0) := (blk_cell BK664.out 0).trans rfl; have hcz473_1 : w472.cell? ⟨gb664, 1, none⟩ = some (.slice A0_1 l0_1.length c0_1) := (blk_cell BK664.out 1).trans rfl; have hcz473_2 : w472.cell? ⟨gb664, 2, none⟩ = some (.slice A0_2 l0_2.length c0_2) := (blk_cell BK664.out 2).trans rfl; have hcz473_3 : w472.cell? ⟨gb664, 3, none⟩ = some (.int .i64 a0_3) := (blk_cell BK664.out 3).trans rfl; have hfz473_0 := blk_frozen BK664.out 0; have hfz473_1 := blk_frozen BK664.out 1; have hfz473_2 := blk_frozen BK664.out 2; have hfz473_3 := blk_frozen BK664.out 3) | ((with_reducible refine gate_callee (f := 20) rfl ?_); refine goesL_ (some 10) rfl rfl Try.func20 (by kernel_rfl) rfl #[.agg #[.slice A0_0 l0_0.length c0_0, .slice A0_1 l0_1.length c0_1, .slice A0_2 l0_2.length c0_2, .int .i64 a0_3]] rfl (by (try simp only [List.map_toArray, List.map_cons, List.map_nil]); first | done | rfl | (simp only [List.length_drop, List.length_take]; rfl)) ?_; (with_reducible refine (dancestudiolaw50_small.calls _ _ l0_0 _ _ l0_1 _ _ l0_2 a0_3 true _ ?side1 ?side2 ?side3 ?side4 ?side5 ?side6 A2.out).mono ?_); (case side1 => exact Kd.C_below HR0_0.out (hO HB)); (case side2 => exact HC0_0.out); (case side3 => exact Kd.C_below HR0_1.out (hO HB)); (case side4 => exact HC0_1.out); (case side5 => exact Kd.C_below HR0_2.out (hO HB)); (case side6 => exact HC0_2.out); rintro e w474 ⟨rfl, hb⟩; refine ⟨_, rfl, ?_⟩; have n0_ := bbO BK664 hb; have n1_ := Aside0.mk (below_step (hO HB) hb); clear BK664; clear HB; have BK664 := n0_; have HB := n1_; clear n0_ n1_; (try clear hb); (try clear hb2); (try clear hk); (try clear hi); have hcz475_0 : w474.cell? ⟨gb664, 0, none⟩ = some (.slice A0_0 l0_0.length c0_0) := (blk_cell BK664.out 0).trans rfl; have hcz475_1 : w474.cell? ⟨gb664, 1, none⟩ = some (.slice A0_1 l0_1.length c0_1) := (blk_cell BK664.out 1).trans rfl; have hcz475_2 : w474.cell? ⟨gb664, 2, none⟩ = some (.slice A0_2 l0_2.length c0_2) := (blk_cell BK664.out 2).trans rfl; have hcz475_3 : w474.cell? ⟨gb664, 3, none⟩ = some (.int .i64 a0_3) := (blk_cell BK664.out 3).trans rfl; have hfz475_0 := blk_frozen BK664.out 0; have hfz475_1 := blk_frozen BK664.out 1; have hfz475_2 := blk_frozen BK664.out 2; have hfz475_3 := blk_frozen BK664.out 3) | (go_at_call 11; (with_reducible refine (dancestudiolaw50_of.calls  t667 _ A4.out).mono ?_); rintro e w476 ⟨rfl, hb⟩; have n0_ := bbO BK664 hb; have n1_ := Aside0.mk (below_step (hO HB) hb); clear BK664; clear HB; have BK664 := n0_; have HB := n1_; clear n0_ n1_; (try clear hb); (try clear hb2); (try clear hk); (try clear hi)) | ((with_reducible refine gate_callee (f := 21) rfl ?_); refine goesL_ (some 16) rfl rfl Try.func21 (by kernel_rfl) rfl #[.agg #[.slice A0_0 l0_0.length c0_0, .slice A0_1 l0_1.length c0_1, .slice A0_2 l0_2.length c0_2, .int .i64 a0_3]] rfl (by (try simp only [List.map_toArray, List.map_cons, List.map_nil]); first | done | rfl | (simp only [List.length_drop, List.length_take]; rfl)) ?_; (with_reducible refine (rehearse_Plan.calls k _ _ l0_0 _ _ l0_1 _ _ l0_2 a0_3 t668 t671 _ ?side1 ?side2 ?side3 ?side4 ?side5 ?side6 ?sidem_ A5.out).mono ?_); (case sidem_ => exact Mx.below HMX_.out (hO HB)); (case side1 => exact Kd.C_below HR0_0.out (hO HB)); (case side2 => exact HC0_0.out); (case side3 => exact Kd.C_below HR0_1.out (hO HB)); (case side4 => exact HC0_1.out); (case side5 => exact Kd.C_below HR0_2.out (hO HB)); (case side6 => exact HC0_2.out); rintro e w477 ⟨v669, rfl, ho0, hb⟩; refine ⟨_, rfl, ?_⟩; have n0_ := Aside0.mk (Kd.R_lower ho0 (below_size (hO HB))); have n1_ := bbO BK664 hb; have n2_ := Aside0.mk (below_step (hO HB) hb); clear BK664; clear HB; have HO670 := n0_; have BK664 := n1_; have HB := n2_; clear n0_ n1_ n2_; (try clear hb); (try clear hb2); (try clear hk); (try clear hi); (try clear ho0)) | ((with_reducible refine gate_callee (f := 15) rfl ?_); refine goesL_ (some 21) rfl rfl Try.func15 (by kernel_rfl) rfl #[] rfl (by (try simp only [List.map_toArray, List.map_cons, List.map_nil]); first | done | rfl | (simp only [List.length_drop, List.length_take]; rfl)) ?_; (with_reducible refine (dancestudiolaw50_awake.calls k  t672 _ ?sidem_ A471.out).mono ?_); (case sidem_ => exact Mx.below HMX_.out (hO HB)); rintro e w478 ⟨rfl, hb⟩; refine ⟨_, rfl, ?_⟩; have n0_ := Aside0.mk (Kd.R_below (rO HO670) hb); have n1_ := bbO BK664 hb; have n2_ := Aside0.mk (below_step (hO HB) hb); clear HO670; clear BK664; clear HB; have HO670 := n0_; have BK664 := n1_; have HB := n2_; clear n0_ n1_ n2_; (try clear hb); (try clear hb2); (try clear hk); (try clear hi)))
   go_ret
   exact ⟨by first | rfl | (simp [errW_none, errW_some] <;> rfl) | (simp [*, errW_none, errW_some] <;> rfl), by repeat (first | (with_reducible first | exact HB.out | apply below_alloc | apply pw_below_drewN | apply below_drew1 | refine below_set ?_ GE664.out) | exact HB.out)⟩
 ·
  replace c3 := Bool.eq_false_iff.mpr c3
  subst c3
  have H1 : ((dancestudiolaw50_awake.f k).bind fun t666 => (some t666)) = some r := by rw [if_neg (show ¬ (false = true) by decide)] at H; exact H
  clear H
  have H := H1
  clear H1
  replace H := Option.bind_eq_some_iff.mp H
  obtain ⟨t666, A4790, H⟩ := H
  replace H : (some t666) = some r := H
  have A479 := Aside0.mk A4790
  clear A4790
  obtain rfl := Option.some.inj H
  go_enter Try.func8, Try.ntmps8
  go_wp2_with (first | ((with_reducible refine gate_dst (N := 1) rfl ?_); refine box_event ?hg (N := 1) ?hd (cs := #[.slice A0_0 l0_0.length c0_0, .slice A0_1 l0_1.length c0_1, .slice A0_2 l0_2.length c0_2, .int .i64 a0_3]) (t := 26) ?hr ?_; (case hd => rfl); (case hg => rfl); (case hr => first | (go_simp; done) | (go_simp; rfl)); intro gb664 hg w480 hbox hb; have n0_ := Aside0.mk (below_step (hO HB) hb); have n1_ := Aside0.mk (hbox); have n2_ := Aside0.mk ((by rw [hg]; exact (below_size (hO HB)) : w.heap.size ≤ gb664)); have n3_ := Aside0.mk ((by rw [hg]; exact (below_size (hO HB)) : w.heap.size ≤ gb664)); clear HB; have HB := n0_; have BK664 := n1_; have GW664 := n2_; have GE664 := n3_; clear n0_ n1_ n2_ n3_; clear hb hbox hg; have hcz481_0 : w480.cell? ⟨gb664, 0, none⟩ = some (.slice A0_0 l0_0.length c0_0) := (blk_cell BK664.out 0).trans rfl; have hcz481_1 : w480.cell? ⟨gb664, 1, none⟩ = some (.slice A0_1 l0_1.length c0_1) := (blk_cell BK664.out 1).trans rfl; have hcz481_2 : w480.cell? ⟨gb664, 2, none⟩ = some (.slice A0_2 l0_2.length c0_2) := (blk_cell BK664.out 2).trans rfl; have hcz481_3 : w480.cell? ⟨gb664, 3, none⟩ = some (.int .i64 a0_3) := (blk_cell BK664.out 3).trans rfl; have hfz481_0 := blk_frozen BK664.out 0; have hfz481_1 := blk_frozen BK664.out 1; have hfz481_2 := blk_frozen BK664.out 2; have hfz481_3 := blk_frozen BK664.out 3) | ((with_reducible refine gate_callee (f := 20) rfl ?_); refine goesL_ (some 10) rfl rfl Try.func20 (by kernel_rfl) rfl #[.agg #[.slice A0_0 l0_0.length c0_0, .slice A0_1 l0_1.length c0_1, .slice A0_2 l0_2.length c0_2, .int .i64 a0_3]] rfl (by (try simp only [List.map_toArray, List.map_cons, List.map_nil]); first | done | rfl | (simp only [List.length_drop, List.length_take]; rfl)) ?_; (with_reducible refine (dancestudiolaw50_small.calls _ _ l0_0 _ _ l0_1 _ _ l0_2 a0_3 false _ ?side1 ?side2 ?side3 ?side4 ?side5 ?side6 A2.out).mono ?_); (case side1 => exact Kd.C_below HR0_0.out (hO HB)); (case side2 => exact HC0_0.out); (case side3 => exact Kd.C_below HR0_1.out (hO HB)); (case side4 => exact HC0_1.out); (case side5 => exact Kd.C_below HR0_2.out (hO HB)); (case side6 => exact HC0_2.out); rintro e w482 ⟨rfl, hb⟩; refine ⟨_, rfl, ?_⟩; have n0_ := bbO BK664 hb; have n1_ := Aside0.mk (below_step (hO HB) hb); clear BK664; clear HB; have BK664 := n0_; have HB := n1_; clear n0_ n1_; (try clear hb); (try clear hb2); (try clear hk); (try clear hi)) | ((with_reducible refine gate_callee (f := 15) rfl ?_); refine goesL_ (some 12) rfl rfl Try.func15 (by kernel_rfl) rfl #[] rfl (by (try simp only [List.map_toArray, List.map_cons, List.map_nil]); first | done | rfl | (simp only [List.length_drop, List.length_take]; rfl)) ?_; (with_reducible refine (dancestudiolaw50_awake.calls k  t666 _ ?sidem_ A479.out).mono ?_); (case sidem_ => exact Mx.below HMX_.out (hO HB)); rintro e w483 ⟨rfl, hb⟩; refine ⟨_, rfl, ?_⟩; have n0_ := bbO BK664 hb; have n1_ := Aside0.mk (below_step (hO HB) hb); clear BK664; clear HB; have BK664 := n0_; have HB := n1_; clear n0_ n1_; (try clear hb); (try clear hb2); (try clear hk); (try clear hi)))
  go_ret
  exact ⟨by first | rfl | (simp [errW_none, errW_some] <;> rfl) | (simp [*, errW_none, errW_some] <;> rfl), by repeat (first | (with_reducible first | exact HB.out | apply below_alloc | apply pw_below_drewN | apply below_drew1 | refine below_set ?_ GE664.out) | exact HB.out)⟩
end Go.Proofs.Ytjppjppapdflmaa.PAll
