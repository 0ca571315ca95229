/- The program's nearest: the sign of the least distance less the radius. -/
import Derived.Test.YtaggccbndmmbhaaDoorBase
import Derived.Test.YtaggccbndmmbhaaDoorPAllf62
import Derived.Test.YtaggccbndmmbhaaDoorPAllf73
import Derived.Test.YtaggccbndmmbhaaDoorPAllf84
import Derived.Test.YtaggccbndmmbhaaDoorFGeomBase
import Derived.Test.YtaggccbndmmbhaaDoorMathGeom
import Derived.Test.YtaggccbndmmbhaaDoorCmpWords
namespace Go.Proofs.YtaggccbndmmbhaaDoor.PAll
set_option linter.unusedVariables false
open Go Go.RowKit Go.Proofs.YtaggccbndmmbhaaDoorW.PrintWords Go.Proofs.YtaggccbndmmbhaaDoorW.PrintLast Go.Proofs.YtaggccbndmmbhaaDoorW.PrintMore Go.Proofs.YtaggccbndmmbhaaDoor.MathNum Go.Proofs.YtaggccbndmmbhaaDoor.EvWords Go.Proofs.YtaggccbndmmbhaaDoor.MathGeom

theorem num_small.mono_l : ∀ k, (∀ y0 y1 y2, LeO (num_small.l0 k y0 y1 y2) (num_small.l0 (k + 1) y0 y1 y2))
 | 0 => fun _ _ _ r h => by simp [num_small.l0] at h
 | k + 1 => by
  have ih0 := num_small.mono_l k
  ·
   intro y0 y1 y2
   unfold num_small.l0
   repeat' first
   | (with_reducible exact ih0 _ _ _)
   | (with_reducible exact LeO.refl _)
   | (with_reducible exact LeO.none _)
   | (with_reducible refine LeO.ite ?_ ?_)
   | (with_reducible refine LeO.bind ?_ (fun _ => ?_))
   | exact ih0 _ _ _
   | exact LeO.none _
   | refine LeO.ite ?_ ?_
   | refine LeO.bind ?_ (fun _ => ?_)
theorem num_small.mono : ∀ a0 k, LeO (num_small.f k a0) (num_small.f (k + 1) a0) := by
 intro a0 k
 have ih0 := num_small.mono_l k
 unfold num_small.f
 repeat' first
   | (with_reducible exact ih0 _ _ _)
   | (with_reducible exact LeO.refl _)
   | (with_reducible exact LeO.none _)
   | (with_reducible refine LeO.ite ?_ ?_)
   | (with_reducible refine LeO.bind ?_ (fun _ => ?_))
   | exact ih0 _ _ _
   | exact LeO.none _
   | refine LeO.ite ?_ ?_
   | refine LeO.bind ?_ (fun _ => ?_)
theorem num_times.mono_l : ∀ k, (∀ y0 y1 y2 y3 y4, LeO (num_times.j0 k y0 y1 y2 y3 y4) (num_times.j0 (k + 1) y0 y1 y2 y3 y4))
 | 0 => fun _ _ _ _ _ r h => by simp [num_times.j0] at h
 | k + 1 => by
  have ih0 := num_times.mono_l k
  ·
   intro y0 y1 y2 y3 y4
   unfold num_times.j0
   repeat' first
   | (with_reducible exact ih0 _ _ _ _ _)
   | (with_reducible exact LeO.refl _)
   | (with_reducible exact LeO.none _)
   | (with_reducible refine LeO.ite ?_ ?_)
   | (with_reducible refine LeO.bind ?_ (fun _ => ?_))
   | exact ih0 _ _ _ _ _
   | exact LeO.none _
   | refine LeO.ite ?_ ?_
   | refine LeO.bind ?_ (fun _ => ?_)
theorem num_times.mono : ∀ a0 a1 k, LeO (num_times.f k a0 a1) (num_times.f (k + 1) a0 a1) := by
 intro a0 a1 k
 have ih0 := num_times.mono_l k
 unfold num_times.f
 repeat' first
   | (with_reducible exact ih0 _ _ _ _ _)
   | (with_reducible exact LeO.refl _)
   | (with_reducible exact LeO.none _)
   | (with_reducible refine LeO.ite ?_ ?_)
   | (with_reducible refine LeO.bind ?_ (fun _ => ?_))
   | exact ih0 _ _ _ _ _
   | exact LeO.none _
   | refine LeO.ite ?_ ?_
   | refine LeO.bind ?_ (fun _ => ?_)
theorem num_Compare.mono : ∀ a0 a1 a2 a3 k, LeO (num_Compare.f k a0 a1 a2 a3) (num_Compare.f (k + 1) a0 a1 a2 a3) := by
 intro a0 a1 a2 a3 k
 unfold num_Compare.f
 repeat' first
   | (with_reducible exact num_small.mono _ _)
   | (with_reducible exact num_times.mono _ _ _)
   | (with_reducible exact LeO.refl _)
   | (with_reducible exact LeO.none _)
   | (with_reducible refine LeO.ite ?_ ?_)
   | (with_reducible refine LeO.bind ?_ (fun _ => ?_))
   | exact num_small.mono _ _
   | exact num_times.mono _ _ _
   | exact LeO.none _
   | refine LeO.ite ?_ ?_
   | refine LeO.bind ?_ (fun _ => ?_)
theorem compare_ev {a b c d : Int} (h1 : sm a = true) (h2 : sm b = true) (h3 : sm c = true) (h4 : sm d = true) : Ev (fun k => num_Compare.f k a b c d) (cmp3 (a * b) (c * d), 0) :=
  Ev.of (num_Compare.mono a b c d) (k := 0 + 5) (compare_some 0 (by simp [h1, h2, h3, h4]))
/-- A number below 2^40. -/
theorem sm_of {a : Int} (h1 : -1099511627776 ≤ a) (h2 : a ≤ 1099511627776) : sm a = true := sm_iff.2 ⟨by omega, by omega⟩

theorem dot_dt {a b c d : Int} (ha : -131072 ≤ a ∧ a ≤ 131072) (hb : -131072 ≤ b ∧ b ≤ 131072) (hc : -131072 ≤ c ∧ c ≤ 131072) (hd : -131072 ≤ d ∧ d ≤ 131072) : geom_dot.f a b c d = some (dt a b c d) ∧ -34359738368 ≤ dt a b c d ∧ dt a b c d ≤ 34359738368 := by
  refine ⟨dot_ok ha hb hc hd, ?_⟩
  unfold dt
  have h1 := mul_bound ha hc
  have h2 := mul_bound hb hd
  omega
theorem cross_cr {a b c d : Int} (ha : -131072 ≤ a ∧ a ≤ 131072) (hb : -131072 ≤ b ∧ b ≤ 131072) (hc : -131072 ≤ c ∧ c ≤ 131072) (hd : -131072 ≤ d ∧ d ≤ 131072) : geom_cross.f a b c d = some (cr a b c d) ∧ -34359738368 ≤ cr a b c d ∧ cr a b c d ≤ 34359738368 := by
  refine ⟨cross_ok ha hb hc hd, ?_⟩
  unfold cr
  have h1 := mul_bound ha hd
  have h2 := mul_bound hb hc
  omega

theorem nearest_ev {dx dy vx vy r2 : Int} (h1 : -131072 ≤ dx ∧ dx ≤ 131072) (h2 : -131072 ≤ dy ∧ dy ≤ 131072) (h3 : -131072 ≤ vx ∧ vx ≤ 131072) (h4 : -131072 ≤ vy ∧ vy ≤ 131072) (h5 : -131072 ≤ dx + vx ∧ dx + vx ≤ 131072) (h6 : -131072 ≤ dy + vy ∧ dy + vy ≤ 131072) (h7 : 0 ≤ r2 ∧ r2 ≤ 1099511627776) :
    Ev (fun k => geom_nearest.f k dx dy vx vy r2) (nst dx dy vx vy r2) := by
  obtain ⟨e1, l1, u1⟩ := dot_dt h1 h2 h3 h4
  obtain ⟨e2, l2, u2⟩ := dot_dt h3 h4 h3 h4
  obtain ⟨e3, l3, u3⟩ := dot_dt h1 h2 h1 h2
  obtain ⟨e4, l4, u4⟩ := dot_dt h5 h6 h5 h6
  obtain ⟨e5, l5, u5⟩ := cross_cr h1 h2 h3 h4
  simp only [geom_nearest.f, e1, e2, e3, e5, Option.bind_some]
  rw [w64 (n := dx + vx) (by omega) (by omega), w64 (n := dy + vy) (by omega) (by omega), w64 (n := -dt dx dy vx vy) (by omega) (by omega), e4]
  simp only [Option.bind_some]
  unfold nst
  have s1 : sm 1 = true := by decide
  have sr : sm r2 = true := sm_of (by omega) (by omega)
  by_cases c1 : -dt dx dy vx vy ≤ 0
  · rw [if_pos c1]
    refine ev_pos c1 ?_
    have := compare_ev (sm_of (a := dt dx dy dx dy) (by omega) (by omega)) s1 sr s1
    rw [Int.mul_one, Int.mul_one] at this
    exact this.bind (ev_now _)
  · rw [if_neg c1]
    refine ev_neg c1 ?_
    by_cases c2 : -dt dx dy vx vy ≥ dt vx vy vx vy
    · rw [if_pos c2]
      refine ev_pos c2 ?_
      have := compare_ev (sm_of (a := dt (dx + vx) (dy + vy) (dx + vx) (dy + vy)) (by omega) (by omega)) s1 sr s1
      rw [Int.mul_one, Int.mul_one] at this
      exact this.bind (ev_now _)
    · rw [if_neg c2]
      refine ev_neg c2 ?_
      have sc := sm_of (a := cr dx dy vx vy) (by omega) (by omega)
      exact (compare_ev sc sc sr (sm_of (a := dt vx vy vx vy) (by omega) (by omega))).bind (ev_now _)

theorem dt_swap (a b c d : Int) : dt (a - c) (b - d) (a - c) (b - d) = dt (c - a) (d - b) (c - a) (d - b) := by unfold dt; grind
end Go.Proofs.YtaggccbndmmbhaaDoor.PAll
