/- Touch of the reference. -/
import Derived.Test.YtaggccbndmmbhaaDoorBase
import Derived.Test.YtaggccbndmmbhaaDoorGeo
import Derived.Test.YtaggccbndmmbhaaDoorFGeomTouch
import Derived.Test.YtaggccbndmmbhaaDoorFGeomRefCmp
namespace Go.Proofs.YtaggccbndmmbhaaDoor.PAll
set_option linter.unusedVariables false
open Go Go.RowKit Go.Proofs.YtaggccbndmmbhaaDoorW.PrintWords Go.Proofs.YtaggccbndmmbhaaDoorW.PrintLast Go.Proofs.YtaggccbndmmbhaaDoorW.PrintMore Go.Proofs.YtaggccbndmmbhaaDoor.MathNum Go.Proofs.YtaggccbndmmbhaaDoor.EvWords Go.Proofs.YtaggccbndmmbhaaDoor.MathGeom

theorem motion_some (a0 a1 a2 a3 a4 : Int) : dancestudioref03_motion.f a0 a1 a2 a3 a4 = some (decide (mOk a0 a1 a2 a3 a4)) := by
  unfold dancestudioref03_motion.f mOk
  rw [rValid, rValid, rRadius]
  by_cases h1 : cOk a0 ∧ cOk a1
  · by_cases h2 : cOk a2 ∧ cOk a3
    · simp [h1, h2]
    · simp [h1, h2]
  · simp [h1]
theorem rtouch_bad (a0 a1 a2 a3 a4 b0 b1 b2 b3 b4 : Int) : Ev (fun k => dancestudioref03_Touch.j0 k true a0 a1 a2 a3 a4 b0 b1 b2 b3 b4) (false, 1) :=
  ev_step (fun k => by simp only [dancestudioref03_Touch.j0] <;> exact rfl) (ev_pos (show true = true from rfl) (ev_now _))
theorem cmp3_neg {a b : Int} : decide (cmp3 a b < 0) = decide (a < b) := by
  rcases cmp3_cases a b with ⟨h, e⟩ | ⟨h, e⟩ | ⟨h, e⟩ <;> rw [e] <;> exact decide_eq_decide.2 (by omega)
theorem rtouch_j1 {r dx dy vx vy : Int} (hr : 0 ≤ r ∧ r ≤ 65536) (h1 : -65536 ≤ dx ∧ dx ≤ 65536) (h2 : -65536 ≤ dy ∧ dy ≤ 65536) (h3 : -131072 ≤ vx ∧ vx ≤ 131072) (h4 : -131072 ≤ vy ∧ vy ≤ 131072) (q : Bool)
    (hq : q = decide (dt dx dy dx dy < r * r ∨ dt (dx + vx) (dy + vy) (dx + vx) (dy + vy) < r * r)) :
    Ev (fun k => dancestudioref03_Touch.j1 k r dx dy vx vy q) (decide (nst dx dy vx vy (r * r) < 0), 0) := by
  have key := nst_touch dx dy vx vy (r * r)
  refine ev_step (fun k => by simp only [dancestudioref03_Touch.j1] <;> exact rfl) ?_
  by_cases hd : dt dx dy dx dy < r * r ∨ dt (dx + vx) (dy + vy) (dx + vx) (dy + vy) < r * r
  · refine ev_pos (by rw [hq]; simpa using hd) ?_
    rw [decide_eq_true (key.2 (by omega))]
    exact ev_now _
  · refine ev_neg (by rw [hq]; simpa using hd) ?_
    have m1 := mul_bound (a := dx) (b := vx) (m := 65536) (n := 131072) (by omega) (by omega)
    have m2 := mul_bound (a := dy) (b := vy) (m := 65536) (n := 131072) (by omega) (by omega)
    have m3 := mul_bound (a := dx) (b := vy) (m := 65536) (n := 131072) (by omega) (by omega)
    have m4 := mul_bound (a := dy) (b := vx) (m := 65536) (n := 131072) (by omega) (by omega)
    have m5 := mul_bound (a := vx) (b := vx) (m := 131072) (n := 131072) (by omega) (by omega)
    have m6 := mul_bound (a := vy) (b := vy) (m := 131072) (n := 131072) (by omega) (by omega)
    have m7 := mul_bound (a := r) (b := r) (m := 65536) (n := 65536) (by omega) (by omega)
    rw [w64 (n := dx * vx) (by omega) (by omega), w64 (n := dy * vy) (by omega) (by omega), w64 (n := dx * vy) (by omega) (by omega), w64 (n := dy * vx) (by omega) (by omega), w64 (n := vx * vx) (by omega) (by omega), w64 (n := vy * vy) (by omega) (by omega), w64 (n := r * r) (by omega) (by omega), w64 (n := dx * vx + dy * vy) (by omega) (by omega), w64 (n := dx * vy - dy * vx) (by omega) (by omega), w64 (n := vx * vx + vy * vy) (by omega) (by omega), w64 (n := -(dx * vx + dy * vy)) (by omega) (by omega)]
    by_cases c1 : -dt dx dy vx vy ≤ 0
    · refine ev_pos c1 ?_
      rw [decide_eq_false fun x => by have := key.1 x; omega]
      exact ev_now _
    · refine ev_neg c1 ?_
      by_cases c2 : -dt dx dy vx vy ≥ dt vx vy vx vy
      · refine ev_pos c2 ?_
        rw [decide_eq_false fun x => by have := key.1 x; omega]
        exact ev_now _
      · refine ev_neg c2 ?_
        have sc := sm_of (a := dx * vy - dy * vx) (by omega) (by omega)
        refine Ev.bind (rcompare_ev sc sc (sm_of (by omega) (by omega)) (sm_of (a := vx * vx + vy * vy) (by omega) (by omega))) (ev_eq (ev_now _) ?_)
        rw [cmp3_neg]
        congr 1
        refine decide_eq_decide.2 ?_
        rw [key]
        constructor
        · intro x; exact Or.inr (Or.inr ⟨by omega, by omega, x⟩)
        · intro x; rcases x with x | x | x
          · exact absurd (Or.inl x) hd
          · exact absurd (Or.inr x) hd
          · exact x.2.2
theorem rtouch_ev (a0 a1 a2 a3 a4 b0 b1 b2 b3 b4 : Int) : Ev (fun k => dancestudioref03_Touch.f k a0 a1 a2 a3 a4 b0 b1 b2 b3 b4) (touchV a0 a1 a2 a3 a4 b0 b1 b2 b3 b4) := by
  have bad : ¬ (mOk a0 a1 a2 a3 a4 ∧ mOk b0 b1 b2 b3 b4) → touchV a0 a1 a2 a3 a4 b0 b1 b2 b3 b4 = (false, 1) := fun h => by unfold touchV; rw [if_neg h]
  simp only [dancestudioref03_Touch.f, motion_some, Option.bind_some]
  by_cases h1 : mOk a0 a1 a2 a3 a4
  · refine ev_pos (by simpa using h1) ?_
    by_cases h2 : mOk b0 b1 b2 b3 b4
    · rw [decide_eq_true h2]
      unfold touchV
      rw [if_pos ⟨h1, h2⟩]
      refine ev_step (fun k => by simp only [dancestudioref03_Touch.j0] <;> exact rfl) (ev_neg (by simp) ?_)
      obtain ⟨⟨p, p'⟩, ⟨a, a'⟩, hr⟩ := h1
      obtain ⟨⟨q, q'⟩, ⟨b, b'⟩, hs⟩ := h2
      rw [sq_dt p p' q q', sq_dt a a' b b']
      unfold cOk rOk at *
      simp only [Option.bind_some]
      have rr := mul_bound (a := a4 + b4) (b := a4 + b4) (m := 65536) (n := 65536) (by omega) (by omega)
      rw [w64 (n := a4 + b4) (by omega) (by omega), w64 (n := (a4 + b4) * (a4 + b4)) (by omega) (by omega), w64 (n := a0 - b0) (by omega) (by omega), w64 (n := a1 - b1) (by omega) (by omega), w64 (n := a2 - b2) (by omega) (by omega), w64 (n := a3 - b3) (by omega) (by omega), w64 (n := a2 - b2 - (a0 - b0)) (by omega) (by omega), w64 (n := a3 - b3 - (a1 - b1)) (by omega) (by omega)]
      have ex : a2 - a0 - (b2 - b0) = a2 - b2 - (a0 - b0) := by omega
      have ey : a3 - a1 - (b3 - b1) = a3 - b3 - (a1 - b1) := by omega
      have fx : a0 - b0 + (a2 - b2 - (a0 - b0)) = a2 - b2 := by omega
      have fy : a1 - b1 + (a3 - b3 - (a1 - b1)) = a3 - b3 := by omega
      rw [ex, ey]
      by_cases c : dt (a0 - b0) (a1 - b1) (a0 - b0) (a1 - b1) < (a4 + b4) * (a4 + b4)
      · refine ev_pos c (rtouch_j1 (by omega) (by omega) (by omega) (by omega) (by omega) _ ?_)
        rw [decide_eq_true (Or.inl c)]
      · refine ev_neg c (rtouch_j1 (by omega) (by omega) (by omega) (by omega) (by omega) _ ?_)
        rw [fx, fy]
        exact decide_eq_decide.2 ⟨Or.inr, fun x => x.elim (fun y => absurd y c) id⟩
    · rw [decide_eq_false h2, bad fun h => h2 h.2]; exact rtouch_bad ..
  · refine ev_neg (by simpa using h1) ?_
    rw [bad fun h => h1 h.1]; exact rtouch_bad ..
end Go.Proofs.YtaggccbndmmbhaaDoor.PAll
