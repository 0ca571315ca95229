/- Touch of the program. -/
import Derived.Test.YtaggccbndmmbhaaDoorBase
import Derived.Test.YtaggccbndmmbhaaDoorPAllf39
import Derived.Test.YtaggccbndmmbhaaDoorFGeomNear0
namespace Go.Proofs.YtaggccbndmmbhaaDoor.PAll
set_option linter.unusedVariables false
open Go Go.RowKit Go.Proofs.YtaggccbndmmbhaaDoorW.PrintWords Go.Proofs.YtaggccbndmmbhaaDoorW.PrintLast Go.Proofs.YtaggccbndmmbhaaDoorW.PrintMore Go.Proofs.YtaggccbndmmbhaaDoor.MathNum Go.Proofs.YtaggccbndmmbhaaDoor.EvWords Go.Proofs.YtaggccbndmmbhaaDoor.MathGeom

/-- Whether a moving disc can be: its ends and its radius. -/
def mOk (a0 a1 b0 b1 r : Int) : Prop := (cOk a0 ∧ cOk a1) ∧ (cOk b0 ∧ cOk b1) ∧ rOk r
instance (a0 a1 b0 b1 r : Int) : Decidable (mOk a0 a1 b0 b1 r) := by unfold mOk; exact inferInstance
def touchV (a0 a1 a2 a3 a4 b0 b1 b2 b3 b4 : Int) : Bool × Int :=
  if mOk a0 a1 a2 a3 a4 ∧ mOk b0 b1 b2 b3 b4 then (decide (nst (a0 - b0) (a1 - b1) ((a2 - a0) - (b2 - b0)) ((a3 - a1) - (b3 - b1)) ((a4 + b4) * (a4 + b4)) < 0), 0) else (false, 1)
theorem touch_ev (a0 a1 a2 a3 a4 b0 b1 b2 b3 b4 : Int) : Ev (fun k => geom_Touch.f k a0 a1 a2 a3 a4 b0 b1 b2 b3 b4) (touchV a0 a1 a2 a3 a4 b0 b1 b2 b3 b4) := by
  have v := valid_ev (ps := [(⟨a0, a1⟩ : S52), (⟨a2, a3⟩ : S52), (⟨b0, b1⟩ : S52), (⟨b2, b3⟩ : S52)]) (rs := [a4, b4]) (by simp) (by simp)
  simp only [geom_Touch.f]
  unfold touchV mOk
  by_cases h : ((cOk a0 ∧ cOk a1) ∧ (cOk a2 ∧ cOk a3) ∧ rOk a4) ∧ ((cOk b0 ∧ cOk b1) ∧ (cOk b2 ∧ cOk b3) ∧ rOk b4)
  · rw [if_pos h]
    obtain ⟨⟨⟨p, p'⟩, ⟨a, a'⟩, hr⟩, ⟨⟨q, q'⟩, ⟨b, b'⟩, hs⟩⟩ := h
    refine Ev.bind v (ev_pos (by simp [pOk, p, p', a, a', hr, q, q', b, b', hs]) ?_)
    rw [minus_ok p p' q q', minus_ok a a' p p', minus_ok b b' q q']
    unfold cOk rOk at *
    simp only [Option.bind_some]
    have em : geom_minus.f (a2 - a0) (a3 - a1) (b2 - b0) (b3 - b1) = some ((a2 - a0) - (b2 - b0), (a3 - a1) - (b3 - b1)) := by
      unfold geom_minus.f
      rw [w64 (by omega) (by omega), w64 (by omega) (by omega)]
    rw [em]
    simp only [Option.bind_some]
    have rr := mul_bound (a := a4 + b4) (b := a4 + b4) (m := 65536) (n := 65536) (by omega) (by omega)
    have r0 := Int.mul_nonneg (a := a4 + b4) (b := a4 + b4) (by omega) (by omega)
    rw [w64 (n := a4 + b4) (by omega) (by omega), w64 (n := (a4 + b4) * (a4 + b4)) (by omega) (by omega)]
    exact (nearest_ev (by omega) (by omega) (by omega) (by omega) (by omega) (by omega) (by omega)).bind (ev_now _)
  · rw [if_neg h]
    refine Ev.bind v (ev_neg (fun x => h ?_) (ev_now _))
    simp [pOk] at x
    exact ⟨⟨x.1.1, x.1.2.1, x.2.1⟩, ⟨x.1.2.2.1, x.1.2.2.2, x.2.2⟩⟩
theorem touchV_swap (a0 a1 a2 a3 a4 b0 b1 b2 b3 b4 : Int) : touchV b0 b1 b2 b3 b4 a0 a1 a2 a3 a4 = touchV a0 a1 a2 a3 a4 b0 b1 b2 b3 b4 := by
  unfold touchV
  have := nst_neg (a0 - b0) (a1 - b1) ((a2 - a0) - (b2 - b0)) ((a3 - a1) - (b3 - b1)) ((a4 + b4) * (a4 + b4))
  rw [show -(a0 - b0) = b0 - a0 by omega, show -(a1 - b1) = b1 - a1 by omega, show -((a2 - a0) - (b2 - b0)) = (b2 - b0) - (a2 - a0) by omega, show -((a3 - a1) - (b3 - b1)) = (b3 - b1) - (a3 - a1) by omega] at this
  rw [show (b4 + a4) = a4 + b4 by omega, this]
  by_cases h : mOk a0 a1 a2 a3 a4 ∧ mOk b0 b1 b2 b3 b4
  · rw [if_pos h, if_pos h.symm]
  · rw [if_neg h, if_neg fun x => h x.symm]
theorem touchV_rev (a0 a1 a2 a3 a4 b0 b1 b2 b3 b4 : Int) : touchV a2 a3 a0 a1 a4 b2 b3 b0 b1 b4 = touchV a0 a1 a2 a3 a4 b0 b1 b2 b3 b4 := by
  unfold touchV
  have := nst_rev (a0 - b0) (a1 - b1) ((a2 - a0) - (b2 - b0)) ((a3 - a1) - (b3 - b1)) ((a4 + b4) * (a4 + b4))
  rw [show a0 - b0 + ((a2 - a0) - (b2 - b0)) = a2 - b2 by omega, show a1 - b1 + ((a3 - a1) - (b3 - b1)) = a3 - b3 by omega, show -((a2 - a0) - (b2 - b0)) = (a0 - a2) - (b0 - b2) by omega, show -((a3 - a1) - (b3 - b1)) = (a1 - a3) - (b1 - b3) by omega] at this
  rw [this]
  have sy : ∀ x0 x1 x2 x3 x4 : Int, mOk x2 x3 x0 x1 x4 ↔ mOk x0 x1 x2 x3 x4 := by
    intro x0 x1 x2 x3 x4; unfold mOk; exact ⟨fun h => ⟨h.2.1, h.1, h.2.2⟩, fun h => ⟨h.2.1, h.1, h.2.2⟩⟩
  simp only [sy]
end Go.Proofs.YtaggccbndmmbhaaDoor.PAll
