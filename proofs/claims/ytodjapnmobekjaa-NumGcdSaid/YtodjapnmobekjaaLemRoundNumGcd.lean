/- What the printed functions of layer 1 Round and Floor answer. -/
import Derived.Test.YtodjapnmobekjaaPNumGcdx4
import Derived.Test.YtodjapnmobekjaaMathNum
import Derived.Test.YtodjapnmobekjaaLemNearNumGcd
namespace Go.Proofs.Ytodjapnmobekjaa.PNumGcd
open Go Go.RowKit Go.Proofs.YtodjapnmobekjaaW.PrintWords Go.Proofs.YtodjapnmobekjaaW.PrintLast Go.Proofs.YtodjapnmobekjaaW.PrintMore Go.Proofs.Ytodjapnmobekjaa.MathNum
/-- A number is from -2^50 to 2^50. -/
def sm (a : Int) : Bool := decide (-1125899906842624 ≤ a) && decide (a ≤ 1125899906842624)
theorem sm_iff {a : Int} : sm a = true ↔ -1125899906842624 ≤ a ∧ a ≤ 1125899906842624 := by unfold sm; simp
theorem sm_false {a : Int} : sm a = false ↔ a < -1125899906842624 ∨ 1125899906842624 < a := by
  rw [← Bool.not_eq_true, sm_iff]; omega
theorem small_step (k : Nat) (l : List Int) (n i : Int) (h1 : i < n) (h0 : 0 ≤ i) (h2 : i < (l.length : Int)) :
    num_small.l0 (k + 1) l n i = if sm (rd l i) = true then num_small.l0 k l n (wrap64 (i + 1)) else some false := by
  simp only [num_small.l0]
  rw [if_pos h1, if_pos h0, if_pos h2]
  by_cases h : sm (rd l i) = true
  · rw [if_pos h]; rw [sm_iff] at h
    rw [if_neg (by omega), if_neg (by omega)]
  · rw [if_neg h]
    rw [Bool.not_eq_true, sm_false] at h
    by_cases h' : rd l i < -1125899906842624
    · rw [if_pos h']
    · rw [if_neg h', if_pos (by omega)]
theorem small2 (k : Nat) (a b : Int) : num_small.f (k + 3) [a, b] = some (sm a && sm b) := by
  unfold num_small.f
  rw [small_step (k + 2) [a, b] _ 0 (by simp) (by omega) (by simp)]
  rw [show wrap64 (0 + 1) = 1 from w64 (by omega) (by omega), show rd [a, b] 0 = a from rfl]
  rw [small_step (k + 1) [a, b] _ 1 (by simp) (by omega) (by simp)]
  rw [show wrap64 (1 + 1) = 2 from w64 (by omega) (by omega), show rd [a, b] 1 = b from rfl]
  simp only [num_small.l0]
  cases sm a <;> cases sm b <;> simp
/-- a / b, rounded, for a divisor of either sign. -/
def rnd (a b : Int) : Int := if b < 0 then near (-a) (-b) else near a b
theorem round_some (k : Nat) (a b : Int) : num_Round.f (k + 3) a b = some (if (sm a && sm b) = true then (if b = 0 then (0, 11) else (rnd a b, 0)) else (0, 1)) := by
  unfold num_Round.f
  rw [small2]
  simp only [Option.bind_some]
  by_cases h : (sm a && sm b) = true
  · rw [if_pos h, if_pos h]
    simp only [Bool.and_eq_true, sm_iff] at h
    obtain ⟨⟨a1, a2⟩, b1, b2⟩ := h
    by_cases h0 : b = 0
    · rw [if_pos h0, if_pos h0]
    · rw [if_neg h0, if_neg h0]
      unfold rnd
      by_cases h1 : b < 0
      · rw [if_pos h1, if_pos h1, w64 (by omega) (by omega), w64 (by omega) (by omega), nearest_some (by omega) (by omega) (by omega) (by omega)]; rfl
      · rw [if_neg h1, if_neg h1, nearest_some (by omega) (by omega) (by omega) (by omega)]; rfl
  · rw [if_neg h, if_neg h]
theorem floor_some (k : Nat) (a b : Int) : num_Floor.f (k + 3) a b = some (if (sm a && sm b) = true then (if b = 0 then (0, 0, 11) else if b < 0 then (0, 0, 1) else (a / b, a % b, 0)) else (0, 0, 1)) := by
  unfold num_Floor.f
  rw [small2]
  simp only [Option.bind_some]
  by_cases h : (sm a && sm b) = true
  · rw [if_pos h, if_pos h]
    simp only [Bool.and_eq_true, sm_iff] at h
    obtain ⟨⟨a1, a2⟩, b1, b2⟩ := h
    by_cases h0 : b = 0
    · rw [if_pos h0, if_pos h0]
    · rw [if_neg h0, if_neg h0]
      by_cases h1 : b < 0
      · rw [if_pos h1, if_pos h1]
      · rw [if_neg h1, if_neg h1, divide_some (by omega) (by omega) (by omega) (by omega)]; rfl
  · rw [if_neg h, if_neg h]
end Go.Proofs.Ytodjapnmobekjaa.PNumGcd
