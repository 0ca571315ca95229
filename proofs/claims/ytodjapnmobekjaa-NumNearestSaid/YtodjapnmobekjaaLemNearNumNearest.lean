/- What the printed functions of layer 1 that divide and round answer. -/
import Derived.Test.YtodjapnmobekjaaPNumNearestx4
import Derived.Test.YtodjapnmobekjaaMathNum
namespace Go.Proofs.Ytodjapnmobekjaa.PNumNearest
open Go Go.RowKit Go.Proofs.YtodjapnmobekjaaW.PrintWords Go.Proofs.YtodjapnmobekjaaW.PrintLast Go.Proofs.YtodjapnmobekjaaW.PrintMore Go.Proofs.Ytodjapnmobekjaa.MathNum

theorem divide_some {a b : Int} (hb : 0 < b) (hb2 : b ≤ 4611686018427387904) (ha1 : -4611686018427387904 ≤ a) (ha2 : a ≤ 4611686018427387904) : num_divide.f a b = some (a / b, a % b) := by
  unfold num_divide.f
  rw [if_neg (by omega)]
  obtain ⟨h1, h2⟩ := tdiv_floor (a := a) hb
  have r := ediv_range (A := 4611686018427387904) hb (by omega) ha2
  have l1 := Int.emod_nonneg a (show b ≠ 0 by omega)
  by_cases h : a.tmod b < 0
  · obtain ⟨e1, e2⟩ := h1 h
    rw [if_pos h]
    have e3 : a.tdiv b = a / b + 1 := by omega
    have e4 : wrap64 (a.tmod b + b) = a.tmod b + b := w64 (by omega) (by have := Int.tmod_lt_of_pos a hb; omega)
    rw [e3, w64 (n := a / b + 1) (by omega) (by omega), w64 (by omega) (by omega), e4, e2]
    congr 2; omega
  · obtain ⟨e1, e2⟩ := h2 h
    rw [if_neg h, e1, e2, w64 (by omega) (by omega)]

theorem tmod2 (q : Int) : (q.tmod 2 = 0) ↔ (q % 2 = 0) := by
  rw [Int.tmod_eq_emod]; split <;> omega
theorem nearest_some {a b : Int} (hb : 0 < b) (hb2 : b ≤ 2305843009213693952) (ha1 : -4611686018427387904 ≤ a) (ha2 : a ≤ 4611686018427387904) : num_nearest.f a b = some (near a b) := by
  unfold num_nearest.f
  rw [divide_some hb (by omega) ha1 ha2]
  simp only [Option.bind_some]
  have r := ediv_range (A := 4611686018427387904) hb (by omega) ha2
  have l1 := Int.emod_nonneg a (show b ≠ 0 by omega)
  have l2 := Int.emod_lt_of_pos a hb
  unfold near
  generalize a / b = q at *
  generalize a % b = m at *
  rw [w64 (n := 2 * m) (by omega) (by omega), w64 (n := q + 1) (by omega) (by omega)]
  by_cases c1 : 2 * m > b
  · rw [if_pos c1, if_pos (Or.inl c1)]
  · rw [if_neg c1]
    by_cases c2 : 2 * m = b
    · rw [if_pos c2]
      by_cases c3 : q.tmod 2 = 0
      · rw [if_pos c3, if_neg (by rw [tmod2] at c3; omega)]
      · rw [if_neg c3, if_pos (by rw [tmod2] at c3; omega)]
    · rw [if_neg c2, if_neg (by omega)]

/-- The arguments that Lerp takes. -/
def lerpOk (a b k d : Int) : Bool := decide (-1048576 ≤ a ∧ a ≤ 1048576 ∧ -1048576 ≤ b ∧ b ≤ 1048576 ∧ 1 ≤ d ∧ d ≤ 524288 ∧ 0 ≤ k ∧ k ≤ d)
theorem lerpOk_iff {a b k d : Int} : lerpOk a b k d = true ↔ (-1048576 ≤ a ∧ a ≤ 1048576 ∧ -1048576 ≤ b ∧ b ≤ 1048576 ∧ 1 ≤ d ∧ d ≤ 524288 ∧ 0 ≤ k ∧ k ≤ d) := by
  unfold lerpOk; simp
theorem lerp_num {a b k d : Int} (h : lerpOk a b k d = true) : -549755813888 ≤ a * (d - k) ∧ a * (d - k) ≤ 549755813888 ∧ -549755813888 ≤ b * k ∧ b * k ≤ 549755813888 := by
  rw [lerpOk_iff] at h
  have m1 := mul_range (a := a) (b := d - k) (A := 1048576) (B := 524288) (by omega) (by omega) (by omega) (by omega)
  have m2 := mul_range (a := b) (b := k) (A := 1048576) (B := 524288) (by omega) (by omega) (by omega) (by omega)
  omega
theorem lerp_some (a b k d : Int) : num_Lerp.f a b k d = if lerpOk a b k d = true then some (near (a * (d - k) + b * k) d, 0) else some (0, 1) := by
  unfold num_Lerp.f
  by_cases h : lerpOk a b k d = true
  · rw [if_pos h]
    have hh := lerpOk_iff.mp h
    have m := lerp_num h
    rw [if_neg (by omega), if_neg (by omega), if_neg (by omega), if_neg (by omega), if_neg (by omega), if_neg (by omega), if_neg (by omega), if_neg (by omega)]
    rw [w64 (n := d - k) (by omega) (by omega), w64 (n := a * (d - k)) (by omega) (by omega), w64 (n := b * k) (by omega) (by omega), w64 (by omega) (by omega)]
    rw [nearest_some (by omega) (by omega) (by omega) (by omega)]
    rfl
  · rw [if_neg h]
    rw [lerpOk_iff] at h
    by_cases c1 : a < -1048576
    · rw [if_pos c1]
    rw [if_neg c1]
    by_cases c2 : a > 1048576
    · rw [if_pos c2]
    rw [if_neg c2]
    by_cases c3 : b < -1048576
    · rw [if_pos c3]
    rw [if_neg c3]
    by_cases c4 : b > 1048576
    · rw [if_pos c4]
    rw [if_neg c4]
    by_cases c5 : d < 1
    · rw [if_pos c5]
    rw [if_neg c5]
    by_cases c6 : d > 524288
    · rw [if_pos c6]
    rw [if_neg c6]
    by_cases c7 : k < 0
    · rw [if_pos c7]
    rw [if_neg c7]
    by_cases c8 : k > d
    · rw [if_pos c8]
    · exact absurd ⟨by omega, by omega, by omega, by omega, by omega, by omega, by omega, by omega⟩ h
theorem lerps_some (w a b k d : Int) : dancestudiolaw01_lerps.f w a b k d = some (lerpOk a b k d && decide (near (a * (d - k) + b * k) d = w)) := by
  unfold dancestudiolaw01_lerps.f
  rw [lerp_some]
  by_cases h : lerpOk a b k d = true
  · rw [if_pos h, h]
    simp only [Option.bind_some, Bool.true_and]
    split <;> simp_all
  · rw [if_neg h]
    rw [Bool.not_eq_true] at h
    simp only [Option.bind_some, h, Bool.false_and]
    split <;> simp
theorem awake_ok {k : Nat} (hk : 60 ≤ k) : dancestudiolaw01_awake.f k = some true :=
  at_rounds dancestudiolaw01_awake.mono hk (by decide +kernel)
end Go.Proofs.Ytodjapnmobekjaa.PNumNearest
