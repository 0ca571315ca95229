/- Exchanged products have the opposite order, exchanged factors the same one, products below 2^60 compare as integers, and both products multiplied by a positive number compare as before: the plain law, for all integers. -/
import Derived.Test.YtodjapnmobekjaaPNumOrderx4
import Derived.Test.YtodjapnmobekjaaMathNum
import Derived.Test.YtodjapnmobekjaaLemCmpNumOrder
namespace Go.Proofs.Ytodjapnmobekjaa.PNumOrder
open Go Go.RowKit Go.Proofs.YtodjapnmobekjaaW.PrintWords Go.Proofs.YtodjapnmobekjaaW.PrintLast Go.Proofs.YtodjapnmobekjaaW.PrintMore Go.Proofs.Ytodjapnmobekjaa.MathNum
theorem awake_ok {k : Nat} (hk : 60 ≤ k) : dancestudiolaw01_awake.f k = some true :=
  at_rounds dancestudiolaw01_awake.mono hk (by decide +kernel)
theorem le_mx (a b : Int) : a ≤ mx a b ∧ b ≤ mx a b := by unfold mx; split <;> omega
theorem mn_le (a b : Int) : mn a b ≤ a ∧ mn a b ≤ b := by unfold mn; split <;> omega
theorem cmp3_scale {p q m : Int} (hm : 0 < m) : cmp3 (p * m) (q * m) = cmp3 p q := by
  rcases cmp3_cases p q with ⟨h, e⟩ | ⟨h, e⟩ | ⟨h, e⟩ <;> rw [e]
  · exact cmp3_lt (Int.mul_lt_mul_of_pos_right h hm)
  · exact cmp3_eq (by rw [h])
  · exact cmp3_gt (Int.mul_lt_mul_of_pos_right h hm)
theorem j2_ok {a b c d m : Int} {f : Nat} (hf : 60 ≤ f) (h : -1073741824 ≤ a ∧ a ≤ 1073741824 ∧ -1073741824 ≤ b ∧ b ≤ 1073741824 ∧ -1073741824 ≤ c ∧ c ≤ 1073741824 ∧ -1073741824 ≤ d ∧ d ≤ 1073741824) :
    dancestudiolaw01_NumOrder.j2 (f + 6) m (cmp3 (a * b) (c * d)) false a b c d = some true := by
  simp only [dancestudiolaw01_NumOrder.j2]
  rw [if_neg (by simp), awake_ok (by omega)]
  by_cases c1 : m < 1
  · rw [if_pos c1]; rfl
  · rw [if_neg c1]
    by_cases c2 : m > 1048576
    · rw [if_pos c2]; rfl
    · rw [if_neg c2]
      have r1 := mul_range (a := a) (b := m) (A := 1073741824) (B := 1048576) (by omega) (by omega) (by omega) (by omega)
      have r2 := mul_range (a := c) (b := m) (A := 1073741824) (B := 1048576) (by omega) (by omega) (by omega) (by omega)
      rw [w64 (n := a * m) (by omega) (by omega), w64 (n := c * m) (by omega) (by omega)]
      rw [compares_some f (by simp only [Bool.and_eq_true, sm_iff]; omega)]
      rw [show a * m * b = a * b * m by grind, show c * m * d = c * d * m by grind, cmp3_scale (by omega)]
      simp
theorem pure_law (a b c d m : Int) : ∃ k, dancestudiolaw01_NumOrder.f k a b c d m = some true := by
  refine ⟨60 + 8, ?_⟩
  unfold dancestudiolaw01_NumOrder.f
  by_cases h : (sm a && sm b && sm c && sm d) = true
  · rw [compare_some 63 h]
    simp only [Option.bind_some, if_true]
    have hr := cmp3_range (a * b) (c * d)
    have h' : (sm c && sm d && sm a && sm b) = true := by simp only [Bool.and_eq_true] at *; simp [h]
    have h'' : (sm b && sm a && sm d && sm c) = true := by simp only [Bool.and_eq_true] at *; simp [h]
    rw [if_neg (by omega), if_neg (by omega), w64 (by omega) (by omega), compares_some 63 h', compares_some 63 h'', ← cmp3_swap, Int.mul_comm b a, Int.mul_comm d c]
    simp only [Option.bind_some, decide_true, if_true, Bool.not_true, dancestudiolaw01_NumOrder.j0]
    rw [if_neg (by simp)]
    have j1t : ∀ n, dancestudiolaw01_NumOrder.j1 67 m n true a b c d = some true := fun n => by
      simp only [dancestudiolaw01_NumOrder.j1]; rw [awake_ok (by omega)]; simp
    by_cases c1 : mx (mx (mx a b) c) d > 1073741824
    · rw [if_pos c1]; exact j1t _
    · rw [if_neg c1]
      by_cases c2 : mn (mn (mn a b) c) d < -1073741824
      · rw [show decide (mn (mn (mn a b) c) d < -1073741824) = true by simp; omega]; exact j1t _
      · rw [show decide (mn (mn (mn a b) c) d < -1073741824) = false by simp; omega]
        have hb : -1073741824 ≤ a ∧ a ≤ 1073741824 ∧ -1073741824 ≤ b ∧ b ≤ 1073741824 ∧ -1073741824 ≤ c ∧ c ≤ 1073741824 ∧ -1073741824 ≤ d ∧ d ≤ 1073741824 := by
          have x1 := le_mx (mx (mx a b) c) d
          have x2 := le_mx (mx a b) c
          have x3 := le_mx a b
          have y1 := mn_le (mn (mn a b) c) d
          have y2 := mn_le (mn a b) c
          have y3 := mn_le a b
          omega
        have j2 := j2_ok (f := 60) (m := m) (by omega) hb
        have r1 := mul_range2 (a := a) (b := b) (A := 1073741824) (B := 1073741824) (by omega) (by omega) (by omega) (by omega)
        have r2 := mul_range2 (a := c) (b := d) (A := 1073741824) (B := 1073741824) (by omega) (by omega) (by omega) (by omega)
        simp only [dancestudiolaw01_NumOrder.j1]
        rw [if_neg (by simp), w64 (n := a * b) (by omega) (by omega), w64 (n := c * d) (by omega) (by omega)]
        rcases cmp3_cases (a * b) (c * d) with ⟨g, e⟩ | ⟨g, e⟩ | ⟨g, e⟩ <;> rw [e] at j2 ⊢
        · rw [if_neg (by omega), if_pos (by omega), if_neg (by omega), if_neg (by omega)]; exact j2
        · rw [if_pos rfl, if_pos g, if_neg (by omega), if_neg (by omega)]; exact j2
        · rw [if_neg (by omega), if_neg (by omega), if_pos (by omega), show decide (a * b ≤ c * d) = false by simp; omega]; exact j2
  · rw [compare_bad 63 (by simpa using h)]
    simp only [Option.bind_some]
    rw [awake_ok (by omega)]; simp
end Go.Proofs.Ytodjapnmobekjaa.PNumOrder
