/- A mean of numbers that are greater by an even number is greater by it: the plain law, for whatever five numbers. -/
import Derived.Test.YtodjapnmobekjaaPNumShiftx4
import Derived.Test.YtodjapnmobekjaaMathNum
import Derived.Test.YtodjapnmobekjaaLemNearNumShift
namespace Go.Proofs.Ytodjapnmobekjaa.PNumShift
open Go Go.RowKit Go.Proofs.YtodjapnmobekjaaW.PrintWords Go.Proofs.YtodjapnmobekjaaW.PrintLast Go.Proofs.YtodjapnmobekjaaW.PrintMore Go.Proofs.Ytodjapnmobekjaa.MathNum
theorem unit_some (a : Int) : dancestudiolaw01_unit.f a = some (decide (-1048576 ≤ a ∧ a ≤ 1048576)) := by
  unfold dancestudiolaw01_unit.f
  by_cases h : a ≥ -1048576
  · rw [if_pos h]; simp; omega
  · rw [if_neg h]; simp; omega
theorem j0_awake {c n a b k d : Int} {f : Nat} (hf : 60 ≤ f) : dancestudiolaw01_NumShift.j0 (f + 1) c n true a b k d = some true := by
  simp only [dancestudiolaw01_NumShift.j0]
  rw [awake_ok hf]; simp
theorem even_part {c : Int} (h1 : -1048576 ≤ c) (h2 : c ≤ 1048576) : ∃ e, wrap64 ((wrap64 (Int.tdiv c 2)) * 2) = e ∧ -1048576 ≤ e ∧ e ≤ 1048576 ∧ e % 2 = 0 := by
  have h : ∃ q, Int.tdiv c 2 = q ∧ -524288 ≤ q ∧ q ≤ 524288 := by
    refine ⟨_, rfl, ?_⟩
    rw [Int.tdiv_eq_ediv]
    split
    · omega
    · rw [show Int.sign 2 = 1 from rfl]; omega
  obtain ⟨q, e, b1, b2⟩ := h
  rw [e, w64 (n := q) (by omega) (by omega), w64 (by omega) (by omega)]
  exact ⟨q * 2, rfl, by omega, by omega, by omega⟩
theorem pure_law (a b k d c : Int) : ∃ n, dancestudiolaw01_NumShift.f n a b k d c = some true := by
  refine ⟨60 + 4, ?_⟩
  unfold dancestudiolaw01_NumShift.f
  rw [lerp_some, unit_some, unit_some, unit_some]
  have hb := fun (n : Int) => j0_awake (c := c) (n := n) (a := a) (b := b) (k := k) (d := d) (f := 63) (by omega)
  by_cases h : lerpOk a b k d = true
  · have hh := lerpOk_iff.mp h
    have m := lerp_num h
    rw [if_pos h]
    simp only [Option.bind_some]
    rw [if_pos trivial]
    by_cases cc : -1048576 ≤ c ∧ c ≤ 1048576
    · rw [if_pos (by simp; omega), if_pos (by simp; omega)]
      rw [show decide (-1048576 ≤ b ∧ b ≤ 1048576) = true by simp; omega]
      simp only [Bool.not_true, dancestudiolaw01_NumShift.j0]
      obtain ⟨e, he, e1, e2, e3⟩ := even_part cc.1 cc.2
      rw [he, if_neg (by simp), w64 (n := a + e) (by omega) (by omega), w64 (n := b + e) (by omega) (by omega)]
      simp only [unit_some, Option.bind_some]
      have aw : ∀ n, dancestudiolaw01_NumShift.j1 63 e n true a b k d = some true := fun n => by
        simp only [dancestudiolaw01_NumShift.j1]; rw [awake_ok (by omega)]; simp
      by_cases c1 : -1048576 ≤ a + e ∧ a + e ≤ 1048576
      · rw [if_pos (by simp; omega)]
        by_cases c2 : -1048576 ≤ b + e ∧ b + e ≤ 1048576
        · rw [show decide (-1048576 ≤ b + e ∧ b + e ≤ 1048576) = true by simp; omega]
          simp only [Bool.not_true, dancestudiolaw01_NumShift.j1]
          have nr := near_range (a := a * (d - k) + b * k) (b := d) (A := 1099511627776) (by omega) (by omega) (by omega)
          rw [if_neg (by simp), w64 (by omega) (by omega), w64 (n := a + e) (by omega) (by omega), w64 (n := b + e) (by omega) (by omega), lerps_some]
          have h2 : lerpOk (a + e) (b + e) k d = true := by rw [lerpOk_iff]; omega
          have ee : (a + e) * (d - k) + (b + e) * k = (a * (d - k) + b * k) + e * d := by grind
          rw [h2, ee, near_shift (by omega) e3, awake_ok (by omega)]
          simp
        · rw [show decide (-1048576 ≤ b + e ∧ b + e ≤ 1048576) = false by simp; omega]
          exact aw _
      · rw [if_neg (by simp; omega)]; exact aw _
    · rw [if_neg (by simp; omega)]; exact hb _
  · rw [if_neg h]
    simp only [Option.bind_some]
    rw [if_neg (by omega)]; exact hb _
end Go.Proofs.Ytodjapnmobekjaa.PNumShift
