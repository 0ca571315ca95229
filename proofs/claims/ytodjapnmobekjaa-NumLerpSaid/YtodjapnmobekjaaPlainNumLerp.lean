/- Weighted means begin and end with both numbers, are symmetric and odd, lie between both numbers, and are exact to half a unit, halves going to the even integer: the plain law, for whatever four numbers. -/
import Derived.Test.YtodjapnmobekjaaNumLerpCalls
import Derived.Test.YtodjapnmobekjaaMathNum
import Derived.Test.YtodjapnmobekjaaLemNearNumLerp
namespace Go.Proofs.Ytodjapnmobekjaa.PNumLerp
open Go Go.RowKit Go.Proofs.YtodjapnmobekjaaW.PrintWords Go.Proofs.YtodjapnmobekjaaW.PrintLast Go.Proofs.YtodjapnmobekjaaW.PrintMore Go.Proofs.Ytodjapnmobekjaa.MathNum
theorem unit_some (a : Int) : dancestudiolaw01_unit.f a = some (decide (-1048576 ≤ a ∧ a ≤ 1048576)) := by
  unfold dancestudiolaw01_unit.f
  by_cases h : a ≥ -1048576
  · rw [if_pos h]; simp; omega
  · rw [if_neg h]; simp; omega
theorem j0_bad {n a b k d : Int} {f : Nat} (hf : 60 ≤ f) (hn : n = 0) : dancestudiolaw01_NumLerp.j0 (f + 1) n 1 true a b k d = some true := by
  subst hn
  simp only [dancestudiolaw01_NumLerp.j0]
  rw [awake_ok hf]; simp
theorem j3_good {a b k d : Int} {f : Nat} (hf : 60 ≤ f) (h : lerpOk a b k d = true) : dancestudiolaw01_NumLerp.j3 (f + 1) (near (a * (d - k) + b * k) d) false a b k d = some true := by
  have hh := lerpOk_iff.mp h
  have m := lerp_num h
  have nr := near_range (a := a * (d - k) + b * k) (b := d) (A := 1099511627776) (by omega) (by omega) (by omega)
  simp only [dancestudiolaw01_NumLerp.j3]
  rw [if_neg (by simp), w64 (n := d - k) (by omega) (by omega), w64 (n := -near (a * (d - k) + b * k) d) (by omega) (by omega), w64 (n := -a) (by omega) (by omega), w64 (n := -b) (by omega) (by omega)]
  have h1 : lerpOk b a (d - k) d = true := by rw [lerpOk_iff]; omega
  have h2 : lerpOk (-a) (-b) k d = true := by rw [lerpOk_iff]; omega
  have e1 : b * (d - (d - k)) + a * (d - k) = a * (d - k) + b * k := by grind
  have e2 : -a * (d - k) + -b * k = -(a * (d - k) + b * k) := by grind
  rw [lerps_some, lerps_some, h1, h2, e1, e2, near_neg (by omega), awake_ok hf]
  simp
theorem law_good {a b k d : Int} {f : Nat} (hf : 60 ≤ f) (h : lerpOk a b k d = true) : dancestudiolaw01_NumLerp.j0 (f + 4) (near (a * (d - k) + b * k) d) 0 false a b k d = some true := by
  have hh := lerpOk_iff.mp h
  have m := lerp_num h
  have hd : 0 < d := by omega
  have nr := near_range (a := a * (d - k) + b * k) (b := d) (A := 1048576) hd
  have g := j3_good hf h
  obtain ⟨o1, o2, o3⟩ := near_off (a := a * (d - k) + b * k) hd
  have blo : mn a b * d ≤ a * (d - k) + b * k := by
    have : a * (d - k) + b * k = mn a b * d + (a - mn a b) * (d - k) + (b - mn a b) * k := by grind
    have q1 : 0 ≤ (a - mn a b) * (d - k) := Int.mul_nonneg (by unfold mn; split <;> omega) (by omega)
    have q2 : 0 ≤ (b - mn a b) * k := Int.mul_nonneg (by unfold mn; split <;> omega) (by omega)
    omega
  have bhi : a * (d - k) + b * k ≤ mx a b * d := by
    have : mx a b * d = a * (d - k) + b * k + (mx a b - a) * (d - k) + (mx a b - b) * k := by grind
    have q1 : 0 ≤ (mx a b - a) * (d - k) := Int.mul_nonneg (by unfold mx; split <;> omega) (by omega)
    have q2 : 0 ≤ (mx a b - b) * k := Int.mul_nonneg (by unfold mx; split <;> omega) (by omega)
    omega
  have lo := near_lo hd blo
  have hi := near_hi hd bhi
  have lo' : -1048576 ≤ mn a b := by unfold mn; split <;> omega
  have hi' : mx a b ≤ 1048576 := by unfold mx; split <;> omega
  have k0 : k = 0 → near (a * (d - k) + b * k) d = a := by
    intro e; subst e
    rw [show a * (d - 0) + b * 0 = d * a by grind, near_exact hd]
  have kd : k = d → near (a * (d - k) + b * k) d = b := by
    intro e; subst e
    rw [show a * (k - k) + b * k = k * b by grind, near_exact hd]
  have nd := mul_range (a := near (a * (d - k) + b * k) d) (b := d) (A := 1048576) (B := 524288) (by omega) (by omega) (by omega) (by omega)
  have s : near (a * (d - k) + b * k) d * d - a * (d - k) - b * k = -(a * (d - k) + b * k - near (a * (d - k) + b * k) d * d) := by omega
  generalize hn : near (a * (d - k) + b * k) d = n at *
  have j2 : dancestudiolaw01_NumLerp.j2 (f + 2) n false a b k d = some true := by
    simp only [dancestudiolaw01_NumLerp.j2]
    rw [if_neg (by simp)]
    by_cases c1 : k = 0
    · rw [if_pos c1, if_pos (k0 c1), if_neg (by omega)]; exact g
    · rw [if_neg c1]
      by_cases c2 : k = d
      · rw [if_pos c2, show (n != b) = false by rw [kd c2]; simp]; exact g
      · rw [if_neg c2]; exact g
  have j1 : dancestudiolaw01_NumLerp.j1 (f + 3) n false a b k d = some true := by
    simp only [dancestudiolaw01_NumLerp.j1]
    rw [if_neg (by simp), w64 (n := d - k) (by omega) (by omega), w64 (n := n * d) (by omega) (by omega), w64 (n := a * (d - k)) (by omega) (by omega), w64 (n := b * k) (by omega) (by omega), w64 (n := n * d - a * (d - k)) (by omega) (by omega), w64 (n := n * d - a * (d - k) - b * k) (by omega) (by omega), w64 (n := -d) (by omega) (by omega), w64 (by omega) (by omega)]
    rw [if_neg (by omega), if_neg (by omega)]
    by_cases c1 : 2 * (n * d - a * (d - k) - b * k) = d
    · rw [if_pos c1]
      have : (n.tmod 2 != 0) = false := by
        rw [bne_eq_false_iff_eq, tmod2]; exact o3 (by omega)
      rw [this]; exact j2
    · rw [if_neg c1]
      by_cases c2 : 2 * (n * d - a * (d - k) - b * k) = -d
      · rw [if_pos c2]
        have : (n.tmod 2 != 0) = false := by
          rw [bne_eq_false_iff_eq, tmod2]; exact o3 (by omega)
        rw [this]; exact j2
      · rw [if_neg c2]; exact j2
  simp only [dancestudiolaw01_NumLerp.j0]
  rw [if_neg (by simp), if_pos trivial, if_neg (by omega), show decide (n > mx a b) = false by simp; omega]
  exact j1
theorem pure_law (a b k d : Int) : ∃ n, dancestudiolaw01_NumLerp.f n a b k d = some true := by
  refine ⟨60 + 4, ?_⟩
  unfold dancestudiolaw01_NumLerp.f
  rw [lerp_some, unit_some, unit_some]
  by_cases h : lerpOk a b k d = true
  · have hh := lerpOk_iff.mp h
    rw [if_pos h]
    simp only [Option.bind_some]
    rw [if_pos (by simp; omega), if_pos (by simp; omega), if_neg (by omega), if_neg (by omega), if_neg (by omega), show decide (k > d) = false by simp; omega]
    exact law_good (by omega) h
  · rw [if_neg h]
    simp only [Option.bind_some]
    have hb := j0_bad (n := 0) (a := a) (b := b) (k := k) (d := d) (f := 63) (by omega) rfl
    rw [lerpOk_iff] at h
    by_cases c1 : -1048576 ≤ a ∧ a ≤ 1048576
    · rw [if_pos (by simp; omega)]
      by_cases c2 : -1048576 ≤ b ∧ b ≤ 1048576
      · rw [if_pos (by simp; omega)]
        by_cases c3 : d < 1
        · rw [if_pos c3]; exact hb
        · rw [if_neg c3]
          by_cases c4 : d > 524288
          · rw [if_pos c4]; exact hb
          · rw [if_neg c4]
            by_cases c5 : k < 0
            · rw [if_pos c5]; exact hb
            · rw [if_neg c5, show decide (k > d) = true by simp; omega]; exact hb
      · rw [if_neg (by simp; omega)]; exact hb
    · rw [if_neg (by simp; omega)]; exact hb
end Go.Proofs.Ytodjapnmobekjaa.PNumLerp
