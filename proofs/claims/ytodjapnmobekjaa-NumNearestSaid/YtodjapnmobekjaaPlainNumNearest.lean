/- A rounded quotient is exact to half a unit, halves go to the even integer, a changed sign of one number changes its sign, and the remainder of Floor lies below the divisor: the plain law, for all integers. -/
import Derived.Test.YtodjapnmobekjaaPNumNearestx4
import Derived.Test.YtodjapnmobekjaaMathNum
import Derived.Test.YtodjapnmobekjaaLemNearNumNearest
import Derived.Test.YtodjapnmobekjaaLemRoundNumNearest
namespace Go.Proofs.Ytodjapnmobekjaa.PNumNearest
open Go Go.RowKit Go.Proofs.YtodjapnmobekjaaW.PrintWords Go.Proofs.YtodjapnmobekjaaW.PrintLast Go.Proofs.YtodjapnmobekjaaW.PrintMore Go.Proofs.Ytodjapnmobekjaa.MathNum
theorem rnd_range {a b : Int} (h0 : b ≠ 0) (h1 : -1125899906842624 ≤ a) (h2 : a ≤ 1125899906842624) : -1125899906842624 ≤ rnd a b ∧ rnd a b ≤ 1125899906842624 := by
  unfold rnd; split
  · exact near_range (by omega) (by omega) (by omega)
  · exact near_range (by omega) (by omega) (by omega)
theorem rnd_neg {a b : Int} (h0 : b ≠ 0) : rnd (-a) b = -rnd a b := by
  unfold rnd; split
  · exact near_neg (by omega)
  · exact near_neg (by omega)
theorem rnd_neg2 {a b : Int} (h0 : b ≠ 0) : rnd a (-b) = -rnd a b := by
  unfold rnd
  by_cases h : b < 0
  · rw [if_pos h, if_neg (by omega), near_neg (by omega)]; omega
  · rw [if_neg h, if_pos (by omega), Int.neg_neg, near_neg (by omega)]
theorem sm_neg {a : Int} (h : sm a = true) : sm (-a) = true := by rw [sm_iff] at *; omega
theorem rounds_some (k : Nat) {w a b : Int} (h1 : sm a = true) (h2 : sm b = true) (h0 : b ≠ 0) : dancestudiolaw01_rounds.f (k + 3) w a b = some (decide (rnd a b = w)) := by
  unfold dancestudiolaw01_rounds.f
  rw [round_some, h1, h2]
  simp only [Option.bind_some, Bool.and_self, if_true]
  rw [if_neg h0]
  split <;> simp_all
theorem pure_law (a b : Int) : ∃ n, dancestudiolaw01_NumNearest.f n a b = some true := by
  refine ⟨60 + 8, ?_⟩
  unfold dancestudiolaw01_NumNearest.f
  rw [show 60 + 8 = 65 + 3 from rfl, round_some]
  simp only [Option.bind_some]
  by_cases h : (sm a && sm b) = true
  · rw [if_pos h]
    simp only [Bool.and_eq_true] at h
    obtain ⟨h1, h2⟩ := h
    have g1 := sm_iff.mp h1
    have g2 := sm_iff.mp h2
    rw [if_neg (by omega), if_neg (by omega), if_neg (by omega), show decide (b > 1125899906842624) = false by simp; omega]
    by_cases h0 : b = 0
    · rw [if_pos h0]
      simp only [dancestudiolaw01_NumNearest.j0]
      rw [if_neg (by simp), if_pos h0, awake_ok (by omega)]; simp
    · rw [if_neg h0]
      simp only [dancestudiolaw01_NumNearest.j0]
      have rr := rnd_range h0 g1.1 g1.2
      rw [if_neg (by simp), if_neg h0, if_pos trivial, w64 (n := -rnd a b) (by omega) (by omega), w64 (n := -a) (by omega) (by omega), w64 (n := -b) (by omega) (by omega)]
      rw [rounds_some 64 (sm_neg h1) h2 h0, rounds_some 64 h1 (sm_neg h2) (by omega), rnd_neg h0, rnd_neg2 h0]
      simp only [Option.bind_some, decide_true, if_true, Bool.not_true, dancestudiolaw01_NumNearest.j1]
      rw [if_neg (by simp), w64 (n := -a) (by omega) (by omega), w64 (n := -b) (by omega) (by omega)]
      -- the absolute values
      have hc : ∃ c, mx b (-b) = c ∧ 0 < c ∧ c ≤ 1125899906842624 ∧ (c = b ∨ c = -b) := ⟨_, rfl, by unfold mx; split <;> omega, by unfold mx; split <;> omega, by unfold mx; split <;> omega⟩
      have hd : ∃ d, mx a (-a) = d ∧ 0 ≤ d ∧ d ≤ 1125899906842624 ∧ a ≤ d ∧ -d ≤ a := ⟨_, rfl, by unfold mx; split <;> omega, by unfold mx; split <;> omega, by unfold mx; split <;> omega, by unfold mx; split <;> omega⟩
      obtain ⟨c, ec, c0, c1, cb⟩ := hc
      obtain ⟨d, ed, d0, d1, da, dn⟩ := hd
      rw [ec, ed, if_neg (by omega), w64 (n := -d) (by omega) (by omega)]
      have e1 : Int.tdiv d c = d / c := Int.tdiv_eq_ediv_of_nonneg d0
      have e2 : Int.tdiv (-d) c = -(d / c) := by rw [Int.neg_tdiv, e1]
      have dr := ediv_range (a := d) (b := c) (A := 1125899906842624) c0 (by omega) d1
      rw [e1, e2, w64 (n := d / c) (by omega) (by omega), w64 (n := d / c + 1) (by omega) (by omega), w64 (n := -(d / c)) (by omega) (by omega), w64 (n := -(d / c) - 1) (by omega) (by omega)]
      -- what rnd is
      have off : 2 * (a - rnd a b * b) ≤ c ∧ -c ≤ 2 * (a - rnd a b * b) ∧ (2 * (a - rnd a b * b) = c ∨ 2 * (a - rnd a b * b) = -c → rnd a b % 2 = 0) := by
        unfold rnd
        by_cases s : b < 0
        · rw [if_pos s]
          have := near_off (a := -a) (b := -b) (by omega)
          rw [show near (-a) (-b) * -b = -(near (-a) (-b) * b) from Int.mul_neg _ _] at this
          have hc : c = -b := by omega
          subst hc
          refine ⟨by omega, by omega, fun h => this.2.2 (by omega)⟩
        · rw [if_neg s]
          have hc : c = b := by omega
          subst hc
          exact near_off c0
      have ub : -(d / c) - 1 ≤ rnd a b ∧ rnd a b ≤ d / c + 1 := by
        have e := Int.mul_ediv_add_emod d c
        have l := Int.emod_lt_of_pos d c0
        have l0 := Int.emod_nonneg d (show c ≠ 0 by omega)
        have q1 : d ≤ (d / c + 1) * c := by rw [Int.add_mul, Int.mul_comm]; omega
        unfold rnd
        have nn : -(d / c + 1) * c = -((d / c + 1) * c) := Int.neg_mul _ _
        by_cases s : b < 0
        · rw [if_pos s]
          have hc : c = -b := by omega
          rw [← hc]
          have hi := near_hi (a := -a) (b := c) (m := d / c + 1) c0 (by omega)
          have lo := near_lo (a := -a) (b := c) (m := -(d / c + 1)) c0 (by omega)
          omega
        · rw [if_neg s]
          have hc : c = b := by omega
          rw [← hc]
          have hi := near_hi (a := a) (b := c) (m := d / c + 1) c0 (by omega)
          have lo := near_lo (a := a) (b := c) (m := -(d / c + 1)) c0 (by omega)
          omega
      rw [if_neg (by omega), show decide (rnd a b > d / c + 1) = false by simp; omega]
      have nb : -4503599627370496 ≤ rnd a b * b ∧ rnd a b * b ≤ 4503599627370496 := by omega
      generalize hn : rnd a b = n at *
      have j3 : dancestudiolaw01_NumNearest.j3 65 a c d false = some true := by
        simp only [dancestudiolaw01_NumNearest.j3]
        rw [if_neg (by simp), show 64 = 61 + 3 from rfl, floor_some]
        have hsc : sm c = true := by rw [sm_iff]; omega
        rw [h1, hsc]
        simp only [Option.bind_some, Bool.and_self, if_true]
        rw [if_neg (show ¬ c = 0 by omega), if_neg (show ¬ c < 0 by omega)]
        have m0 := Int.emod_nonneg a (show c ≠ 0 by omega)
        have m1 := Int.emod_lt_of_pos a c0
        have qr := ediv_range (a := a) (b := c) (A := 1125899906842624) c0 (by omega) (by omega)
        have e := Int.mul_ediv_add_emod a c
        have e' : a / c * c = c * (a / c) := Int.mul_comm _ _
        simp only [if_true]
        rw [if_pos m0, if_pos m1, if_neg (by omega), w64 (n := -d) (by omega) (by omega), e1, e2, w64 (n := d / c) (by omega) (by omega), w64 (n := -(d / c)) (by omega) (by omega), w64 (n := -(d / c) - 1) (by omega) (by omega)]
        have q1 : -(d / c) - 1 ≤ a / c := by
          have e := Int.mul_ediv_add_emod d c
          have l := Int.emod_lt_of_pos d c0
          have l0 := Int.emod_nonneg d (show c ≠ 0 by omega)
          refine Int.le_ediv_of_mul_le c0 ?_
          have : (-(d / c) - 1) * c = -(c * (d / c)) - c := by grind
          omega
        have q2 : a / c ≤ d / c := Int.ediv_le_ediv c0 da
        rw [if_pos q1, if_pos q2, w64 (n := a / c * c) (by omega) (by omega), w64 (by omega) (by omega), if_pos (by omega), awake_ok (by omega)]
        rfl
      simp only [dancestudiolaw01_NumNearest.j2]
      rw [if_neg (by simp), w64 (n := n * b) (by omega) (by omega), w64 (n := a - n * b) (by omega) (by omega), w64 (n := -c) (by omega) (by omega), w64 (n := 2 * (a - n * b)) (by omega) (by omega)]
      rw [if_neg (by omega), if_neg (by omega)]
      by_cases k1 : 2 * (a - n * b) = c
      · rw [if_pos k1]
        have : (n.tmod 2 != 0) = false := by
          rw [bne_eq_false_iff_eq, tmod2]; exact off.2.2 (by omega)
        rw [this]; exact j3
      · rw [if_neg k1]
        by_cases k2 : 2 * (a - n * b) = -c
        · rw [if_pos k2]
          have : (n.tmod 2 != 0) = false := by
            rw [bne_eq_false_iff_eq, tmod2]; exact off.2.2 (by omega)
          rw [this]; exact j3
        · rw [if_neg k2]; exact j3
  · rw [if_neg h]
    have hb : dancestudiolaw01_NumNearest.j0 (65 + 3) a b 0 1 true = some true := by
      simp only [dancestudiolaw01_NumNearest.j0]
      rw [awake_ok (by omega)]; simp
    by_cases c1 : a < -1125899906842624
    · rw [if_pos c1]; exact hb
    · rw [if_neg c1]
      by_cases c2 : a > 1125899906842624
      · rw [if_pos c2]; exact hb
      · rw [if_neg c2]
        by_cases c3 : b < -1125899906842624
        · rw [if_pos c3]; exact hb
        · rw [if_neg c3]
          by_cases c4 : b > 1125899906842624
          · rw [show decide (b > 1125899906842624) = true by simp; omega]; exact hb
          · exfalso; apply h; simp only [Bool.and_eq_true, sm_iff]; omega
end Go.Proofs.Ytodjapnmobekjaa.PNumNearest
