/- Round and Floor return the specified quotients or errors: the plain law, for all integers. -/
import Derived.Test.YtodjapnmobekjaaPNumRoundsx4
import Derived.Test.YtodjapnmobekjaaMathNum
import Derived.Test.YtodjapnmobekjaaLemNearNumRounds
import Derived.Test.YtodjapnmobekjaaLemRefNearNumRounds
import Derived.Test.YtodjapnmobekjaaLemRoundNumRounds
namespace Go.Proofs.Ytodjapnmobekjaa.PNumRounds
open Go Go.RowKit Go.Proofs.YtodjapnmobekjaaW.PrintWords Go.Proofs.YtodjapnmobekjaaW.PrintLast Go.Proofs.YtodjapnmobekjaaW.PrintMore Go.Proofs.Ytodjapnmobekjaa.MathNum
theorem rsmall_some (a : Int) : dancestudioref01_Small.f a = some (sm a) := by
  unfold dancestudioref01_Small.f sm
  by_cases h : a ≥ -1125899906842624
  · rw [if_pos h]; simp; omega
  · rw [if_neg h]; simp; omega
theorem rround_some (k : Nat) (a b : Int) : dancestudioref01_Round.f (k + 1) a b = some (if (sm a && sm b) = true then (if b = 0 then (0, 11) else (rnd a b, 0)) else (0, 1)) := by
  unfold dancestudioref01_Round.f
  simp only [rsmall_some, Option.bind_some]
  have hb : dancestudioref01_Round.j0 (k + 1) a b true = some (0, 1) := by simp [dancestudioref01_Round.j0]
  cases h1 : sm a
  · simp [hb]
  · cases h2 : sm b
    · simp [hb]
    · simp only [if_true, Bool.not_true, Bool.and_self, dancestudioref01_Round.j0, Bool.false_eq_true, if_false]
      rw [sm_iff] at h1 h2
      by_cases h0 : b = 0
      · rw [if_pos h0, if_pos h0]
      · rw [if_neg h0, if_neg h0]
        unfold rnd
        by_cases h1 : b < 0
        · rw [if_pos h1, if_pos h1, w64 (by omega) (by omega), w64 (by omega) (by omega), rnearest_some (by omega) (by omega) (by omega) (by omega)]; rfl
        · rw [if_neg h1, if_neg h1, rnearest_some (by omega) (by omega) (by omega) (by omega)]; rfl
theorem rfloor_some (k : Nat) (a b : Int) : dancestudioref01_Floor.f (k + 1) a b = some (if (sm a && sm b) = true then (if b = 0 then (0, 0, 11) else if b < 0 then (0, 0, 1) else (a / b, a % b, 0)) else (0, 0, 1)) := by
  unfold dancestudioref01_Floor.f
  simp only [rsmall_some, Option.bind_some]
  have hb : dancestudioref01_Floor.j0 (k + 1) a b true = some (0, 0, 1) := by simp [dancestudioref01_Floor.j0]
  cases h1 : sm a
  · simp [hb]
  · cases h2 : sm b
    · simp [hb]
    · simp only [if_true, Bool.not_true, Bool.and_self, dancestudioref01_Floor.j0, Bool.false_eq_true, if_false]
      rw [sm_iff] at h1 h2
      by_cases h0 : b = 0
      · rw [if_pos h0, if_pos h0]
      · rw [if_neg h0, if_neg h0]
        by_cases h1 : b < 0
        · rw [if_pos h1, if_pos h1]
        · rw [if_neg h1, if_neg h1, down_some (by omega) (by omega) (by omega) (by omega)]; rfl
theorem pure_law (a b : Int) : ∃ n, dancestudiolaw01_NumRounds.f n a b = some true := by
  refine ⟨60 + 3, ?_⟩
  unfold dancestudiolaw01_NumRounds.f
  rw [round_some, rround_some 62, floor_some, rfloor_some 62, awake_ok (by omega)]
  simp
end Go.Proofs.Ytodjapnmobekjaa.PNumRounds
