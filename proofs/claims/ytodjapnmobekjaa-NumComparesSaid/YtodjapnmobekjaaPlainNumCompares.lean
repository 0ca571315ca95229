/- Compare returns the specified order of two products or the error: the plain law, for all integers. -/
import Derived.Test.YtodjapnmobekjaaPNumComparesx4
import Derived.Test.YtodjapnmobekjaaMathNum
import Derived.Test.YtodjapnmobekjaaLemCmpNumCompares
import Derived.Test.YtodjapnmobekjaaLemRefCmpNumCompares
namespace Go.Proofs.Ytodjapnmobekjaa.PNumCompares
open Go Go.RowKit Go.Proofs.YtodjapnmobekjaaW.PrintWords Go.Proofs.YtodjapnmobekjaaW.PrintLast Go.Proofs.YtodjapnmobekjaaW.PrintMore Go.Proofs.Ytodjapnmobekjaa.MathNum
theorem awake_ok {k : Nat} (hk : 60 ≤ k) : dancestudiolaw01_awake.f k = some true :=
  at_rounds dancestudiolaw01_awake.mono hk (by decide +kernel)
theorem pure_law (a b c d : Int) : ∃ k, dancestudiolaw01_NumCompares.f k a b c d = some true := by
  refine ⟨60 + 5, ?_⟩
  unfold dancestudiolaw01_NumCompares.f
  rw [rcompare_some 64, awake_ok (by omega)]
  by_cases h : (sm a && sm b && sm c && sm d) = true
  · rw [if_pos h, compare_some 60 h]; simp
  · rw [if_neg h, compare_bad 60 (by simpa using h)]; simp
end Go.Proofs.Ytodjapnmobekjaa.PNumCompares
