/- Lerp returns the specified mean or error: the plain law, for whatever four numbers. -/
import Derived.Test.YtodjapnmobekjaaPNumMeansx3
import Derived.Test.YtodjapnmobekjaaMathNum
import Derived.Test.YtodjapnmobekjaaLemNearNumMeans
import Derived.Test.YtodjapnmobekjaaLemRefNearNumMeans
namespace Go.Proofs.Ytodjapnmobekjaa.PNumMeans
open Go Go.RowKit Go.Proofs.YtodjapnmobekjaaW.PrintWords Go.Proofs.YtodjapnmobekjaaW.PrintLast Go.Proofs.YtodjapnmobekjaaW.PrintMore Go.Proofs.Ytodjapnmobekjaa.MathNum
theorem rlerp_same (a b k d : Int) : dancestudioref01_Lerp.f a b k d = num_Lerp.f a b k d := by
  by_cases h : lerpOk a b k d = true
  · unfold dancestudioref01_Lerp.f num_Lerp.f
    have hh := lerpOk_iff.mp h
    have m := lerp_num h
    rw [w64 (n := d - k) (by omega) (by omega), w64 (n := a * (d - k)) (by omega) (by omega), w64 (n := b * k) (by omega) (by omega), w64 (by omega) (by omega)]
    rw [nearest_some (by omega) (by omega) (by omega) (by omega), rnearest_some (by omega) (by omega) (by omega) (by omega)]
  · have e := lerp_some a b k d
    rw [if_neg h] at e
    rw [e]
    rw [lerpOk_iff] at h
    unfold dancestudioref01_Lerp.f
    repeat' (split; rfl)
    exact absurd ⟨by omega, by omega, by omega, by omega, by omega, by omega, by omega, by omega⟩ h
theorem pure_law (a b k d : Int) : ∃ n, dancestudiolaw01_NumMeans.f n a b k d = some true := by
  refine ⟨60, ?_⟩
  unfold dancestudiolaw01_NumMeans.f
  rw [rlerp_same, lerp_some, awake_ok (by omega)]
  split <;> simp
end Go.Proofs.Ytodjapnmobekjaa.PNumMeans
