/- What the printed functions of the reference of layer 1 that divide and round answer. -/
import Derived.Test.YtodjapnmobekjaaPNumRoundsx4
import Derived.Test.YtodjapnmobekjaaMathNum
import Derived.Test.YtodjapnmobekjaaLemNearNumRounds
namespace Go.Proofs.Ytodjapnmobekjaa.PNumRounds
open Go Go.RowKit Go.Proofs.YtodjapnmobekjaaW.PrintWords Go.Proofs.YtodjapnmobekjaaW.PrintLast Go.Proofs.YtodjapnmobekjaaW.PrintMore Go.Proofs.Ytodjapnmobekjaa.MathNum
theorem down_some {a b : Int} (hb : 0 < b) (hb2 : b ≤ 4611686018427387904) (ha1 : -4611686018427387904 ≤ a) (ha2 : a ≤ 4611686018427387904) : dancestudioref01_down.f a b = some (a / b, a % b) :=
  divide_some hb hb2 ha1 ha2
theorem rnearest_some {a b : Int} (hb : 0 < b) (hb2 : b ≤ 2305843009213693952) (ha1 : -4611686018427387904 ≤ a) (ha2 : a ≤ 4611686018427387904) : dancestudioref01_nearest.f a b = some (near a b) := by
  unfold dancestudioref01_nearest.f
  rw [down_some hb (by omega) ha1 ha2]
  simp only [Option.bind_some]
  have r := ediv_range (A := 4611686018427387904) hb (by omega) ha2
  have l1 := Int.emod_nonneg a (show b ≠ 0 by omega)
  have l2 := Int.emod_lt_of_pos a hb
  unfold near
  generalize a / b = q at *
  generalize a % b = m at *
  rw [w64 (n := b - m) (by omega) (by omega), w64 (n := q + 1) (by omega) (by omega)]
  by_cases c1 : m > b - m
  · rw [if_pos c1, if_pos (Or.inl (by omega))]
  · rw [if_neg c1]
    by_cases c2 : m = b - m
    · rw [if_pos c2]
      by_cases c3 : q.tmod 2 = 0
      · rw [if_pos c3, if_neg (by rw [tmod2] at c3; omega)]
      · rw [if_neg c3, if_pos (by rw [tmod2] at c3; omega)]
    · rw [if_neg c2, if_neg (by omega)]
end Go.Proofs.Ytodjapnmobekjaa.PNumRounds
