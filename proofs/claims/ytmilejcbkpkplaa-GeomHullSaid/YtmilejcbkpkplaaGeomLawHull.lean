/- GeomHull: plain law. -/
import Derived.Test.YtmilejcbkpkplaaPAllx0
import Derived.Test.YtmilejcbkpkplaaPAllf7
import Derived.Test.YtmilejcbkpkplaaGeomHulls
namespace Go.Proofs.Ytmilejcbkpkplaa.PAll
set_option linter.unusedVariables false
open Go Go.RowKit Go.Proofs.YtmilejcbkpkplaaW.PrintWords Go.Proofs.YtmilejcbkpkplaaW.PrintLast Go.Proofs.YtmilejcbkpkplaaW.PrintMore Go.Proofs.Ytmilejcbkpkplaa.MathNum Go.Proofs.Ytmilejcbkpkplaa.EvWords

theorem pure_GeomHull (l : List S23) (_ : l.length ≤ maxLen) (_ : ∀ p ∈ l, True) : ∃ k, dancestudiolaw03_GeomHull.f k l = some true := by
  refine ev_some ?_
  simp only [dancestudiolaw03_GeomHull.f]
  by_cases h : (l.length : Int) > 20
  · exact ev_pos h (Ev.bind awake_ev (ev_now _))
  · refine ev_neg h ?_
    obtain ⟨R, hR, e1, e2⟩ := hulls_ev l (by omega)
    exact Ev.bind e1 (Ev.bind e2 (Ev.bind (same_ev (Nat.le_trans hR.len (by decide))) (ev_pos (show true = true from rfl) (ev_pos rfl (Ev.bind awake_ev (ev_now _))))))
end Go.Proofs.Ytmilejcbkpkplaa.PAll
