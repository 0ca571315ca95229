/- GeomNear: plain law. -/
import Derived.Test.YtmilejcbkpkplaaPAllx0
import Derived.Test.YtmilejcbkpkplaaPAllf4
import Derived.Test.YtmilejcbkpkplaaGeomNear
namespace Go.Proofs.Ytmilejcbkpkplaa.PAll
set_option linter.unusedVariables false
open Go Go.RowKit Go.Proofs.YtmilejcbkpkplaaW.PrintWords Go.Proofs.YtmilejcbkpkplaaW.PrintLast Go.Proofs.YtmilejcbkpkplaaW.PrintMore Go.Proofs.Ytmilejcbkpkplaa.MathNum Go.Proofs.Ytmilejcbkpkplaa.EvWords

theorem pure_GeomNear (a : Int) (_ : (Lit.int .i64 a).wf = true) (b : Int) (_ : (Lit.int .i64 b).wf = true) (c : Int) (_ : (Lit.int .i64 c).wf = true) (d : Int) (_ : (Lit.int .i64 d).wf = true) (e : Int) (_ : (Lit.int .i64 e).wf = true) (f : Int) (_ : (Lit.int .i64 f).wf = true) (g : Int) (_ : (Lit.int .i64 g).wf = true) :
    ∃ k, dancestudiolaw03_GeomNear.f k a b c d e f g = some true := by
  refine ev_some ?_
  simp only [dancestudiolaw03_GeomNear.f]
  have h := near_ev a b e f c d g
  rw [nearV_rev] at h
  exact Ev.bind (near_ev a b c d e f g) (Ev.bind (rnear_ev a b c d e f g) (Ev.bind h (ev_pos (by simp) (ev_pos rfl (ev_pos (by simp) (ev_pos rfl (Ev.bind awake_ev (ev_now _))))))))
end Go.Proofs.Ytmilejcbkpkplaa.PAll
