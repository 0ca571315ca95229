/- GeomTouch: plain law. -/
import Derived.Test.YtmilejcbkpkplaaPAllx0
import Derived.Test.YtmilejcbkpkplaaPAllf5
import Derived.Test.YtmilejcbkpkplaaGeomTouchRef
namespace Go.Proofs.Ytmilejcbkpkplaa.PAll
set_option linter.unusedVariables false
open Go Go.RowKit Go.Proofs.YtmilejcbkpkplaaW.PrintWords Go.Proofs.YtmilejcbkpkplaaW.PrintLast Go.Proofs.YtmilejcbkpkplaaW.PrintMore Go.Proofs.Ytmilejcbkpkplaa.MathNum Go.Proofs.Ytmilejcbkpkplaa.EvWords

theorem pure_GeomTouch (a : Int) (_ : (Lit.int .i64 a).wf = true) (b : Int) (_ : (Lit.int .i64 b).wf = true) (c : Int) (_ : (Lit.int .i64 c).wf = true) (d : Int) (_ : (Lit.int .i64 d).wf = true) (e : Int) (_ : (Lit.int .i64 e).wf = true) (f : Int) (_ : (Lit.int .i64 f).wf = true) (g : Int) (_ : (Lit.int .i64 g).wf = true) (h : Int) (_ : (Lit.int .i64 h).wf = true) (i : Int) (_ : (Lit.int .i64 i).wf = true) (j : Int) (_ : (Lit.int .i64 j).wf = true) :
    ∃ k, dancestudiolaw03_GeomTouch.f k a b c d e f g h i j = some true := by
  refine ev_some ?_
  simp only [dancestudiolaw03_GeomTouch.f]
  have h1 := touch_ev f g h i j a b c d e
  rw [touchV_swap] at h1
  have h2 := touch_ev c d a b e h i f g j
  rw [touchV_rev] at h2
  exact Ev.bind (touch_ev a b c d e f g h i j) (Ev.bind (rtouch_ev a b c d e f g h i j) (Ev.bind h1 (Ev.bind h2 (ev_pos (by simp) (ev_pos rfl (ev_pos (by simp) (ev_pos rfl (ev_pos (by simp) (ev_pos rfl (Ev.bind awake_ev (ev_now _)))))))))))
end Go.Proofs.Ytmilejcbkpkplaa.PAll
