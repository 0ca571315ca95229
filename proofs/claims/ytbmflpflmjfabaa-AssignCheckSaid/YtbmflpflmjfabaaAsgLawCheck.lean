/- AssignCheck: plain law. -/
import Derived.Test.YtbmflpflmjfabaaPAllx9
import Derived.Test.YtbmflpflmjfabaaMathNum
import Derived.Test.YtbmflpflmjfabaaEvWords
import Derived.Test.YtbmflpflmjfabaaAsgCheck
import Derived.Test.YtbmflpflmjfabaaAsgAwake
import Derived.Test.YtbmflpflmjfabaaRowWords
namespace Go.Proofs.Ytbmflpflmjfabaa.PAll
open Go Go.RowKit Go.Proofs.YtbmflpflmjfabaaW.PrintWords Go.Proofs.YtbmflpflmjfabaaW.PrintLast Go.Proofs.YtbmflpflmjfabaaW.PrintMore Go.Proofs.Ytbmflpflmjfabaa.MathNum Go.Proofs.Ytbmflpflmjfabaa.EvWords Go.Proofs.Ytbmflpflmjfabaa.RowWords

theorem pure_AssignCheck (c : List (List Int)) (_ : c.length ≤ maxLen) (_ : ∀ r ∈ c, Held .i64 r) (l : List Int) (_ : Held .i64 l) : ∃ k, dancestudiolaw11_AssignCheck.f k c l = some true := by
  refine ev_some ?_
  simp only [dancestudiolaw11_AssignCheck.f]
  refine Ev.bind (rcheck_ev c) ?_
  refine Ev.bind (check_ev c) ?_
  refine ev_pos rfl ?_
  by_cases h : chk c = 0
  · rw [h]
    refine ev_pos rfl ?_
    exact Ev.bind awake_ev (ev_now _)
  · refine ev_neg h ?_
    refine Ev.bind (solve_bad c h) ?_
    refine Ev.bind (prices_bad c h) ?_
    refine Ev.bind (cost_bad c l h) ?_
    refine ev_pos (by simp) (ev_pos (by simp) (ev_pos rfl (ev_pos (by simp) (ev_pos (by simp) (ev_pos rfl (ev_pos (by simp) (ev_pos rfl ?_)))))))
    exact Ev.bind awake_ev (ev_now _)
end Go.Proofs.Ytbmflpflmjfabaa.PAll
