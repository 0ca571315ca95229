/- The chapter's examples, and what every function answers where Check finds an error. -/
import Derived.Test.YtbmflpflmjfabaaPAllx0
import Derived.Test.YtbmflpflmjfabaaPAllf13
import Derived.Test.YtbmflpflmjfabaaPAllf14
import Derived.Test.YtbmflpflmjfabaaPAllf15
import Derived.Test.YtbmflpflmjfabaaPAllf16
import Derived.Test.YtbmflpflmjfabaaMathNum
import Derived.Test.YtbmflpflmjfabaaEvWords
import Derived.Test.YtbmflpflmjfabaaAsgCheck
namespace Go.Proofs.Ytbmflpflmjfabaa.PAll
set_option linter.unusedVariables false
open Go Go.RowKit Go.Proofs.YtbmflpflmjfabaaW.PrintWords Go.Proofs.YtbmflpflmjfabaaW.PrintLast Go.Proofs.YtbmflpflmjfabaaW.PrintMore Go.Proofs.Ytbmflpflmjfabaa.MathNum Go.Proofs.Ytbmflpflmjfabaa.EvWords

set_option maxRecDepth 100000 in
theorem awake_ev : Ev (fun k => dancestudiolaw11_awake.f k) true := Ev.of dancestudiolaw11_awake.mono (k := 60) (by decide +kernel)

theorem solve_bad (c : List (List Int)) (h : chk c ≠ 0) : Ev (fun k => assign_Solve.f k c) ([], 0, chk c) := by
  simp only [assign_Solve.f]
  exact Ev.bind (check_ev c) (ev_neg h (ev_now _))
theorem prices_bad (c : List (List Int)) (h : chk c ≠ 0) : Ev (fun k => assign_Prices.f k c) ([], [], chk c) := by
  simp only [assign_Prices.f]
  exact Ev.bind (check_ev c) (ev_neg h (ev_now _))
theorem cost_bad (c : List (List Int)) (l : List Int) (h : chk c ≠ 0) : Ev (fun k => assign_Cost.f k c l) (0, chk c) := by
  simp only [assign_Cost.f]
  exact Ev.bind (check_ev c) (ev_neg h (ev_now _))
end Go.Proofs.Ytbmflpflmjfabaa.PAll
