/- AssignCost: plain law. -/
import Derived.Test.YtbmflpflmjfabaaPAllx12
import Derived.Test.YtbmflpflmjfabaaAsgAwake
import Derived.Test.YtbmflpflmjfabaaAsgCost
import Derived.Test.YtbmflpflmjfabaaRowWords
namespace Go.Proofs.Ytbmflpflmjfabaa.PAll
set_option linter.unusedVariables false
open Go Go.RowKit Go.Proofs.YtbmflpflmjfabaaW.PrintWords Go.Proofs.YtbmflpflmjfabaaW.PrintLast Go.Proofs.YtbmflpflmjfabaaW.PrintMore Go.Proofs.Ytbmflpflmjfabaa.MathNum Go.Proofs.Ytbmflpflmjfabaa.EvWords Go.Proofs.Ytbmflpflmjfabaa.RowWords

theorem pure_AssignCost (c : List (List Int)) (_ : c.length ≤ maxLen) (_ : ∀ r ∈ c, Held .i64 r) (l : List Int) (_ : Held .i64 l) : ∃ k, dancestudiolaw11_AssignCost.f k c l = some true := by
  refine ev_some ?_
  have key : ∃ R, Ev (fun k => assign_Cost.f k c l) R ∧ Ev (fun k => dancestudioref11_Cost.f k c l) R := by
    by_cases h : chk c = 0
    · by_cases ha : Asg l c.length
      · exact ⟨_, cost_any h l _ (fun _ => rfl) (fun x => absurd ha x), rcost_any h l _ (fun _ => rfl) (fun x => absurd ha x)⟩
      · exact ⟨_, cost_any h l _ (fun x => absurd x ha) (fun _ => rfl), rcost_any h l _ (fun x => absurd x ha) (fun _ => rfl)⟩
    · refine ⟨_, cost_bad c l h, ?_⟩
      simp only [dancestudioref11_Cost.f]
      exact Ev.bind (rcheck_ev c) (ev_neg h (ev_now _))
  obtain ⟨R, e1, e2⟩ := key
  simp only [dancestudiolaw11_AssignCost.f]
  exact Ev.bind e1 (Ev.bind e2 (ev_pos rfl (ev_pos rfl (Ev.bind awake_ev (ev_now _)))))
end Go.Proofs.Ytbmflpflmjfabaa.PAll
