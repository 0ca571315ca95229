/- The square test of the laws, the test of sameness, and Solve with its prices. -/
import Derived.Test.YtbmflpflmjfabaaPAllx0
import Derived.Test.YtbmflpflmjfabaaPAllf18
import Derived.Test.YtbmflpflmjfabaaPAllf19
import Derived.Test.YtbmflpflmjfabaaAsgAwake
import Derived.Test.YtbmflpflmjfabaaAsgSolve
namespace Go.Proofs.Ytbmflpflmjfabaa.PAll
set_option linter.unusedVariables false
open Go Go.RowKit Go.Proofs.YtbmflpflmjfabaaW.PrintWords Go.Proofs.YtbmflpflmjfabaaW.PrintLast Go.Proofs.YtbmflpflmjfabaaW.PrintMore Go.Proofs.Ytbmflpflmjfabaa.MathNum Go.Proofs.Ytbmflpflmjfabaa.EvWords

/-- Whether a table is square. -/
theorem square_ev (c : List (List Int)) (hc : c.length ≤ 9223372036854775807) : ∃ b, Ev (fun k => dancestudiolaw11_square.f k c) b ∧ (chk c = 0 → b = true) := by
  have main : ∀ d : Nat, ∀ i : Nat, i + d = c.length → ∃ b, Ev (fun k => dancestudiolaw11_square.l0 k c (i : Int)) b ∧ ((∀ r ∈ c, r.length = c.length) → b = true) := by
    intro d
    induction d with
    | zero =>
      intro i hi
      exact ⟨true, ev_step (fun k => by simp only [dancestudiolaw11_square.l0] <;> exact rfl) (ev_neg (by omega) (ev_now _)), fun _ => rfl⟩
    | succ d ih =>
      intro i hi
      by_cases e : ((rd_L1 c i).length : Int) = c.length
      · obtain ⟨b, e', h⟩ := ih (i + 1) (by omega)
        refine ⟨b, ev_step (fun k => by simp only [dancestudiolaw11_square.l0] <;> exact rfl) (ev_pos (by omega) (ev_pos (by omega) (ev_pos e ?_))), h⟩
        rw [w64 (by omega) (by omega)]
        exact e'
      · refine ⟨false, ev_step (fun k => by simp only [dancestudiolaw11_square.l0] <;> exact rfl) (ev_pos (by omega) (ev_pos (by omega) (ev_neg e (ev_now _)))), fun h => ?_⟩
        rw [rdL_nat c (by omega)] at e
        exact absurd (by rw [h _ (List.getElem_mem _)]) e
  obtain ⟨b, e, h⟩ := main c.length 0 (by omega)
  exact ⟨b, by simp only [dancestudiolaw11_square.f]; exact e, fun hz => h (chk_zero hz).2.1⟩

theorem same_ev (l : List Int) (hl : l.length ≤ 9223372036854775807) : Ev (fun k => dancestudiolaw11_same.f k l l) true := by
  have main : ∀ d : Nat, ∀ i : Nat, i + d = l.length → Ev (fun k => dancestudiolaw11_same.l0 k l l (i : Int)) true := by
    intro d
    induction d with
    | zero =>
      intro i hi
      exact ev_step (fun k => by simp only [dancestudiolaw11_same.l0] <;> exact rfl) (ev_neg (by omega) (ev_now _))
    | succ d ih =>
      intro i hi
      refine ev_step (fun k => by simp only [dancestudiolaw11_same.l0] <;> exact rfl) (ev_pos (by omega) (ev_pos (by omega) (ev_pos (by omega) (ev_pos (by trivial) ?_))))
      rw [w64 (by omega) (by omega)]
      exact ih (i + 1) (by omega)
  simp only [dancestudiolaw11_same.f]
  exact ev_pos trivial (main l.length 0 (by omega))
end Go.Proofs.Ytbmflpflmjfabaa.PAll
