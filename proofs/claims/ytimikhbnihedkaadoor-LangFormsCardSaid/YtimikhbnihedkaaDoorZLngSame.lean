/- Equal expressions are the same (plain). -/
import Derived.Test.YtimikhbnihedkaaDoorZMC3
import Derived.Test.YtimikhbnihedkaaDoorZMC2
namespace Go.Proofs.YtimikhbnihedkaaDoor.PAll
set_option linter.unusedVariables false
open Go Go.RowKit Go.Proofs.YtimikhbnihedkaaDoorW.PrintWords Go.Proofs.YtimikhbnihedkaaDoorW.PrintLast Go.Proofs.YtimikhbnihedkaaDoorW.PrintMore Go.Proofs.YtimikhbnihedkaaDoor.MathNum Go.Proofs.YtimikhbnihedkaaDoor.EvWords

theorem same_l0 (l : List S43) (hn : l.length ≤ 100000) (d : Nat) : ∀ i : Nat, i + d = l.length → Ev (fun k => dancestudioref35_Same.l0 k l l (i : Int)) true := by
  induction d with
  | zero => intro i hi; exact ev_step (fun k => by simp only [dancestudioref35_Same.l0] <;> exact rfl) (ev_neg (by omega) (ev_now _))
  | succ d ih =>
    intro i hi
    refine ev_step (fun k => by simp only [dancestudioref35_Same.l0] <;> exact rfl) (ev_pos (by omega) (ev_pos (by omega) (ev_pos (by omega) (ev_neg (by simp) ?_))))
    rw [w64 (by omega) (by omega)]; exact ih (i + 1) (by omega)
theorem same_ev (l : List S43) (hn : l.length ≤ 100000) : Ev (fun k => dancestudioref35_Same.f k l l) true := ev_pos rfl (same_l0 l hn l.length 0 (by omega))
end Go.Proofs.YtimikhbnihedkaaDoor.PAll
