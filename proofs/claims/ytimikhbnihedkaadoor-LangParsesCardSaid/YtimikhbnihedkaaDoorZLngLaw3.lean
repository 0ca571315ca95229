/- Parse is as specified (plain). -/
import Derived.Test.YtimikhbnihedkaaDoorZLngParseR
import Derived.Test.YtimikhbnihedkaaDoorZLngSame
import Derived.Test.YtimikhbnihedkaaDoorZPAllf4
namespace Go.Proofs.YtimikhbnihedkaaDoor.PAll
set_option linter.unusedVariables false
open Go Go.RowKit Go.Proofs.YtimikhbnihedkaaDoorW.PrintWords Go.Proofs.YtimikhbnihedkaaDoorW.PrintLast Go.Proofs.YtimikhbnihedkaaDoorW.PrintMore Go.Proofs.YtimikhbnihedkaaDoor.MathNum Go.Proofs.YtimikhbnihedkaaDoor.EvWords
theorem pure_LangParses (a : ByteArray) : ∃ k, dancestudiolaw35_LangParses.f k a = some true := by
  apply Ev.rounds
  unfold dancestudiolaw35_LangParses.f
  refine ev_ite (fun h => awake_out) (fun h => ?_)
  have p := parse_ev a.data.toList
  have r := rparse_ev a.data.toList
  rw [← ex_data a] at p r
  refine Ev.bind p (Ev.bind r (Ev.bind (same_ev _ (Nat.le_trans (parseV_len _) (by decide))) (ev_pos (show true = true from rfl) (ev_pos rfl awake_out))))
end Go.Proofs.YtimikhbnihedkaaDoor.PAll
