/- FormationChecks: plain law. -/
import Derived.Test.YtaggccbndmmbhaaDoorBase
import Derived.Test.YtaggccbndmmbhaaDoorPAllf3
import Derived.Test.YtaggccbndmmbhaaDoorChk
namespace Go.Proofs.YtaggccbndmmbhaaDoor.PAll
set_option linter.unusedVariables false
open Go Go.RowKit Go.Proofs.YtaggccbndmmbhaaDoorW.PrintWords Go.Proofs.YtaggccbndmmbhaaDoorW.PrintLast Go.Proofs.YtaggccbndmmbhaaDoorW.PrintMore Go.Proofs.YtaggccbndmmbhaaDoor.MathNum Go.Proofs.YtaggccbndmmbhaaDoor.EvWords
theorem pure_FormationChecks (s : ByteArray) (p : List S52) : ∃ k, dancestudiolaw45_FormationChecks.f k s p = some true := by
  refine ev_some (g := fun k => dancestudiolaw45_FormationChecks.f k s p) ?_
  obtain ⟨l, rfl⟩ := ex_mk s
  unfold dancestudiolaw45_FormationChecks.f
  by_cases h1 : (p.length : Int) > 30
  · exact ev_pos h1 awake_out
  refine ev_neg h1 ?_
  by_cases h2 : ((mkB l).size : Int) > 60
  · exact ev_pos h2 awake_out
  refine ev_neg h2 (Ev.bind (check_ev l p) (Ev.bind (rcheck_ev l p) (ev_pos rfl awake_out)))
end Go.Proofs.YtaggccbndmmbhaaDoor.PAll
