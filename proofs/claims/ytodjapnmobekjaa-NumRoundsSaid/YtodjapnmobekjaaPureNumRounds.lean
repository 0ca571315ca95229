/- NumRounds: the printed statement over numbers and lists, from the plain law. -/
import Derived.Test.YtodjapnmobekjaaPNumRoundsx4
import Derived.Test.YtodjapnmobekjaaPlainNumRounds
namespace Go.Proofs.Ytodjapnmobekjaa.Pure
open Go.RowKit Go.Proofs.Ytodjapnmobekjaa.PNumRounds Go.Proofs.YtodjapnmobekjaaW.PrintWords Go.Proofs.YtodjapnmobekjaaW.PrintLast

theorem NumRounds : dancestudiolaw01_NumRounds.Pure := fun a b _ _ => PNumRounds.pure_law a b

end Go.Proofs.Ytodjapnmobekjaa.Pure
