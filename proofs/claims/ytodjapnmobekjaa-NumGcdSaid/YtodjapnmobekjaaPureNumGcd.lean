/- NumGcd: the printed statement over numbers and lists, from the plain law. -/
import Derived.Test.YtodjapnmobekjaaPNumGcdx4
import Derived.Test.YtodjapnmobekjaaPlainNumGcd
namespace Go.Proofs.Ytodjapnmobekjaa.Pure
open Go.RowKit Go.Proofs.Ytodjapnmobekjaa.PNumGcd Go.Proofs.YtodjapnmobekjaaW.PrintWords Go.Proofs.YtodjapnmobekjaaW.PrintLast

theorem NumGcd : dancestudiolaw01_NumGcd.Pure := fun a b c _ _ _ => PNumGcd.pure_law a b c

end Go.Proofs.Ytodjapnmobekjaa.Pure
