/- NumRoot: the printed statement over numbers and lists, from the plain law. -/
import Derived.Test.YtodjapnmobekjaaPNumRootx3
import Derived.Test.YtodjapnmobekjaaPlainNumRoot
namespace Go.Proofs.Ytodjapnmobekjaa.Pure
open Go.RowKit Go.Proofs.Ytodjapnmobekjaa.PNumRoot Go.Proofs.YtodjapnmobekjaaW.PrintWords Go.Proofs.YtodjapnmobekjaaW.PrintLast

theorem NumRoot : dancestudiolaw01_NumRoot.Pure := fun a _ => PNumRoot.pure_law a

end Go.Proofs.Ytodjapnmobekjaa.Pure
