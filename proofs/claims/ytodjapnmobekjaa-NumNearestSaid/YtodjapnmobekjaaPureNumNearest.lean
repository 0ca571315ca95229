/- NumNearest: the printed statement over numbers and lists, from the plain law. -/
import Derived.Test.YtodjapnmobekjaaPNumNearestx4
import Derived.Test.YtodjapnmobekjaaPlainNumNearest
namespace Go.Proofs.Ytodjapnmobekjaa.Pure
open Go.RowKit Go.Proofs.Ytodjapnmobekjaa.PNumNearest Go.Proofs.YtodjapnmobekjaaW.PrintWords Go.Proofs.YtodjapnmobekjaaW.PrintLast

theorem NumNearest : dancestudiolaw01_NumNearest.Pure := fun a b _ _ => PNumNearest.pure_law a b

end Go.Proofs.Ytodjapnmobekjaa.Pure
