/- The chapter's examples. -/
import Derived.Test.YtjppjppapdflmaaPAllx0
import Derived.Test.YtjppjppapdflmaaPAllf15
import Derived.Test.YtjppjppapdflmaaRWd
import Derived.KernelRfl
namespace Go.Proofs.Ytjppjppapdflmaa.PAll
open Go Go.RowKit Go.Proofs.YtjppjppapdflmaaW.PrintWords Go.Proofs.YtjppjppapdflmaaW.PrintLast Go.Proofs.YtjppjppapdflmaaW.PrintMore Go.Proofs.Ytjppjppapdflmaa.MathNum Go.Proofs.Ytjppjppapdflmaa.EvWords
set_option maxRecDepth 100000 in
theorem awake_all (k : Nat) : dancestudiolaw50_awake.f (k + 200) = some true := by kernel_rfl
theorem awake_ev : Ev (fun k => dancestudiolaw50_awake.f k) true := ⟨200, fun k hk => by obtain ⟨m, rfl⟩ : ∃ m, k = m + 200 := ⟨k - 200, by omega⟩; exact awake_all m⟩
end Go.Proofs.Ytjppjppapdflmaa.PAll
