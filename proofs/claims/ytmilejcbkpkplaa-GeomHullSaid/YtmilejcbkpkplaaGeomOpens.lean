/- What is read at the type of a point. -/
import Derived.Test.YtmilejcbkpkplaaPAllx0
import Derived.Test.YtmilejcbkpkplaaOpenWords
namespace Go.Proofs.Ytmilejcbkpkplaa.PAll
open Go Go.RowKit Go.Proofs.YtmilejcbkpkplaaW.PrintWords Go.Proofs.YtmilejcbkpkplaaW.PrintLast Go.Proofs.YtmilejcbkpkplaaW.PrintMore Go.Proofs.Ytmilejcbkpkplaa.OpenWords
theorem opens23 {H : Type} {enc : TypeId × Value → H} {W : World} {base : Nat} {sp : Nat → Bool} {held : Bool} : Opens enc Try.prog W base sp held k23 23 (fun _ => True) :=
  Opens.weaken (Opens.struct Try.underlying23 (by kernel_rfl) (fun y => ⟨⟨y.1, y.2⟩, rfl⟩)
    (OpensAt.cons rfl (Opens.int Try.underlying3 (by kernel_rfl)) (OpensAt.one rfl (Opens.int Try.underlying3 (by kernel_rfl))))) (fun _ _ => trivial)
end Go.Proofs.Ytmilejcbkpkplaa.PAll
