/- What is read at the types of a row of marks and of a number. -/
import Derived.Test.YtaacihkhckpecaaPAllx0
import Derived.Test.YtaacihkhckpecaaOpenWords
namespace Go.Proofs.Ytaacihkhckpecaa.PAll
open Go Go.RowKit Go.Proofs.YtaacihkhckpecaaW.PrintWords Go.Proofs.YtaacihkhckpecaaW.PrintLast Go.Proofs.YtaacihkhckpecaaW.PrintMore Go.Proofs.Ytaacihkhckpecaa.OpenWords
section
variable {H : Type} {enc : TypeId × Value → H} {W : World} {base : Nat} {sp : Nat → Bool} {held : Bool}
theorem opens_bool {P : Program} {t : TypeId} (ht : P.underlying t = some .bool) (hc : P.cellsOf t = 1) : Opens enc P W base sp held Kd.bool t (fun _ => True) :=
  ⟨hc, fun fuel cs x hx => by obtain ⟨b, rfl, _⟩ := DataW.trod_bool ht hx; exact ⟨b, rfl, trivial⟩⟩
theorem opens38 : Opens enc Try.prog W base sp held (Kd.slice 4 Kd.bool) 38 (fun r => r.length ≤ maxLen) :=
  Opens.weaken (Opens.slice Try.underlying38 (by kernel_rfl) (opens_bool Try.underlying4 (by kernel_rfl))) (fun _ h => h.1)
theorem opens3 : Opens enc Try.prog W base sp held (Kd.int .i64) 3 (fun x => (Lit.int .i64 x).wf = true) := Opens.int Try.underlying3 (by kernel_rfl)
end
end Go.Proofs.Ytaacihkhckpecaa.PAll
