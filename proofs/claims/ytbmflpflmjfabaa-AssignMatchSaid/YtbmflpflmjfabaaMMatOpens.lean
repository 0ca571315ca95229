/- What is read at the types of a row of marks. -/
import Derived.Test.YtbmflpflmjfabaaPAllx0
import Derived.Test.YtbmflpflmjfabaaOpenWords
namespace Go.Proofs.Ytbmflpflmjfabaa.PAll
open Go Go.RowKit Go.Proofs.YtbmflpflmjfabaaW.PrintWords Go.Proofs.YtbmflpflmjfabaaW.PrintLast Go.Proofs.YtbmflpflmjfabaaW.PrintMore Go.Proofs.Ytbmflpflmjfabaa.OpenWords
section
variable {H : Type} {enc : TypeId × Value → H} {W : World} {base : Nat} {sp : Nat → Bool} {held : Bool}
theorem opens_bool {P : Program} {t : TypeId} (ht : P.underlying t = some .bool) (hc : P.cellsOf t = 1) : Opens enc P W base sp held Kd.bool t (fun _ => True) :=
  ⟨hc, fun fuel cs x hx => by obtain ⟨b, rfl, _⟩ := DataW.trod_bool ht hx; exact ⟨b, rfl, trivial⟩⟩
theorem opens39 : Opens enc Try.prog W base sp held (Kd.slice 4 Kd.bool) 39 (fun r => r.length ≤ maxLen) :=
  Opens.weaken (Opens.slice Try.underlying39 (by kernel_rfl) (opens_bool Try.underlying4 (by kernel_rfl))) (fun _ h => h.1)
end
end Go.Proofs.Ytbmflpflmjfabaa.PAll
