/- What is read at the type of a row of marks, if it lies in memory. -/
import Derived.Test.YtaacihkhckpecaaMatOpens
import Derived.Test.YtaacihkhckpecaaOpenSized
namespace Go.Proofs.Ytaacihkhckpecaa.PAll
open Go Go.RowKit Go.Proofs.YtaacihkhckpecaaW.PrintWords Go.Proofs.YtaacihkhckpecaaW.PrintLast Go.Proofs.YtaacihkhckpecaaW.PrintMore Go.Proofs.Ytaacihkhckpecaa.OpenWords
section
variable {H : Type} {enc : TypeId × Value → H} {W : World} {base : Nat} {sp : Nat → Bool} {held : Bool}
theorem opensZ38 : OpensZ enc Try.prog W base sp held (Kd.slice 4 Kd.bool) 38 (fun r => r.length ≤ 140737488351232) := by
  have h := OpensZ.slice Try.underlying38 (by kernel_rfl) (opens_bool (enc := enc) (W := W) (base := base) (sp := sp) (held := held) Try.underlying4 (by kernel_rfl)).sized
  refine ⟨h.1, fun f c x hx hz => ?_⟩
  obtain ⟨p, h1, h2, _⟩ := h.2 f c x hx hz
  refine ⟨p, h1, ?_⟩
  have hb : Try.prog.bytesOf 4 = 1 := by kernel_rfl
  rw [hb] at h2
  unfold reachBytes at h2
  omega
end
end Go.Proofs.Ytaacihkhckpecaa.PAll
