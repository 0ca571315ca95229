/- MatchOnce: the law's function returns true for every input, and each argument reads behind the call as it read before. -/
import Derived.Test.YtaacihkhckpecaaRows
import Derived.Test.YtaacihkhckpecaaMatLawOnce
import Derived.Test.YtaacihkhckpecaaMatOpensZ
import Derived.Test.YtaacihkhckpecaaOpenWords
import Derived.Test.YtaacihkhckpecaaOpenSized
import Derived.WalkKit
import Derived.ProofKit
import Derived.OpenShut
import Derived.ShutString
import Derived.ChangeOld
import Derived.Below
import Derived.SizedLaws
import Derived.Lib.SmallJoins
namespace Go.Proofs.Ytaacihkhckpecaa.matchOnce
open Go.ChangeShapes Go.WideShapes Go.ChangeAt Go.RowKit Go.Joins Go.Proofs.Ytaacihkhckpecaa.OpenWords
open Go.ChangeMaps (open_string shut_string)
set_option linter.unusedVariables false
theorem own : ownKnob Try.prog.godebug = none := by kernel_rfl
theorem laidOut : laidOutB Try.prog = true := by kernel_rfl
set_option maxRecDepth 100000 in
theorem lifted (os : Os) (started : os.Started) (H : Type) (enc : TypeId × Value → H) :
    ReturnsInHanded {} Try.checked os 10 .any (Rows.matchOnceSpec.pre6 enc Try.prog Try.f10 Rows.matchOnceRow.domain false) (Rows.matchOnceSpec.post enc Try.prog Try.f10 false true false false) := by
  refine returnsInHanded_of_change_sized (C := Try.checked) own started (by kernel_rfl) Try.func10
    (ChangeSpec.witness6 (enc := enc) (C := Try.checked) false ⟨#[], #[.slice none 0 0], []⟩ 8 (by kernel_rfl) (by kernel_rfl) (by kernel_rfl) (by kernel_rfl)) ?_
  intro W base args ds gs before hval0 hW hcnd hsz0 _
  have hval : ∀ (j : Nat) t v, Try.f10.params[j]? = some t → args[j]? = some v → Value.okWide Try.prog W .any base t v := hval0
  have hW' := hW
  obtain ⟨p, q, hA0, hV, rfl, hfz, hnd⟩ := hW
  have hA : DataW.TrodAll enc Try.prog W 0 (fun _ => true) true Try.f10.params.toList args.toList ds p := hA0
  rw [Try.params10] at hA hval
  obtain ⟨v0, vs0, d0, ds0, p0, q0, hargs, rfl, rfl, h0, r0⟩ := trodAll_cons hA
  obtain ⟨rfl, rfl, rfl⟩ := trodAll_nil r0
  obtain rfl : args = #[v0] := by cases args; simp_all
  obtain ⟨rfl, rfl⟩ := trodVars_none hV
  obtain ⟨A0, len0, c0, e0⟩ := okWide_slice Try.underlying22 (hval 0 22 v0 rfl rfl)
  have k0 := h0
  have lt0 : ∀ x ∈ p0, x.block < W.heap.size := by obtain ⟨m, hm⟩ := k0; exact DataW.trod_lt m _ _ _ hm
  have hsz := hsz0
  rw [Try.params10] at hsz
  simp only [List.cons_append, List.nil_append, DataW.weightsEach, List.all_append, Bool.and_eq_true] at hsz
  have hz0 : Fits Try.prog 22 d0 := hsz.1
  obtain ⟨l0, rfl, hr0, hc0, u0, w0⟩ := open_sliceZ Try.underlying22 PAll.opensZ38 e0 h0 hz0
  have b0_ : Try.prog.bytesOf 38 = 24 := by kernel_rfl
  have v0_ : l0.length ≤ 5864062014634 := by rw [b0_] at u0; unfold reachBytes at u0; omega
  subst e0
  clear hA0 hval0 hsz0
  obtain ⟨k, hk⟩ := PAll.pure_MatchOnce l0 v0_ w0
  refine (PAll.dancestudiolaw10_MatchOnce.calls k A0 c0 l0 true W hr0 hc0 hk).mono fun e W' ⟨he, bel⟩ => ?_
  subst he
  exact ⟨_, rfl, _, _, _, [], _, [], hW', trodAll_mk1 (shut_bool Try.underlying4 _), (trodAll_cons_mk (Below.trod laidOut (by kernel_rfl) (of_decide_eq_true (by kernel_rfl)) k0 bel lt0) trodAll_mk0), rfl, bel.frame _, fun h => by cases h⟩
theorem over : Rows.matchOnceRow.holds Try.pinned (OpenSpec.ofChange Rows.matchOnceSpec) :=
  OpenClaim.holds_of_wide 10 Try.f10 rfl rfl rfl rfl rfl rfl rfl ⟨rfl, rfl, rfl, rfl, rfl⟩ rfl rfl rfl rfl rfl (by kernel_rfl) Try.func10 (by kernel_rfl)
    (of_decide_eq_true (by kernel_rfl)) (by unfold Func.isWrapper; first | (rw [if_pos (by decide +kernel)]; kernel_rfl) | (rw [if_neg (by decide +kernel)]; exact ⟨rfl, rfl⟩))
    (fun os started H enc _ => lifted os started H enc)
theorem proved : Rows.MatchOnceSaid := over
#print axioms proved
end Go.Proofs.Ytaacihkhckpecaa.matchOnce
namespace Go.Proofs.Ytaacihkhckpecaa
/-- The row, under a short name, for the claim. -/
theorem matchOnce_holds : Rows.MatchOnceSaid := matchOnce.proved
end Go.Proofs.Ytaacihkhckpecaa
