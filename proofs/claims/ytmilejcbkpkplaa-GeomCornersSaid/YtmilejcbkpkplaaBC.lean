/- GeomCorners: the law's function returns true for every input, and each argument reads behind the call as it read before. -/
import Derived.Test.YtmilejcbkpkplaaRows
import Derived.Test.YtmilejcbkpkplaaBC8
import Derived.WalkKit
import Derived.ProofKit
import Derived.OpenShut
import Derived.ShutString
import Derived.ChangeOld
import Derived.Below
import Derived.SizedLaws
import Derived.Lib.SmallJoins
namespace Go.Proofs.Ytmilejcbkpkplaa.geomCorners
open Go.ChangeShapes Go.WideShapes Go.ChangeAt Go.RowKit Go.Joins Go.Proofs.Ytmilejcbkpkplaa.AggWords Go.Proofs.Ytmilejcbkpkplaa.OpenWords
open Go.ChangeMaps (open_string shut_string)
set_option linter.unusedVariables false
theorem own : ownKnob Try.prog.godebug = none := by kernel_rfl
theorem laidOut : laidOutB Try.prog = true := by kernel_rfl
set_option maxRecDepth 100000 in
theorem lifted (os : Os) (started : os.Started) (H : Type) (enc : TypeId × Value → H) :
    ReturnsInHanded {} Try.checked os 9 .any (Rows.geomCornersSpec.pre6 enc Try.prog Try.f9 Rows.geomCornersRow.domain false) (Rows.geomCornersSpec.post enc Try.prog Try.f9 false true false false) := by
  refine returnsInHanded_of_change_sized (C := Try.checked) own started (by kernel_rfl) Try.func9
    (ChangeSpec.witness6 (enc := enc) (C := Try.checked) false ⟨#[], #[.slice none 0 0, .agg #[.int .i64 0, .int .i64 0]], []⟩ 8 (by kernel_rfl) (by kernel_rfl) (by kernel_rfl) (by kernel_rfl)) ?_
  intro W base args ds gs before hval0 hW hcnd hsz0 _
  have hval : ∀ (j : Nat) t v, Try.f9.params[j]? = some t → args[j]? = some v → Value.okWide Try.prog W .any base t v := hval0
  have hW' := hW
  obtain ⟨p, q, hA0, hV, rfl, hfz, hnd⟩ := hW
  have hA : DataW.TrodAll enc Try.prog W 0 (fun _ => true) true Try.f9.params.toList args.toList ds p := hA0
  rw [Try.params9] at hA hval
  obtain ⟨v0, vs0, d0, ds0, p0, q0, hargs, rfl, rfl, h0, r0⟩ := trodAll_cons hA
  obtain ⟨v1, vs1, d1, ds1, p1, q1, rfl, rfl, rfl, h1, r1⟩ := trodAll_cons r0
  obtain ⟨rfl, rfl, rfl⟩ := trodAll_nil r1
  obtain rfl : args = #[v0, v1] := by cases args; simp_all
  obtain ⟨rfl, rfl⟩ := trodVars_none hV
  obtain ⟨A0, len0, c0, e0⟩ := okWide_slice Try.underlying41 (hval 0 41 v0 rfl rfl)
  have k0 := h0
  have lt0 : ∀ x ∈ p0, x.block < W.heap.size := by obtain ⟨m, hm⟩ := k0; exact DataW.trod_lt m _ _ _ hm
  obtain ⟨l0, rfl, hr0, hc0, u0, w0⟩ := open_slice Try.underlying41 PAll.opens23 e0 h0
  subst e0
  have k1 := h1
  have lt1 : ∀ x ∈ p1, x.block < W.heap.size := by obtain ⟨m, hm⟩ := k1; exact DataW.trod_lt m _ _ _ hm
  obtain ⟨zs1, hz1, e1, hw1⟩ := open_cells (ks := [.i64, .i64]) (ts := [3, 3]) (.inl ⟨_, Try.underlying23⟩) (by kernel_rfl) (by kernel_rfl) (by simp [Try.underlying3]) (hval 1 23 v1 rfl rfl)
  obtain ⟨a1_0, zs1_0, rfl, hz1_0⟩ := list_cons hz1
  obtain ⟨a1_1, zs1_1, rfl, hz1_1⟩ := list_cons hz1_0
  obtain rfl := List.eq_nil_of_length_eq_zero hz1_1
  have w1_0 := hw1 0 _ _ rfl rfl
  have w1_1 := hw1 1 _ _ rfl rfl
  have e1_ : v1 = .agg #[.int .i64 a1_0, .int .i64 a1_1] := e1
  clear e1 hw1
  subst e1_
  clear hA0 hval0 hsz0
  obtain ⟨k, hk⟩ := PAll.pure_GeomCorners l0 u0 w0 a1_0 w1_0 a1_1 w1_1
  refine (PAll.dancestudiolaw03_GeomCorners.calls k A0 c0 l0 a1_0 a1_1 true W hr0 hc0 hk).mono fun e W' ⟨he, bel⟩ => ?_
  subst he
  exact ⟨_, rfl, _, _, _, [], _, [], hW', trodAll_mk1 (shut_bool Try.underlying4 _), (trodAll_cons_mk (Below.trod laidOut (by kernel_rfl) (of_decide_eq_true (by kernel_rfl)) k0 bel lt0) (trodAll_cons_mk (Below.trod laidOut (by kernel_rfl) (of_decide_eq_true (by kernel_rfl)) k1 bel lt1) trodAll_mk0)), rfl, bel.frame _, fun h => by cases h⟩
theorem over : Rows.geomCornersRow.holds Try.pinned (OpenSpec.ofChange Rows.geomCornersSpec) :=
  OpenClaim.holds_of_wide 9 Try.f9 rfl rfl rfl rfl rfl rfl rfl ⟨rfl, rfl, rfl, rfl, rfl⟩ rfl rfl rfl rfl rfl (by kernel_rfl) Try.func9 (by kernel_rfl)
    (of_decide_eq_true (by kernel_rfl)) (by unfold Func.isWrapper; first | (rw [if_pos (by decide +kernel)]; kernel_rfl) | (rw [if_neg (by decide +kernel)]; exact ⟨rfl, rfl⟩))
    (fun os started H enc _ => lifted os started H enc)
theorem proved : Rows.GeomCornersSaid := over
#print axioms proved
end Go.Proofs.Ytmilejcbkpkplaa.geomCorners
namespace Go.Proofs.Ytmilejcbkpkplaa
/-- The row, under a short name, for the claim. -/
theorem geomCorners_holds : Rows.GeomCornersSaid := geomCorners.proved
end Go.Proofs.Ytmilejcbkpkplaa
