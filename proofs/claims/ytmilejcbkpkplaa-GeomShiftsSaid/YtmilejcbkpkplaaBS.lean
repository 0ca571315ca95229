/- GeomShifts: the law's function returns true for every input, and each argument reads behind the call as it read before. -/
import Derived.Test.YtmilejcbkpkplaaRows
import Derived.Test.YtmilejcbkpkplaaBS7
import Derived.WalkKit
import Derived.ProofKit
import Derived.OpenShut
import Derived.ShutString
import Derived.ChangeOld
import Derived.Below
import Derived.SizedLaws
import Derived.Lib.SmallJoins
namespace Go.Proofs.Ytmilejcbkpkplaa.geomShifts
open Go.ChangeShapes Go.WideShapes Go.ChangeAt Go.RowKit Go.Joins Go.Proofs.Ytmilejcbkpkplaa.AggWords
open Go.ChangeMaps (open_string shut_string)
set_option linter.unusedVariables false
theorem own : ownKnob Try.prog.godebug = none := by kernel_rfl
theorem laidOut : laidOutB Try.prog = true := by kernel_rfl
set_option maxRecDepth 100000 in
theorem lifted (os : Os) (started : os.Started) (H : Type) (enc : TypeId × Value → H) :
    ReturnsInHanded {} Try.checked os 10 .any (Rows.geomShiftsSpec.pre6 enc Try.prog Try.f10 Rows.geomShiftsRow.domain false) (Rows.geomShiftsSpec.post enc Try.prog Try.f10 false true false false) := by
  refine returnsInHanded_of_change_sized (C := Try.checked) own started (by kernel_rfl) Try.func10
    (ChangeSpec.witness6 (enc := enc) (C := Try.checked) false ⟨#[], #[.agg #[.int .i64 0, .int .i64 0, .int .i64 0, .int .i64 0, .int .i64 0, .int .i64 0, .int .i64 0], .agg #[.int .i64 0, .int .i64 0], .agg #[.int .i64 0, .int .i64 0]], []⟩ 8 (by kernel_rfl) (by kernel_rfl) (by kernel_rfl) (by kernel_rfl)) ?_
  intro W base args ds gs before hval0 hW hcnd hsz0 _
  have hval : ∀ (j : Nat) t v, Try.f10.params[j]? = some t → args[j]? = some v → Value.okWide Try.prog W .any base t v := hval0
  have hW' := hW
  obtain ⟨p, q, hA0, hV, rfl, hfz, hnd⟩ := hW
  have hA : DataW.TrodAll enc Try.prog W 0 (fun _ => true) true Try.f10.params.toList args.toList ds p := hA0
  rw [Try.params10] at hA hval
  obtain ⟨v0, vs0, d0, ds0, p0, q0, hargs, rfl, rfl, h0, r0⟩ := trodAll_cons hA
  obtain ⟨v1, vs1, d1, ds1, p1, q1, rfl, rfl, rfl, h1, r1⟩ := trodAll_cons r0
  obtain ⟨v2, vs2, d2, ds2, p2, q2, rfl, rfl, rfl, h2, r2⟩ := trodAll_cons r1
  obtain ⟨rfl, rfl, rfl⟩ := trodAll_nil r2
  obtain rfl : args = #[v0, v1, v2] := by cases args; simp_all
  obtain ⟨rfl, rfl⟩ := trodVars_none hV
  have k0 := h0
  have lt0 : ∀ x ∈ p0, x.block < W.heap.size := by obtain ⟨m, hm⟩ := k0; exact DataW.trod_lt m _ _ _ hm
  obtain ⟨zs0, hz0, e0, hw0⟩ := open_cells (ks := [.i64, .i64, .i64, .i64, .i64, .i64, .i64]) (ts := [3, 3, 3, 3, 3, 3, 3]) (.inl ⟨_, Try.underlying31⟩) (by kernel_rfl) (by kernel_rfl) (by simp [Try.underlying3]) (hval 0 31 v0 rfl rfl)
  obtain ⟨a0_0, zs0_0, rfl, hz0_0⟩ := list_cons hz0
  obtain ⟨a0_1, zs0_1, rfl, hz0_1⟩ := list_cons hz0_0
  obtain ⟨a0_2, zs0_2, rfl, hz0_2⟩ := list_cons hz0_1
  obtain ⟨a0_3, zs0_3, rfl, hz0_3⟩ := list_cons hz0_2
  obtain ⟨a0_4, zs0_4, rfl, hz0_4⟩ := list_cons hz0_3
  obtain ⟨a0_5, zs0_5, rfl, hz0_5⟩ := list_cons hz0_4
  obtain ⟨a0_6, zs0_6, rfl, hz0_6⟩ := list_cons hz0_5
  obtain rfl := List.eq_nil_of_length_eq_zero hz0_6
  have w0_0 := hw0 0 _ _ rfl rfl
  have w0_1 := hw0 1 _ _ rfl rfl
  have w0_2 := hw0 2 _ _ rfl rfl
  have w0_3 := hw0 3 _ _ rfl rfl
  have w0_4 := hw0 4 _ _ rfl rfl
  have w0_5 := hw0 5 _ _ rfl rfl
  have w0_6 := hw0 6 _ _ rfl rfl
  have e0_ : v0 = .agg #[.int .i64 a0_0, .int .i64 a0_1, .int .i64 a0_2, .int .i64 a0_3, .int .i64 a0_4, .int .i64 a0_5, .int .i64 a0_6] := e0
  clear e0 hw0
  subst e0_
  have k1 := h1
  have lt1 : ∀ x ∈ p1, x.block < W.heap.size := by obtain ⟨m, hm⟩ := k1; exact DataW.trod_lt m _ _ _ hm
  obtain ⟨zs1, hz1, e1, hw1⟩ := open_cells (ks := [.i64, .i64]) (ts := [3, 3]) (.inl ⟨_, Try.underlying23⟩) (by kernel_rfl) (by kernel_rfl) (by simp [Try.underlying3]) (hval 1 23 v1 rfl rfl)
  obtain ⟨a1_0, zs1_0, rfl, hz1_0⟩ := list_cons hz1
  obtain ⟨a1_1, zs1_1, rfl, hz1_1⟩ := list_cons hz1_0
  obtain rfl := List.eq_nil_of_length_eq_zero hz1_1
  have w1_0 := hw1 0 _ _ rfl rfl
  have w1_1 := hw1 1 _ _ rfl rfl
  have e1_ : v1 = .agg #[.int .i64 a1_0, .int .i64 a1_1] := e1
  clear e1 hw1
  subst e1_
  have k2 := h2
  have lt2 : ∀ x ∈ p2, x.block < W.heap.size := by obtain ⟨m, hm⟩ := k2; exact DataW.trod_lt m _ _ _ hm
  obtain ⟨zs2, hz2, e2, hw2⟩ := open_cells (ks := [.i64, .i64]) (ts := [3, 3]) (.inl ⟨_, Try.underlying23⟩) (by kernel_rfl) (by kernel_rfl) (by simp [Try.underlying3]) (hval 2 23 v2 rfl rfl)
  obtain ⟨a2_0, zs2_0, rfl, hz2_0⟩ := list_cons hz2
  obtain ⟨a2_1, zs2_1, rfl, hz2_1⟩ := list_cons hz2_0
  obtain rfl := List.eq_nil_of_length_eq_zero hz2_1
  have w2_0 := hw2 0 _ _ rfl rfl
  have w2_1 := hw2 1 _ _ rfl rfl
  have e2_ : v2 = .agg #[.int .i64 a2_0, .int .i64 a2_1] := e2
  clear e2 hw2
  subst e2_
  clear hA0 hval0 hsz0
  obtain ⟨k, hk⟩ := PAll.pure_GeomShifts a0_0 w0_0 a0_1 w0_1 a0_2 w0_2 a0_3 w0_3 a0_4 w0_4 a0_5 w0_5 a0_6 w0_6 a1_0 w1_0 a1_1 w1_1 a2_0 w2_0 a2_1 w2_1
  refine (PAll.dancestudiolaw03_GeomShifts.calls k a0_0 a0_1 a0_2 a0_3 a0_4 a0_5 a0_6 a1_0 a1_1 a2_0 a2_1 true W  hk).mono fun e W' ⟨he, bel⟩ => ?_
  subst he
  exact ⟨_, rfl, _, _, _, [], _, [], hW', trodAll_mk1 (shut_bool Try.underlying4 _), (trodAll_cons_mk (Below.trod laidOut (by kernel_rfl) (of_decide_eq_true (by kernel_rfl)) k0 bel lt0) (trodAll_cons_mk (Below.trod laidOut (by kernel_rfl) (of_decide_eq_true (by kernel_rfl)) k1 bel lt1) (trodAll_cons_mk (Below.trod laidOut (by kernel_rfl) (of_decide_eq_true (by kernel_rfl)) k2 bel lt2) trodAll_mk0))), rfl, bel.frame _, fun h => by cases h⟩
theorem over : Rows.geomShiftsRow.holds Try.pinned (OpenSpec.ofChange Rows.geomShiftsSpec) :=
  OpenClaim.holds_of_wide 10 Try.f10 rfl rfl rfl rfl rfl rfl rfl ⟨rfl, rfl, rfl, rfl, rfl⟩ rfl rfl rfl rfl rfl (by kernel_rfl) Try.func10 (by kernel_rfl)
    (of_decide_eq_true (by kernel_rfl)) (by unfold Func.isWrapper; first | (rw [if_pos (by decide +kernel)]; kernel_rfl) | (rw [if_neg (by decide +kernel)]; exact ⟨rfl, rfl⟩))
    (fun os started H enc _ => lifted os started H enc)
theorem proved : Rows.GeomShiftsSaid := over
#print axioms proved
end Go.Proofs.Ytmilejcbkpkplaa.geomShifts
namespace Go.Proofs.Ytmilejcbkpkplaa
/-- The row, under a short name, for the claim. -/
theorem geomShifts_holds : Rows.GeomShiftsSaid := geomShifts.proved
end Go.Proofs.Ytmilejcbkpkplaa
