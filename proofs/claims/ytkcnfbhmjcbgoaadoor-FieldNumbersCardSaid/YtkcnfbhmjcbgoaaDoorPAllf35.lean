-- Written by wip/tools/handprint.py: walks of the functions that the law reaches; Lean checks them.
import Derived.Test.YtkcnfbhmjcbgoaaDoorPAllx0
namespace Go.Proofs.YtkcnfbhmjcbgoaaDoor.PAll
open Go.RowKit Go.Proofs.YtkcnfbhmjcbgoaaDoorW.PrintWords Go.Proofs.YtkcnfbhmjcbgoaaDoorW.PrintLast Go.Proofs.YtkcnfbhmjcbgoaaDoorW.PrintMore
attribute [local go_sem] max2_int min2_int max_two min_two max_three min_three max_four min_four   -- for this text's walks alone
set_option linter.unusedVariables false
set_option linter.unusedSimpArgs false

/-! ### strings_ReplaceAll: function 35 -/
def strings_ReplaceAll.f (a0 : ByteArray) (a1 : ByteArray) (a2 : ByteArray) : Option (ByteArray) := if a0.size < 4294967281 then (if 1 ≤ a1.size then (if a0.size + Lib.countB a0 a1 * a2.size ≤ 140737488355328 then (some (⟨(Lib.replaceAll a0.data.toList a1.data.toList a2.data.toList).toArray⟩)) else none) else none) else none
theorem strings_ReplaceAll.calls (a0 : ByteArray) (a1 : ByteArray) (a2 : ByteArray) (r : ByteArray) (w : World) (hmx : Mx w) (h : strings_ReplaceAll.f a0 a1 a2 = some r) :
    Calls Tryd.prog 35 #[.string a0, .string a1, .string a2] w fun e w' => e = .returned (.string r) ∧ Below w.heap.size w w' := by
  unfold strings_ReplaceAll.f at h
  by_cases h0 : a0.size < 4294967281
  case neg => rw [if_neg h0] at h; exact absurd h (by simp)
  rw [if_pos h0] at h
  by_cases h1 : 1 ≤ a1.size
  case neg => rw [if_neg h1] at h; exact absurd h (by simp)
  rw [if_pos h1] at h
  by_cases h2 : a0.size + Lib.countB a0 a1 * a2.size ≤ 140737488355328
  case neg => rw [if_neg h2] at h; exact absurd h (by simp)
  rw [if_pos h2] at h
  injection h with h; subst h
  obtain ⟨m_, hm_⟩ := hmx
  exact Tryd.strings_ReplaceAll a0 a1 a2 m_ w h0 hm_ h1 h2
end Go.Proofs.YtkcnfbhmjcbgoaaDoor.PAll
