/- The square of a root is at most the number, and the next square is greater; other numbers are errors: the plain law, for all integers. -/
import Derived.Test.YtodjapnmobekjaaPNumRootx3
import Derived.Test.YtodjapnmobekjaaMathNum
import Derived.Test.YtodjapnmobekjaaLemNearNumRoot
namespace Go.Proofs.Ytodjapnmobekjaa.PNumRoot
open Go Go.RowKit Go.Proofs.YtodjapnmobekjaaW.PrintWords Go.Proofs.YtodjapnmobekjaaW.PrintLast Go.Proofs.YtodjapnmobekjaaW.PrintMore Go.Proofs.Ytodjapnmobekjaa.MathNum
theorem wrap_i64 (n : Int) : IntKind.i64.wrap n = wrap64 n := by
  rw [IntKind.wrap_i64]; unfold wrap64; rfl
theorem two_pow_mul (m : Nat) : (2 : Int) ^ (m + 1) = 2 * 2 ^ m := by rw [Int.pow_succ]; omega
theorem pow_pos' (m : Nat) : (0 : Int) < 2 ^ m := Int.pow_pos (by omega)
theorem pow_le (m : Nat) (h : m ≤ 26) : (2 : Int) ^ m ≤ 67108864 := by
  have h1 : ((2 ^ m : Nat) : Int) ≤ ((2 ^ 26 : Nat) : Int) := Int.ofNat_le.mpr (Nat.pow_le_pow_right (by omega) h)
  have h2 : ((2 ^ m : Nat) : Int) = (2 : Int) ^ m := by simp
  omega
theorem root_loop (n : Int) (m : Nat) : ∀ (k : Nat) (r : Int), m ≤ 26 → m < k → 0 ≤ r → r + 2 ^ m ≤ 67108864 → r * r ≤ n → n < (r + 2 ^ m) * (r + 2 ^ m) →
    ∃ s, num_Root.l0 k n r (26 - m) = some (s, 0) ∧ 0 ≤ s ∧ s * s ≤ n ∧ n < (s + 1) * (s + 1) := by
  induction m with
  | zero =>
    intro k r _ hk hr hb hl hu
    obtain ⟨k, rfl⟩ : ∃ j, k = j + 1 := ⟨k - 1, by omega⟩
    refine ⟨r, ?_, hr, hl, by simpa using hu⟩
    simp only [num_Root.l0]
    rw [if_neg (by simp)]
  | succ m ih =>
    intro k r hm hk hr hb hl hu
    obtain ⟨k, rfl⟩ : ∃ j, k = j + 1 := ⟨k - 1, by omega⟩
    have e2 := two_pow_mul m
    have p := pow_pos' m
    have b := pow_le (m + 1) (by omega)
    simp only [num_Root.l0]
    have hc : (26 - ((m + 1 : Nat) : Int)) < 26 := by omega
    rw [if_pos hc]
    have hw : wrap64 (25 - (26 - ((m + 1 : Nat) : Int))) = m := by rw [w64 (by omega) (by omega)]; omega
    rw [hw, if_pos (by omega)]
    have hs : shl .i64 1 (m : Int) = 2 ^ m := by
      unfold shl
      rw [show min (m : Int).toNat IntKind.i64.bits = m by simp [IntKind.bits]; omega]
      rw [Int.one_mul]
      rw [wrap_i64]
      exact w64 (by omega) (by omega)
    rw [hs, w64 (n := r + 2 ^ m) (by omega) (by omega)]
    have sq := mul_range (a := r + 2 ^ m) (b := r + 2 ^ m) (A := 67108864) (B := 67108864) (by omega) (by omega) (by omega) (by omega)
    rw [w64 (n := (r + 2 ^ m) * (r + 2 ^ m)) (by omega) (by omega), w64 (n := 26 - ((m + 1 : Nat) : Int) + 1) (by omega) (by omega)]
    have hi : 26 - ((m + 1 : Nat) : Int) + 1 = 26 - (m : Int) := by omega
    rw [hi]
    by_cases c : (r + 2 ^ m) * (r + 2 ^ m) ≤ n
    · rw [if_pos c]
      exact ih k (r + 2 ^ m) (by omega) (by omega) (by omega) (by omega) c (by rw [e2] at hu; rw [show r + 2 ^ m + 2 ^ m = r + 2 * 2 ^ m by omega]; exact hu)
    · rw [if_neg c]
      exact ih k r (by omega) (by omega) hr (by omega) hl (by omega)
theorem j0_bad {n r : Int} {f : Nat} (hf : 60 ≤ f) (hr : r = 0) : dancestudiolaw01_NumRoot.j0 (f + 1) n r 1 true = some true := by
  subst hr
  simp only [dancestudiolaw01_NumRoot.j0]
  rw [awake_ok hf]; simp
theorem pure_law (n : Int) : ∃ k, dancestudiolaw01_NumRoot.f k n = some true := by
  refine ⟨60 + 1, ?_⟩
  unfold dancestudiolaw01_NumRoot.f num_Root.f
  by_cases h1 : n < 0
  · simp only [if_pos h1]
    simp only [num_Root.j0, if_true, Option.bind_some]
    exact j0_bad (by omega) rfl
  · simp only [if_neg h1]
    by_cases h2 : n > 1125899906842624
    · rw [show decide (n > 1125899906842624) = true by simp; omega]
      simp only [num_Root.j0, if_true, Option.bind_some]
      exact j0_bad (by omega) rfl
    · rw [show decide (n > 1125899906842624) = false by simp; omega]
      simp only [num_Root.j0]
      rw [if_neg (by simp)]
      obtain ⟨s, e, s0, s1, s2⟩ := root_loop n 26 60 0 (by omega) (by omega) (by omega) (by omega) (by omega) (by omega)
      rw [show (26 : Int) - ((26 : Nat) : Int) = 0 by omega] at e
      rw [e]
      have sb : s ≤ 33554432 := by
        apply Int.not_lt.mp; intro h
        have : 33554433 * 33554433 ≤ s * s := Int.mul_le_mul (by omega) (by omega) (by omega) (by omega)
        omega
      have e1 : (s + 1) * (s + 1) = s * s + 2 * s + 1 := by grind
      simp only [Option.bind_some, dancestudiolaw01_NumRoot.j0]
      rw [if_neg (by simp), if_pos trivial, if_pos (by omega), if_pos sb, w64 (n := s * s) (by omega) (by omega), if_pos s1, w64 (n := s + 1) (by omega) (by omega), w64 (n := (s + 1) * (s + 1)) (by omega) (by omega), if_pos (by omega), awake_ok (by omega)]
      rfl
end Go.Proofs.Ytodjapnmobekjaa.PNumRoot
