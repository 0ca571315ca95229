/- Gcd returns the specified divisor or error; it divides both numbers, and every common divisor divides it: the plain law, for all integers. -/
import Derived.Test.YtodjapnmobekjaaPNumGcdx4
import Derived.Test.YtodjapnmobekjaaMathNum
import Derived.Test.YtodjapnmobekjaaLemNearNumGcd
import Derived.Test.YtodjapnmobekjaaLemRoundNumGcd
namespace Go.Proofs.Ytodjapnmobekjaa.PNumGcd
open Go Go.RowKit Go.Proofs.YtodjapnmobekjaaW.PrintWords Go.Proofs.YtodjapnmobekjaaW.PrintLast Go.Proofs.YtodjapnmobekjaaW.PrintMore Go.Proofs.Ytodjapnmobekjaa.MathNum
theorem rsmall_some (a : Int) : dancestudioref01_Small.f a = some (sm a) := by
  unfold dancestudioref01_Small.f sm
  by_cases h : a ≥ -1125899906842624
  · rw [if_pos h]; simp; omega
  · rw [if_neg h]; simp; omega
theorem abs_some {a : Int} (h1 : -1125899906842624 ≤ a) (h2 : a ≤ 1125899906842624) : num_abs.f a = some (a.natAbs : Int) := by
  unfold num_abs.f mx
  rw [w64 (by omega) (by omega)]
  congr 1
  split <;> omega
theorem rsize_some {a : Int} (h1 : -1125899906842624 ≤ a) (h2 : a ≤ 1125899906842624) : dancestudioref01_size.f a = some (a.natAbs : Int) := by
  unfold dancestudioref01_size.f
  split
  · rw [w64 (by omega) (by omega)]; congr 1; omega
  · congr 1; omega
theorem tmod_nat (x y : Nat) : Int.tmod (x : Int) (y : Int) = ((x % y : Nat) : Int) := rfl
theorem gcd_loop (d : Nat) : ∀ (k x y : Nat), y ≤ d → d < k → num_Gcd.l0 k (x : Int) (y : Int) = some (((Nat.gcd x y : Nat) : Int), 0) ∧ dancestudioref01_Gcd.l0 k (x : Int) (y : Int) = some (((Nat.gcd x y : Nat) : Int), 0) := by
  induction d with
  | zero =>
    intro k x y hy hk
    obtain ⟨k, rfl⟩ : ∃ j, k = j + 1 := ⟨k - 1, by omega⟩
    have : y = 0 := by omega
    subst this
    simp [num_Gcd.l0, dancestudioref01_Gcd.l0]
  | succ d ih =>
    intro k x y hy hk
    obtain ⟨k, rfl⟩ : ∃ j, k = j + 1 := ⟨k - 1, by omega⟩
    by_cases h : y = 0
    · subst h; simp [num_Gcd.l0, dancestudioref01_Gcd.l0]
    · have hlt : x % y < y := Nat.mod_lt _ (by omega)
      obtain ⟨i1, i2⟩ := ih k y (x % y) (by omega) (by omega)
      simp only [num_Gcd.l0, dancestudioref01_Gcd.l0]
      have g : Nat.gcd x y = Nat.gcd y (x % y) := by rw [Nat.gcd_comm x y, Nat.gcd_rec y x, Nat.gcd_comm]
      rw [if_neg (by omega), if_pos (by omega), if_neg (by omega), tmod_nat, i1, i2, g]
      exact ⟨rfl, rfl⟩
theorem gcd_some {k : Nat} (hk : 1125899906842630 ≤ k) (a b : Int) : num_Gcd.f k a b = some (if (sm a && sm b) = true then (((Nat.gcd a.natAbs b.natAbs : Nat) : Int), 0) else (0, 1)) ∧ dancestudioref01_Gcd.f k a b = some (if (sm a && sm b) = true then (((Nat.gcd a.natAbs b.natAbs : Nat) : Int), 0) else (0, 1)) := by
  obtain ⟨k, rfl⟩ : ∃ j, k = j + 3 := ⟨k - 3, by omega⟩
  have hb : dancestudioref01_Gcd.j0 (k + 3) a b true = some (0, 1) := by simp [dancestudioref01_Gcd.j0]
  unfold num_Gcd.f dancestudioref01_Gcd.f
  simp only [rsmall_some, small2, Option.bind_some]
  cases h1 : sm a
  · simp [hb]
  · cases h2 : sm b
    · simp [hb]
    · simp only [Bool.and_self, if_true, Bool.not_true, dancestudioref01_Gcd.j0, Bool.false_eq_true, if_false]
      rw [sm_iff] at h1 h2
      rw [abs_some h1.1 h1.2, abs_some h2.1 h2.2, rsize_some h1.1 h1.2, rsize_some h2.1 h2.2]
      simp only [Option.bind_some]
      exact ⟨(gcd_loop b.natAbs (k + 3) a.natAbs b.natAbs (by omega) (by omega)).1, (gcd_loop b.natAbs (k + 2) a.natAbs b.natAbs (by omega) (by omega)).2⟩
theorem tmod_dvd {a g : Int} : a.tmod g = 0 ↔ g ∣ a := by
  constructor
  · intro h; exact Int.dvd_of_tmod_eq_zero h
  · intro h; exact Int.tmod_eq_zero_of_dvd h
theorem j1_awake {a b c g e : Int} {f : Nat} (hf : 60 ≤ f) (h : e ≠ 0 ∨ e = 0 ∧ a = 0 ∧ b = 0) : dancestudiolaw01_NumGcd.j1 (f + 1) a b c g e true = some true := by
  simp only [dancestudiolaw01_NumGcd.j1]
  rw [awake_ok hf, if_pos trivial]
  rcases h with h | ⟨rfl, rfl, rfl⟩
  · rw [if_neg h]; rfl
  · simp
theorem pure_law (a b c : Int) : ∃ k, dancestudiolaw01_NumGcd.f k a b c = some true := by
  refine ⟨1125899906842630 + 3, ?_⟩
  unfold dancestudiolaw01_NumGcd.f
  rw [(gcd_some (by omega) a b).1, (gcd_some (by omega) a b).2, (gcd_some (by omega) b a).1]
  simp only [Option.bind_some, if_true]
  rw [Bool.and_comm (sm b), Nat.gcd_comm b.natAbs]
  simp only [if_true]
  generalize hf : (1125899906842630 : Nat) = f
  have hf' : 60 ≤ f := by omega
  simp only [bne_self_eq_false, dancestudiolaw01_NumGcd.j0, Bool.false_eq_true, if_false]
  by_cases h : (sm a && sm b) = true
  · rw [if_pos h]
    simp only [if_true]
    by_cases g0 : Nat.gcd a.natAbs b.natAbs = 0
    · rw [g0]
      have := Nat.gcd_eq_zero_iff.mp g0
      exact j1_awake (by omega) (Or.inr ⟨rfl, by omega, by omega⟩)
    · rw [show (((Nat.gcd a.natAbs b.natAbs : Nat) : Int) == 0) = false by rw [beq_eq_false_iff_ne]; omega]
      simp only [dancestudiolaw01_NumGcd.j1]
      have d1 : ((Nat.gcd a.natAbs b.natAbs : Nat) : Int) ∣ a := Int.ofNat_dvd_left.mpr (Nat.gcd_dvd_left _ _)
      have d2 : ((Nat.gcd a.natAbs b.natAbs : Nat) : Int) ∣ b := Int.ofNat_dvd_left.mpr (Nat.gcd_dvd_right _ _)
      rw [if_neg (by simp), if_neg (by omega), if_pos (tmod_dvd.mpr d1), if_pos (tmod_dvd.mpr d2), awake_ok (by omega)]
      simp only [Option.bind_some]
      by_cases c0 : c = 0
      · rw [if_pos c0]
      · rw [if_neg c0]
        by_cases c1 : a.tmod c = 0
        · rw [if_pos c1]
          by_cases c2 : b.tmod c = 0
          · rw [if_pos c2, if_pos]
            rw [tmod_dvd] at *
            have k1 : c.natAbs ∣ a.natAbs := Int.natAbs_dvd_natAbs.mpr c1
            have k2 : c.natAbs ∣ b.natAbs := Int.natAbs_dvd_natAbs.mpr c2
            exact Int.ofNat_dvd_right.mpr (Nat.dvd_gcd k1 k2)
          · rw [if_neg c2]
        · rw [if_neg c1]
  · rw [if_neg h]
    simp only [show ¬ ((1 : Int) = 0) by omega, if_false]
    exact j1_awake (by omega) (Or.inl (by omega))
end Go.Proofs.Ytodjapnmobekjaa.PNumGcd
