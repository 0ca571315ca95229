/- What the printed functions of the reference of layer 1 that compare products answer. -/
import Derived.Test.YtaggccbndmmbhaaDoorBase
import Derived.Test.YtaggccbndmmbhaaDoorGeo
import Derived.Test.YtaggccbndmmbhaaDoorChk
import Derived.Test.YtaggccbndmmbhaaDoorCmpWords
namespace Go.Proofs.YtaggccbndmmbhaaDoor.PAll
set_option linter.unusedVariables false
open Go Go.RowKit Go.Proofs.YtaggccbndmmbhaaDoorW.PrintWords Go.Proofs.YtaggccbndmmbhaaDoorW.PrintLast Go.Proofs.YtaggccbndmmbhaaDoorW.PrintMore Go.Proofs.YtaggccbndmmbhaaDoor.MathNum

theorem rsmall_some (a : Int) : dancestudioref01_Small.f a = some (sm a) := by
  unfold dancestudioref01_Small.f sm
  by_cases h : a ≥ -1125899906842624
  · rw [if_pos h]; simp; omega
  · rw [if_neg h]; simp; omega
theorem rorder_some (a b : Int) : dancestudioref01_order.f a b = some (cmp3 a b) := by
  unfold dancestudioref01_order.f cmp3
  split
  · rfl
  · split <;> rfl
theorem cmp3_mul (a b : Int) : cmp3 a 0 * cmp3 b 0 = cmp3 (a * b) 0 := by
  rcases cmp3_cases a 0 with ⟨h1, e1⟩ | ⟨h1, e1⟩ | ⟨h1, e1⟩ <;> rcases cmp3_cases b 0 with ⟨h2, e2⟩ | ⟨h2, e2⟩ | ⟨h2, e2⟩ <;> rw [e1, e2]
  · rw [cmp3_gt (Int.mul_pos_of_neg_of_neg h1 h2)]; rfl
  · subst h2; simp [cmp3]
  · rw [cmp3_lt (Int.mul_neg_of_neg_of_pos h1 h2)]; rfl
  · subst h1; simp [cmp3]
  · subst h1; simp [cmp3]
  · subst h1; simp [cmp3]
  · rw [cmp3_lt (Int.mul_neg_of_pos_of_neg h1 h2)]; rfl
  · subst h2; simp [cmp3]
  · rw [cmp3_gt (Int.mul_pos h1 h2)]; rfl
theorem rsign_some (a b : Int) : dancestudioref01_sign.f a b = some (cmp3 (a * b) 0) := by
  unfold dancestudioref01_sign.f
  simp only [rorder_some, Option.bind_some]
  have h1 := cmp3_range (a * b) 0
  rw [cmp3_mul, w64 (by omega) (by omega)]
theorem rsize_some {a : Int} (h1 : -1125899906842624 ≤ a) (h2 : a ≤ 1125899906842624) : dancestudioref01_size.f a = some (ab a) := by
  unfold dancestudioref01_size.f ab
  split
  · rw [w64 (by omega) (by omega)]
  · rfl
theorem rwide_some {x y : Int} (hx0 : 0 ≤ x) (hx : x ≤ 1125899906842624) (hy0 : 0 ≤ y) (hy : y ≤ 1125899906842624) :
    ∃ hi mi lo : Int, dancestudioref01_wide.f x y = some (hi, mi, lo) ∧ 0 ≤ lo ∧ lo < 67108864 ∧ 0 ≤ mi ∧ mi < 67108864 ∧ 0 ≤ hi ∧ x * y = hi * 4503599627370496 + mi * 67108864 + lo := by
  unfold dancestudioref01_wide.f
  have e1 : Int.tdiv x 67108864 = x / 67108864 := Int.tdiv_eq_ediv_of_nonneg hx0
  have e2 : Int.tdiv y 67108864 = y / 67108864 := Int.tdiv_eq_ediv_of_nonneg hy0
  have e3 : Int.tmod x 67108864 = x % 67108864 := Int.tmod_eq_emod_of_nonneg hx0
  have e4 : Int.tmod y 67108864 = y % 67108864 := Int.tmod_eq_emod_of_nonneg hy0
  rw [e1, e2, e3, e4]
  have hxe : x = (x / 67108864) * 67108864 + x % 67108864 := by omega
  have hye : y = (y / 67108864) * 67108864 + y % 67108864 := by omega
  have a1 : 0 ≤ x / 67108864 := by omega
  have a2 : x / 67108864 ≤ 16777216 := by omega
  have a3 : 0 ≤ x % 67108864 := by omega
  have a4 : x % 67108864 ≤ 67108863 := by omega
  have b1 : 0 ≤ y / 67108864 := by omega
  have b2 : y / 67108864 ≤ 16777216 := by omega
  have b3 : 0 ≤ y % 67108864 := by omega
  have b4 : y % 67108864 ≤ 67108863 := by omega
  generalize x / 67108864 = xh at *
  generalize x % 67108864 = xl at *
  generalize y / 67108864 = yh at *
  generalize y % 67108864 = yl at *
  rw [w64 (n := xh) (by omega) (by omega), w64 (n := yh) (by omega) (by omega)]
  have m1 := mul_range (a := xh) (b := yh) (A := 16777216) (B := 16777216) (by omega) a2 b1 b2
  have m2 := mul_range (a := xh) (b := yl) (A := 16777216) (B := 67108863) (by omega) a2 b3 b4
  have m3 := mul_range (a := xl) (b := yh) (A := 67108863) (B := 16777216) (by omega) a4 b1 b2
  have m4 := mul_range (a := xl) (b := yl) (A := 67108863) (B := 67108863) (by omega) a4 b3 b4
  have n1 := Int.mul_nonneg a1 b1
  have n2 := Int.mul_nonneg a1 b3
  have n3 := Int.mul_nonneg a3 b1
  have n4 := Int.mul_nonneg a3 b3
  have hp : x * y = (xh * yh) * 4503599627370496 + (xh * yl + xl * yh) * 67108864 + xl * yl := by
    rw [hxe, hye]; grind
  rw [hp]
  clear hp hxe hye
  generalize xh * yh = p1 at *
  generalize xh * yl = p2 at *
  generalize xl * yh = p3 at *
  generalize xl * yl = p4 at *
  rw [w64 (n := p1) (by omega) (by omega), w64 (n := p2) (by omega) (by omega), w64 (n := p3) (by omega) (by omega), w64 (n := p4) (by omega) (by omega)]
  rw [w64 (n := p2 + p3) (by omega) (by omega)]
  have e5 : Int.tdiv p4 67108864 = p4 / 67108864 := Int.tdiv_eq_ediv_of_nonneg n4
  have e6 : Int.tmod p4 67108864 = p4 % 67108864 := Int.tmod_eq_emod_of_nonneg n4
  rw [e5, e6]
  rw [w64 (n := p4 / 67108864) (by omega) (by omega)]
  rw [w64 (n := p2 + p3 + p4 / 67108864) (by omega) (by omega)]
  have e7 : Int.tdiv (p2 + p3 + p4 / 67108864) 67108864 = (p2 + p3 + p4 / 67108864) / 67108864 := Int.tdiv_eq_ediv_of_nonneg (by omega)
  have e8 : Int.tmod (p2 + p3 + p4 / 67108864) 67108864 = (p2 + p3 + p4 / 67108864) % 67108864 := Int.tmod_eq_emod_of_nonneg (by omega)
  rw [e7, e8]
  rw [w64 (n := (p2 + p3 + p4 / 67108864) / 67108864) (by omega) (by omega)]
  rw [w64 (n := p1 + (p2 + p3 + p4 / 67108864) / 67108864) (by omega) (by omega)]
  exact ⟨_, _, _, rfl, by omega, by omega, by omega, by omega, by omega, by omega⟩
theorem ab_mul (a b : Int) : ab a * ab b = ab (a * b) := by
  unfold ab
  by_cases h1 : a < 0 <;> by_cases h2 : b < 0
  · rw [if_pos h1, if_pos h2, if_neg (by have := Int.mul_pos_of_neg_of_neg h1 h2; omega)]; grind
  · rw [if_pos h1, if_neg h2]
    by_cases h3 : b = 0
    · subst h3; simp
    · rw [if_pos (Int.mul_neg_of_neg_of_pos h1 (by omega))]; grind
  · rw [if_neg h1, if_pos h2]
    by_cases h3 : a = 0
    · subst h3; simp
    · rw [if_pos (Int.mul_neg_of_pos_of_neg (by omega) h2)]; grind
  · rw [if_neg h1, if_neg h2, if_neg (by have := Int.mul_nonneg (a := a) (b := b) (by omega) (by omega); omega)]
theorem rcompare_j (k : Nat) {a b c d : Int} (h : (sm a && sm b && sm c && sm d) = true) : dancestudioref01_Compare.j0 (k + 1) a b c d false = some (cmp3 (a * b) (c * d), 0) := by
  simp only [Bool.and_eq_true, sm_iff] at h
  obtain ⟨⟨⟨⟨a1, a2⟩, b1, b2⟩, c1, c2⟩, d1, d2⟩ := h
  simp only [dancestudioref01_Compare.j0]
  simp only [rsign_some, rorder_some, Option.bind_some, Bool.false_eq_true, if_false]
  rw [rsize_some a1 a2, rsize_some b1 b2, rsize_some c1 c2, rsize_some d1 d2]
  obtain ⟨h1, m1, l1, e1, g1⟩ := rwide_some (ab_sm a1 a2).1 (ab_sm a1 a2).2 (ab_sm b1 b2).1 (ab_sm b1 b2).2
  obtain ⟨h2, m2, l2, e2, g2⟩ := rwide_some (ab_sm c1 c2).1 (ab_sm c1 c2).2 (ab_sm d1 d2).1 (ab_sm d1 d2).2
  simp only [Option.bind_some]
  rw [e1]
  simp only [Option.bind_some]
  rw [e2]
  simp only [Option.bind_some]
  rw [ab_mul] at g1 g2
  clear e1 e2
  generalize a * b = p at *
  generalize c * d = q at *
  have key : ∀ x y : Int, 0 ≤ x → 0 ≤ y → x = h1 * 4503599627370496 + m1 * 67108864 + l1 → y = h2 * 4503599627370496 + m2 * 67108864 + l2 → ∀ s : Int,
      (if h1 = h2 then (if m1 = m2 then (some (wrap64 (s * cmp3 l1 l2), (0 : Int))) else some (wrap64 (s * cmp3 m1 m2), 0)) else some (wrap64 (s * cmp3 h1 h2), 0)) = some (wrap64 (s * cmp3 x y), 0) := by
    intro x y _ _ ex ey s
    rcases Int.lt_trichotomy h1 h2 with g | g | g
    · rw [if_neg (by omega), cmp3_lt g, cmp3_lt (by omega)]
    · rw [if_pos g]
      rcases Int.lt_trichotomy m1 m2 with f | f | f
      · rw [if_neg (by omega), cmp3_lt f, cmp3_lt (by omega)]
      · rw [if_pos f]
        rcases Int.lt_trichotomy l1 l2 with e | e | e
        · rw [cmp3_lt e, cmp3_lt (by omega)]
        · rw [cmp3_eq e, cmp3_eq (by omega)]
        · rw [cmp3_gt e, cmp3_gt (by omega)]
      · rw [if_neg (by omega), cmp3_gt f, cmp3_gt (by omega)]
    · rw [if_neg (by omega), cmp3_gt g, cmp3_gt (by omega)]
  have n1 : 0 ≤ ab p := by unfold ab; split <;> omega
  have n2 : 0 ≤ ab q := by unfold ab; split <;> omega
  rw [key (ab p) (ab q) n1 n2 g1.2.2.2.2.2 g2.2.2.2.2.2]
  clear key g1 g2
  rcases cmp3_cases p 0 with ⟨hp, e1⟩ | ⟨hp, e1⟩ | ⟨hp, e1⟩ <;> rcases cmp3_cases q 0 with ⟨hq, e2⟩ | ⟨hq, e2⟩ | ⟨hq, e2⟩ <;> rw [e1, e2]
  · rw [if_pos rfl]
    have : cmp3 (ab p) (ab q) = -cmp3 p q := by
      rcases cmp3_cases p q with ⟨g, e⟩ | ⟨g, e⟩ | ⟨g, e⟩ <;> rw [e] <;> unfold ab <;> rw [if_pos hp, if_pos hq]
      · exact cmp3_gt (by omega)
      · exact cmp3_eq (by omega)
      · exact cmp3_lt (by omega)
    have r := cmp3_range p q
    rw [this, w64 (by omega) (by omega)]; congr 2; omega
  · rw [if_neg (by omega), cmp3_lt (a := p) (b := q) (by omega)]; rfl
  · rw [if_neg (by omega), cmp3_lt (a := p) (b := q) (by omega)]; rfl
  · rw [if_neg (by omega), cmp3_gt (a := p) (b := q) (by omega)]; rfl
  · rw [if_pos rfl, cmp3_eq (a := p) (by omega)]; simp [w64]
  · rw [if_neg (by omega), cmp3_lt (a := p) (b := q) (by omega)]; rfl
  · rw [if_neg (by omega), cmp3_gt (a := p) (b := q) (by omega)]; rfl
  · rw [if_neg (by omega), cmp3_gt (a := p) (b := q) (by omega)]; rfl
  · rw [if_pos rfl]
    have : ab p = p := by unfold ab; rw [if_neg (by omega)]
    have : ab q = q := by unfold ab; rw [if_neg (by omega)]
    have r := cmp3_range p q
    simp only [*]
    rw [w64 (by omega) (by omega)]; congr 2; omega
theorem rcompare_some (k : Nat) (a b c d : Int) : dancestudioref01_Compare.f (k + 1) a b c d = if (sm a && sm b && sm c && sm d) = true then some (cmp3 (a * b) (c * d), 0) else some (0, 1) := by
  unfold dancestudioref01_Compare.f
  simp only [rsmall_some, Option.bind_some]
  have hb : dancestudioref01_Compare.j0 (k + 1) a b c d true = some (0, 1) := by simp [dancestudioref01_Compare.j0]
  cases h1 : sm a
  · simp [hb]
  · cases h2 : sm b
    · simp [hb]
    · cases h3 : sm c
      · simp [hb]
      · cases h4 : sm d
        · simp [hb]
        · simp only [if_true, Bool.not_true, Bool.and_self]
          exact rcompare_j k (by simp [h1, h2, h3, h4])
end Go.Proofs.YtaggccbndmmbhaaDoor.PAll
