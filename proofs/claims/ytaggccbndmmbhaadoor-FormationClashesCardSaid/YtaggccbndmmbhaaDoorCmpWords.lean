/- What the printed functions of layer 1 that compare products answer. -/
import Derived.Test.YtaggccbndmmbhaaDoorBase
import Derived.Test.YtaggccbndmmbhaaDoorPAllf73
import Derived.Test.YtaggccbndmmbhaaDoorPAllf84
import Derived.Test.YtaggccbndmmbhaaDoorChk
namespace Go.Proofs.YtaggccbndmmbhaaDoor.PAll
set_option linter.unusedVariables false
open Go Go.RowKit Go.Proofs.YtaggccbndmmbhaaDoorW.PrintWords Go.Proofs.YtaggccbndmmbhaaDoorW.PrintLast Go.Proofs.YtaggccbndmmbhaaDoorW.PrintMore Go.Proofs.YtaggccbndmmbhaaDoor.MathNum

/-- A number is from -2^50 to 2^50. -/
def sm (a : Int) : Bool := decide (-1125899906842624 ≤ a) && decide (a ≤ 1125899906842624)
theorem sm_iff {a : Int} : sm a = true ↔ -1125899906842624 ≤ a ∧ a ≤ 1125899906842624 := by unfold sm; simp
theorem sm_false {a : Int} : sm a = false ↔ a < -1125899906842624 ∨ 1125899906842624 < a := by
  rw [← Bool.not_eq_true, sm_iff]; omega
theorem small_step (k : Nat) (l : List Int) (n i : Int) (h1 : i < n) (h0 : 0 ≤ i) (h2 : i < (l.length : Int)) :
    num_small.l0 (k + 1) l n i = if sm (rd l i) = true then num_small.l0 k l n (wrap64 (i + 1)) else some false := by
  simp only [num_small.l0]
  rw [if_pos h1, if_pos h0, if_pos h2]
  by_cases h : sm (rd l i) = true
  · rw [if_pos h]; rw [sm_iff] at h
    rw [if_neg (by omega), if_neg (by omega)]
  · rw [if_neg h]
    rw [Bool.not_eq_true, sm_false] at h
    by_cases h' : rd l i < -1125899906842624
    · rw [if_pos h']
    · rw [if_neg h', if_pos (by omega)]
theorem small4 (k : Nat) (a b c d : Int) : num_small.f (k + 5) [a, b, c, d] = some (sm a && sm b && sm c && sm d) := by
  unfold num_small.f
  rw [small_step (k + 4) [a, b, c, d] _ 0 (by simp) (by omega) (by simp)]
  rw [show wrap64 (0 + 1) = 1 from w64 (by omega) (by omega), show rd [a, b, c, d] 0 = a from rfl]
  rw [small_step (k + 3) [a, b, c, d] _ 1 (by simp) (by omega) (by simp)]
  rw [show wrap64 (1 + 1) = 2 from w64 (by omega) (by omega), show rd [a, b, c, d] 1 = b from rfl]
  rw [small_step (k + 2) [a, b, c, d] _ 2 (by simp) (by omega) (by simp)]
  rw [show wrap64 (2 + 1) = 3 from w64 (by omega) (by omega), show rd [a, b, c, d] 2 = c from rfl]
  rw [small_step (k + 1) [a, b, c, d] _ 3 (by simp) (by omega) (by simp)]
  rw [show wrap64 (3 + 1) = 4 from w64 (by omega) (by omega), show rd [a, b, c, d] 3 = d from rfl]
  simp only [num_small.l0]
  cases sm a <;> cases sm b <;> cases sm c <;> cases sm d <;> simp

/-- The absolute value. -/
def ab (a : Int) : Int := if a < 0 then -a else a
theorem ab_sm {a : Int} (h1 : -1125899906842624 ≤ a) (h2 : a ≤ 1125899906842624) : 0 ≤ ab a ∧ ab a ≤ 1125899906842624 := by
  unfold ab; split <;> omega
theorem abs_some {a : Int} (h1 : -1125899906842624 ≤ a) (h2 : a ≤ 1125899906842624) : num_abs.f a = some (ab a) := by
  unfold num_abs.f mx ab
  rw [w64 (by omega) (by omega)]
  congr 1
  split <;> split <;> omega

theorem order_some (a b : Int) : num_order.f a b = some (cmp3 a b) := by
  unfold num_order.f cmp3
  split
  · rfl
  · split <;> rfl

/-- The product of two small numbers in two parts, as the program writes it. -/
theorem parts {x y : Int} (hx0 : 0 ≤ x) (hx : x ≤ 1125899906842624) (hy0 : 0 ≤ y) (hy : y ≤ 1125899906842624) :
    ∃ hi lo : Int, wrap64 ((wrap64 ((wrap64 ((wrap64 (Int.tdiv x 33554432)) * (wrap64 (Int.tdiv y 33554432)))) + (wrap64 (Int.tdiv (wrap64 ((wrap64 ((wrap64 (Int.tdiv x 33554432)) * (Int.tmod y 33554432))) + (wrap64 ((Int.tmod x 33554432) * (wrap64 (Int.tdiv y 33554432)))))) 33554432)))) + (wrap64 (Int.tdiv (wrap64 ((wrap64 ((Int.tmod x 33554432) * (Int.tmod y 33554432))) + (wrap64 ((Int.tmod (wrap64 ((wrap64 ((wrap64 (Int.tdiv x 33554432)) * (Int.tmod y 33554432))) + (wrap64 ((Int.tmod x 33554432) * (wrap64 (Int.tdiv y 33554432)))))) 33554432) * 33554432)))) 1125899906842624))) = hi ∧
      Int.tmod (wrap64 ((wrap64 ((Int.tmod x 33554432) * (Int.tmod y 33554432))) + (wrap64 ((Int.tmod (wrap64 ((wrap64 ((wrap64 (Int.tdiv x 33554432)) * (Int.tmod y 33554432))) + (wrap64 ((Int.tmod x 33554432) * (wrap64 (Int.tdiv y 33554432)))))) 33554432) * 33554432)))) 1125899906842624 = lo ∧
      0 ≤ lo ∧ lo < 1125899906842624 ∧ 0 ≤ hi ∧ x * y = hi * 1125899906842624 + lo := by
  have e1 : Int.tdiv x 33554432 = x / 33554432 := Int.tdiv_eq_ediv_of_nonneg hx0
  have e2 : Int.tdiv y 33554432 = y / 33554432 := Int.tdiv_eq_ediv_of_nonneg hy0
  have e3 : Int.tmod x 33554432 = x % 33554432 := Int.tmod_eq_emod_of_nonneg hx0
  have e4 : Int.tmod y 33554432 = y % 33554432 := Int.tmod_eq_emod_of_nonneg hy0
  rw [e1, e2, e3, e4]
  have hxe : x = (x / 33554432) * 33554432 + x % 33554432 := by omega
  have hye : y = (y / 33554432) * 33554432 + y % 33554432 := by omega
  have a1 : 0 ≤ x / 33554432 := by omega
  have a2 : x / 33554432 ≤ 33554432 := by omega
  have a3 : 0 ≤ x % 33554432 := by omega
  have a4 : x % 33554432 ≤ 33554431 := by omega
  have b1 : 0 ≤ y / 33554432 := by omega
  have b2 : y / 33554432 ≤ 33554432 := by omega
  have b3 : 0 ≤ y % 33554432 := by omega
  have b4 : y % 33554432 ≤ 33554431 := by omega
  generalize x / 33554432 = xh at *
  generalize x % 33554432 = xl at *
  generalize y / 33554432 = yh at *
  generalize y % 33554432 = yl at *
  rw [w64 (n := xh) (by omega) (by omega), w64 (n := yh) (by omega) (by omega)]
  have m1 := mul_range (a := xh) (b := yh) (A := 33554432) (B := 33554432) (by omega) a2 b1 b2
  have m2 := mul_range (a := xh) (b := yl) (A := 33554432) (B := 33554431) (by omega) a2 b3 b4
  have m3 := mul_range (a := xl) (b := yh) (A := 33554431) (B := 33554432) (by omega) a4 b1 b2
  have m4 := mul_range (a := xl) (b := yl) (A := 33554431) (B := 33554431) (by omega) a4 b3 b4
  have n1 := Int.mul_nonneg a1 b1
  have n2 := Int.mul_nonneg a1 b3
  have n3 := Int.mul_nonneg a3 b1
  have n4 := Int.mul_nonneg a3 b3
  have hp : x * y = (xh * yh) * 1125899906842624 + (xh * yl + xl * yh) * 33554432 + xl * yl := by
    rw [hxe, hye]; grind
  rw [hp]
  clear hp hxe hye
  generalize xh * yh = p1 at *
  generalize xh * yl = p2 at *
  generalize xl * yh = p3 at *
  generalize xl * yl = p4 at *
  rw [w64 (n := p1) (by omega) (by omega), w64 (n := p2) (by omega) (by omega), w64 (n := p3) (by omega) (by omega), w64 (n := p4) (by omega) (by omega)]
  rw [w64 (n := p2 + p3) (by omega) (by omega)]
  have e5 : Int.tdiv (p2 + p3) 33554432 = (p2 + p3) / 33554432 := Int.tdiv_eq_ediv_of_nonneg (by omega)
  have e6 : Int.tmod (p2 + p3) 33554432 = (p2 + p3) % 33554432 := Int.tmod_eq_emod_of_nonneg (by omega)
  rw [e5, e6]
  rw [w64 (n := (p2 + p3) / 33554432) (by omega) (by omega)]
  rw [w64 (n := (p2 + p3) % 33554432 * 33554432) (by omega) (by omega)]
  rw [w64 (n := p4 + (p2 + p3) % 33554432 * 33554432) (by omega) (by omega)]
  have e7 : Int.tdiv (p4 + (p2 + p3) % 33554432 * 33554432) 1125899906842624 = (p4 + (p2 + p3) % 33554432 * 33554432) / 1125899906842624 := Int.tdiv_eq_ediv_of_nonneg (by omega)
  have e8 : Int.tmod (p4 + (p2 + p3) % 33554432 * 33554432) 1125899906842624 = (p4 + (p2 + p3) % 33554432 * 33554432) % 1125899906842624 := Int.tmod_eq_emod_of_nonneg (by omega)
  rw [e7, e8]
  rw [w64 (n := p1 + (p2 + p3) / 33554432) (by omega) (by omega)]
  rw [w64 (n := (p4 + (p2 + p3) % 33554432 * 33554432) / 1125899906842624) (by omega) (by omega)]
  rw [w64 (by omega) (by omega)]
  exact ⟨_, _, rfl, rfl, by omega, by omega, by omega, by omega⟩

theorem times_some (k : Nat) {a b : Int} (ha1 : -1125899906842624 ≤ a) (ha2 : a ≤ 1125899906842624) (hb1 : -1125899906842624 ≤ b) (hb2 : b ≤ 1125899906842624) :
    ∃ s hi lo : Int, num_times.f (k + 1) a b = some (s, hi, lo) ∧ 0 ≤ lo ∧ lo < 1125899906842624 ∧ 0 ≤ hi ∧
      ((s = 0 ∧ a * b = 0 ∧ hi = 0 ∧ lo = 0) ∨ (s = 1 ∧ 0 < a * b ∧ a * b = hi * 1125899906842624 + lo) ∨ (s = -1 ∧ a * b < 0 ∧ -(a * b) = hi * 1125899906842624 + lo)) := by
  unfold num_times.f
  rw [abs_some ha1 ha2, abs_some hb1 hb2]
  simp only [Option.bind_some]
  obtain ⟨x0, x1⟩ := ab_sm ha1 ha2
  obtain ⟨y0, y1⟩ := ab_sm hb1 hb2
  by_cases ca : a = 0
  · refine ⟨0, 0, 0, ?_, by omega, by omega, by omega, Or.inl ⟨rfl, by simp [ca], rfl, rfl⟩⟩
    rw [if_pos (by unfold ab; split <;> omega)]
    simp [num_times.j0]
  · rw [if_neg (by unfold ab; split <;> omega)]
    by_cases cb : b = 0
    · refine ⟨0, 0, 0, ?_, by omega, by omega, by omega, Or.inl ⟨rfl, by simp [cb], rfl, rfl⟩⟩
      have : ab b = 0 := by unfold ab; split <;> omega
      simp [num_times.j0, this]
    · have hb : (ab b == 0) = false := by
        rw [beq_eq_false_iff_ne]; unfold ab; split <;> omega
      rw [hb]
      simp only [num_times.j0]
      rw [if_neg (by simp)]
      obtain ⟨hi, lo, e1, e2, l0, l1, h0, hm⟩ := parts x0 x1 y0 y1
      rw [e1, e2]
      by_cases s1 : a < 0 <;> by_cases s2 : b < 0
      · have : ab a * ab b = a * b := by unfold ab; rw [if_pos s1, if_pos s2]; grind
        have pos : 0 < a * b := Int.mul_pos_of_neg_of_neg s1 s2
        refine ⟨1, hi, lo, ?_, l0, l1, h0, Or.inr (Or.inl ⟨rfl, pos, by omega⟩)⟩
        rw [if_neg (by simp [s1, s2])]
      · have : ab a * ab b = -(a * b) := by unfold ab; rw [if_pos s1, if_neg s2]; grind
        have pos : a * b < 0 := Int.mul_neg_of_neg_of_pos s1 (by omega)
        refine ⟨-1, hi, lo, ?_, l0, l1, h0, Or.inr (Or.inr ⟨rfl, pos, by omega⟩)⟩
        rw [if_pos (by simp [s1]; omega)]
      · have : ab a * ab b = -(a * b) := by unfold ab; rw [if_neg s1, if_pos s2]; grind
        have pos : a * b < 0 := Int.mul_neg_of_pos_of_neg (by omega) s2
        refine ⟨-1, hi, lo, ?_, l0, l1, h0, Or.inr (Or.inr ⟨rfl, pos, by omega⟩)⟩
        rw [if_pos (by simp [s2]; omega)]
      · have : ab a * ab b = a * b := by unfold ab; rw [if_neg s1, if_neg s2]
        have pos : 0 < a * b := Int.mul_pos (by omega) (by omega)
        refine ⟨1, hi, lo, ?_, l0, l1, h0, Or.inr (Or.inl ⟨rfl, pos, by omega⟩)⟩
        rw [if_neg (by simp [s1, s2])]

theorem compare_some (k : Nat) {a b c d : Int} (h : (sm a && sm b && sm c && sm d) = true) : num_Compare.f (k + 5) a b c d = some (cmp3 (a * b) (c * d), 0) := by
  unfold num_Compare.f
  rw [small4, h]
  simp only [Option.bind_some, if_true]
  simp only [Bool.and_eq_true, sm_iff] at h
  obtain ⟨⟨⟨⟨a1, a2⟩, b1, b2⟩, c1, c2⟩, d1, d2⟩ := h
  obtain ⟨s, hi, lo, e1, l0, l1, h0, hs⟩ := times_some (k + 4) a1 a2 b1 b2
  obtain ⟨s', hi', lo', e2, l0', l1', h0', hs'⟩ := times_some (k + 4) c1 c2 d1 d2
  rw [e1, e2]
  simp only [Option.bind_some, order_some]
  generalize a * b = p at *
  generalize c * d = q at *
  rcases hs with ⟨rfl, hp, rfl, rfl⟩ | ⟨rfl, hp, ep⟩ | ⟨rfl, hp, ep⟩ <;> rcases hs' with ⟨rfl, hq, rfl, rfl⟩ | ⟨rfl, hq, eq⟩ | ⟨rfl, hq, eq⟩
  · simp [hp, hq, cmp3, w64]
  · rw [if_neg (by omega), cmp3_lt (by omega), cmp3_lt (by omega)]
  · rw [if_neg (by omega), cmp3_gt (by omega), cmp3_gt (by omega)]
  · rw [if_neg (by omega), cmp3_gt (by omega), cmp3_gt (by omega)]
  · rw [if_pos rfl]
    rcases Int.lt_trichotomy hi hi' with g | g | g
    · rw [if_neg (by omega), cmp3_lt g, cmp3_lt (by omega)]; simp [w64]
    · subst g
      rw [if_pos rfl]
      rcases Int.lt_trichotomy lo lo' with g | g | g
      · rw [cmp3_lt g, cmp3_lt (by omega)]; simp [w64]
      · subst g; rw [cmp3_eq rfl, cmp3_eq (by omega)]; simp [w64]
      · rw [cmp3_gt g, cmp3_gt (by omega)]; simp [w64]
    · rw [if_neg (by omega), cmp3_gt g, cmp3_gt (by omega)]; simp [w64]
  · rw [if_neg (by omega), cmp3_gt (by omega), cmp3_gt (by omega)]
  · rw [if_neg (by omega), cmp3_lt (by omega), cmp3_lt (by omega)]
  · rw [if_neg (by omega), cmp3_lt (by omega), cmp3_lt (by omega)]
  · rw [if_pos rfl]
    rcases Int.lt_trichotomy hi hi' with g | g | g
    · rw [if_neg (by omega), cmp3_lt g, cmp3_gt (by omega)]; simp [w64]
    · subst g
      rw [if_pos rfl]
      rcases Int.lt_trichotomy lo lo' with g | g | g
      · rw [cmp3_lt g, cmp3_gt (by omega)]; simp [w64]
      · subst g; rw [cmp3_eq rfl, cmp3_eq (by omega)]; simp [w64]
      · rw [cmp3_gt g, cmp3_lt (by omega)]; simp [w64]
    · rw [if_neg (by omega), cmp3_gt g, cmp3_lt (by omega)]; simp [w64]
theorem compare_bad (k : Nat) {a b c d : Int} (h : (sm a && sm b && sm c && sm d) = false) : num_Compare.f (k + 5) a b c d = some (0, 1) := by
  unfold num_Compare.f
  rw [small4, h]
  simp
end Go.Proofs.YtaggccbndmmbhaaDoor.PAll
