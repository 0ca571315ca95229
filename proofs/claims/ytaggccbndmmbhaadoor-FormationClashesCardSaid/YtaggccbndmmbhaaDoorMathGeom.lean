/- Plain facts about points, segments, moving discs and convex hulls, over whole numbers, without any program. -/
import Derived.Test.YtaggccbndmmbhaaDoorChk
namespace Go.Proofs.YtaggccbndmmbhaaDoor.MathGeom
open Go.RowKit Go.Proofs.YtaggccbndmmbhaaDoor.MathNum

/-- The scalar and the cross product. -/
def dt (a b c d : Int) : Int := a * c + b * d
def cr (a b c d : Int) : Int := a * d - b * c

/-- The sign of the least squared distance of the origin from the segment d, d + v less r2. -/
def nst (dx dy vx vy r2 : Int) : Int :=
  if -(dt dx dy vx vy) ≤ 0 then cmp3 (dt dx dy dx dy) r2
  else if -(dt dx dy vx vy) ≥ dt vx vy vx vy then cmp3 (dt (dx + vx) (dy + vy) (dx + vx) (dy + vy)) r2
  else cmp3 (cr dx dy vx vy * cr dx dy vx vy) (r2 * dt vx vy vx vy)

theorem mul_self_nonneg' (a : Int) : 0 ≤ a * a := by
  rcases Int.le_total 0 a with h | h
  · exact Int.mul_nonneg h h
  · have := Int.mul_nonneg (a := -a) (b := -a) (by omega) (by omega)
    rw [Int.neg_mul_neg] at this; exact this
theorem dt_self (a b : Int) : 0 ≤ dt a b a b := by
  unfold dt
  have h1 := mul_self_nonneg' a
  have h2 := mul_self_nonneg' b
  omega
theorem dt_zero {a b : Int} (h : dt a b a b ≤ 0) : a = 0 ∧ b = 0 := by
  unfold dt at h
  have h1 := mul_self_nonneg' a
  have h2 := mul_self_nonneg' b
  have e1 : a * a = 0 := by omega
  have e2 : b * b = 0 := by omega
  exact ⟨(Int.mul_eq_zero.mp e1).elim id id, (Int.mul_eq_zero.mp e2).elim id id⟩

/-- The segment the other way round. -/
theorem nst_rev (dx dy vx vy r2 : Int) : nst (dx + vx) (dy + vy) (-vx) (-vy) r2 = nst dx dy vx vy r2 := by
  have e1 : -(dt (dx + vx) (dy + vy) (-vx) (-vy)) = dt vx vy vx vy - -(dt dx dy vx vy) := by unfold dt; grind
  have e2 : dt (-vx) (-vy) (-vx) (-vy) = dt vx vy vx vy := by unfold dt; grind
  have e3 : cr (dx + vx) (dy + vy) (-vx) (-vy) = -(cr dx dy vx vy) := by unfold cr; grind
  have e4 : dx + vx + -vx = dx := by omega
  have e5 : dy + vy + -vy = dy := by omega
  unfold nst
  rw [e1, e2, e3, e4, e5]
  generalize ha : -(dt dx dy vx vy) = a at *
  have hL := dt_self vx vy
  by_cases c1 : a ≤ 0
  · rw [if_pos c1]
    by_cases c2 : dt vx vy vx vy - a ≤ 0
    · rw [if_pos c2]
      have hz := dt_zero (a := vx) (b := vy) (by omega)
      rw [hz.1, hz.2]; simp
    · rw [if_neg c2, if_pos (by omega)]
  · rw [if_neg c1]
    by_cases c2 : a ≥ dt vx vy vx vy
    · rw [if_pos c2, if_pos (by omega)]
    · rw [if_neg c2, if_neg (by omega), if_neg (by omega)]
      congr 1; grind
theorem nst_neg (dx dy vx vy r2 : Int) : nst (-dx) (-dy) (-vx) (-vy) r2 = nst dx dy vx vy r2 := by
  have e1 : dt (-dx) (-dy) (-vx) (-vy) = dt dx dy vx vy := by unfold dt; grind
  have e2 : dt (-vx) (-vy) (-vx) (-vy) = dt vx vy vx vy := by unfold dt; grind
  have e3 : cr (-dx) (-dy) (-vx) (-vy) = cr dx dy vx vy := by unfold cr; grind
  have e4 : dt (-dx) (-dy) (-dx) (-dy) = dt dx dy dx dy := by unfold dt; grind
  have e5 : dt (-dx + -vx) (-dy + -vy) (-dx + -vx) (-dy + -vy) = dt (dx + vx) (dy + vy) (dx + vx) (dy + vy) := by unfold dt; grind
  unfold nst
  rw [e1, e2, e3, e4, e5]
/-- Lagrange: the product of the squares is the sum of the squared products. -/
theorem lagrange (a b c d : Int) : dt a b a b * dt c d c d = dt a b c d * dt a b c d + cr a b c d * cr a b c d := by unfold dt cr; grind
theorem cr_shift (dx dy vx vy : Int) : cr (dx + vx) (dy + vy) vx vy = cr dx dy vx vy := by unfold cr; grind

/-- Nearer than the radius at some moment: at an end, or between. -/
theorem nst_touch (dx dy vx vy r2 : Int) : (nst dx dy vx vy r2 < 0) ↔ (dt dx dy dx dy < r2 ∨ dt (dx + vx) (dy + vy) (dx + vx) (dy + vy) < r2 ∨
    (0 < -(dt dx dy vx vy) ∧ -(dt dx dy vx vy) < dt vx vy vx vy ∧ cr dx dy vx vy * cr dx dy vx vy < r2 * dt vx vy vx vy)) := by
  have hend : dt (dx + vx) (dy + vy) (dx + vx) (dy + vy) = dt dx dy dx dy + 2 * dt dx dy vx vy + dt vx vy vx vy := by unfold dt; grind
  have hL := dt_self vx vy
  have neg3 : ∀ a b : Int, cmp3 a b < 0 ↔ a < b := by
    intro a b
    rcases cmp3_cases a b with ⟨h, e⟩ | ⟨h, e⟩ | ⟨h, e⟩ <;> rw [e] <;> omega
  unfold nst
  by_cases c1 : -(dt dx dy vx vy) ≤ 0
  · rw [if_pos c1, neg3]; omega
  · rw [if_neg c1]
    by_cases c2 : -(dt dx dy vx vy) ≥ dt vx vy vx vy
    · rw [if_pos c2, neg3]; omega
    · rw [if_neg c2, neg3]
      constructor
      · intro h; exact Or.inr (Or.inr ⟨by omega, by omega, h⟩)
      · rintro (h | h | ⟨_, _, h⟩)
        · have l := lagrange dx dy vx vy
          have q := mul_self_nonneg' (dt dx dy vx vy)
          have : dt dx dy dx dy * dt vx vy vx vy < r2 * dt vx vy vx vy := Int.mul_lt_mul_of_pos_right h (by omega)
          omega
        · have l := lagrange (dx + vx) (dy + vy) vx vy
          rw [cr_shift] at l
          have q := mul_self_nonneg' (dt (dx + vx) (dy + vy) vx vy)
          have : dt (dx + vx) (dy + vy) (dx + vx) (dy + vy) * dt vx vy vx vy < r2 * dt vx vy vx vy := Int.mul_lt_mul_of_pos_right h (by omega)
          omega
        · exact h

/-- Not nearer than the radius: at no moment k / n. -/
theorem nst_moment {dx dy vx vy r n k : Int} (h : ¬ nst dx dy vx vy (r * r) < 0) (hk : 0 ≤ k) (hn : k ≤ n) :
    (r * n) * (r * n) ≤ (dx * n + vx * k) * (dx * n + vx * k) + (dy * n + vy * k) * (dy * n + vy * k) := by
  have ex : (dx * n + vx * k) * (dx * n + vx * k) + (dy * n + vy * k) * (dy * n + vy * k) = n * n * dt dx dy dx dy + 2 * (n * k) * dt dx dy vx vy + k * k * dt vx vy vx vy := by unfold dt; grind
  have er : (r * n) * (r * n) = n * n * (r * r) := by grind
  have hL := dt_self vx vy
  have nn := mul_self_nonneg' n
  have kk := mul_self_nonneg' k
  have nk : 0 ≤ n * k := Int.mul_nonneg (by omega) hk
  have ge3 : ∀ a b : Int, ¬ cmp3 a b < 0 → b ≤ a := by
    intro a b
    rcases cmp3_cases a b with ⟨h, e⟩ | ⟨h, e⟩ | ⟨h, e⟩ <;> rw [e] <;> omega
  rw [ex, er]
  unfold nst at h
  by_cases c1 : -(dt dx dy vx vy) ≤ 0
  · rw [if_pos c1] at h
    have g := ge3 _ _ h
    have a1 : n * n * (r * r) ≤ n * n * dt dx dy dx dy := Int.mul_le_mul_of_nonneg_left g nn
    have a2 : 0 ≤ n * k * dt dx dy vx vy := Int.mul_nonneg nk (by omega)
    have a3 : 0 ≤ k * k * dt vx vy vx vy := Int.mul_nonneg kk hL
    have a4 : 2 * (n * k) * dt dx dy vx vy = 2 * (n * k * dt dx dy vx vy) := by grind
    omega
  · rw [if_neg c1] at h
    by_cases c2 : -(dt dx dy vx vy) ≥ dt vx vy vx vy
    · rw [if_pos c2] at h
      have g := ge3 _ _ h
      have a1 : n * n * (r * r) ≤ n * n * dt (dx + vx) (dy + vy) (dx + vx) (dy + vy) := Int.mul_le_mul_of_nonneg_left g nn
      have a2 : n * n * dt dx dy dx dy + 2 * (n * k) * dt dx dy vx vy + k * k * dt vx vy vx vy = n * n * dt (dx + vx) (dy + vy) (dx + vx) (dy + vy) + 2 * (n * (n - k) * (-(dt dx dy vx vy) - dt vx vy vx vy)) + (n - k) * (n - k) * dt vx vy vx vy := by unfold dt; grind
      have a3 : 0 ≤ n * (n - k) * (-(dt dx dy vx vy) - dt vx vy vx vy) := Int.mul_nonneg (Int.mul_nonneg (by omega) (by omega)) (by omega)
      have a4 : 0 ≤ (n - k) * (n - k) * dt vx vy vx vy := Int.mul_nonneg (mul_self_nonneg' _) hL
      omega
    · rw [if_neg c2] at h
      have g := ge3 _ _ h
      have hLp : 0 < dt vx vy vx vy := by omega
      apply Int.not_lt.mp
      intro lt
      have b1 := Int.mul_lt_mul_of_pos_right lt hLp
      have b2 : n * n * (r * r * dt vx vy vx vy) ≤ n * n * (cr dx dy vx vy * cr dx dy vx vy) := Int.mul_le_mul_of_nonneg_left g nn
      have b3 : (n * n * dt dx dy dx dy + 2 * (n * k) * dt dx dy vx vy + k * k * dt vx vy vx vy) * dt vx vy vx vy = (n * dt dx dy vx vy + k * dt vx vy vx vy) * (n * dt dx dy vx vy + k * dt vx vy vx vy) + n * n * (cr dx dy vx vy * cr dx dy vx vy) := by unfold dt cr; grind
      have b4 := mul_self_nonneg' (n * dt dx dy vx vy + k * dt vx vy vx vy)
      have b5 : n * n * (r * r) * dt vx vy vx vy = n * n * (r * r * dt vx vy vx vy) := by grind
      omega
end Go.Proofs.YtaggccbndmmbhaaDoor.MathGeom
