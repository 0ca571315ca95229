/- Texts of the proof, laid end to end. -/
import Derived.SizedLaws
import Derived.ChangeSlices
import Derived.DataElems
import Derived.WideShapes
import Derived.Test.YtmilejcbkpkplaaBI1
import Derived.Test.YtmilejcbkpkplaaBI3
import Derived.Test.YtmilejcbkpkplaaBI4
import Derived.Test.YtmilejcbkpkplaaBI5
import Derived.Test.YtmilejcbkpkplaaBI6
/- Convex hulls by turning around the corners: plain facts about lists of points. -/
namespace Go.Proofs.Ytmilejcbkpkplaa.PAll
set_option linter.unusedVariables false
open Go Go.RowKit Go.Proofs.YtmilejcbkpkplaaW.PrintWords Go.Proofs.YtmilejcbkpkplaaW.PrintLast Go.Proofs.YtmilejcbkpkplaaW.PrintMore Go.Proofs.Ytmilejcbkpkplaa.MathNum Go.Proofs.Ytmilejcbkpkplaa.EvWords Go.Proofs.Ytmilejcbkpkplaa.MathGeom

theorem S23_ext {a b : S23} (h0 : a.f0 = b.f0) (h1 : a.f1 = b.f1) : a = b := by cases a; cases b; simp_all
instance : DecidableEq S23 := fun a b => decidable_of_iff (a.f0 = b.f0 ∧ a.f1 = b.f1) ⟨fun h => S23_ext h.1 h.2, fun h => by subst h; exact ⟨rfl, rfl⟩⟩

/-- A half plane with one of its border's rays: the ways from a corner. -/
def HP (d e x y : Int) : Prop := 0 < cr d e x y ∨ cr d e x y = 0 ∧ dt d e x y ≤ 0

/-- What turns and lengths are in the coordinates that d, e spans. -/
theorem rot_cr (d e a b x y : Int) : dt d e d e * cr a b x y = dt d e a b * cr d e x y - cr d e a b * dt d e x y := by unfold dt cr; grind
theorem rot_dt (d e a b x y : Int) : dt d e d e * dt a b x y = dt d e a b * dt d e x y + cr d e a b * cr d e x y := by unfold dt cr; grind
theorem pos_of_mul {D a : Int} (hD : 0 < D) (h : 0 ≤ D * a) : 0 ≤ a := by
  apply Int.not_lt.mp
  intro g
  have := Int.mul_neg_of_pos_of_neg hD g
  omega
theorem HP_nonneg {d e x y : Int} (h : HP d e x y) : 0 ≤ cr d e x y := by rcases h with h | h <;> omega
theorem cr_anti (a b x y : Int) : cr x y a b = -cr a b x y := by unfold cr; grind
theorem dt_comm (a b x y : Int) : dt x y a b = dt a b x y := by unfold dt; grind

/-- In such a half plane turning is an order. -/
theorem turn_trans {d e a b x y p q : Int} (hD : 0 < dt d e d e) (h1 : HP d e a b) (h2 : HP d e x y) (h3 : HP d e p q) (hne : 0 < dt x y x y) (h12 : 0 ≤ cr a b x y) (h23 : 0 ≤ cr x y p q) : 0 ≤ cr a b p q := by
  have r12 := rot_cr d e a b x y
  have r23 := rot_cr d e x y p q
  have r13 := rot_cr d e a b p q
  have r22 := rot_dt d e x y x y
  apply pos_of_mul hD
  have m12 := Int.mul_nonneg (Int.le_of_lt hD) h12
  have m23 := Int.mul_nonneg (Int.le_of_lt hD) h23
  have m22 := Int.mul_pos hD hne
  rw [r12] at m12; rw [r23] at m23; rw [r13]; rw [r22] at m22
  have g1 := HP_nonneg h1
  have g3 := HP_nonneg h3
  have k1 : cr d e a b = 0 → dt d e a b ≤ 0 := fun z => by rcases h1 with h | h <;> omega
  have k2 : cr d e x y = 0 → dt d e x y ≤ 0 := fun z => by rcases h2 with h | h <;> omega
  have k3 : cr d e p q = 0 → dt d e p q ≤ 0 := fun z => by rcases h3 with h | h <;> omega
  have g2 := HP_nonneg h2
  clear r12 r23 r13 r22 h1 h2 h3 h12 h23
  generalize cr d e a b = Y1 at *
  generalize dt d e a b = X1 at *
  generalize cr d e x y = Y2 at *
  generalize dt d e x y = X2 at *
  generalize cr d e p q = Y3 at *
  generalize dt d e p q = X3 at *
  rcases Int.lt_or_eq_of_le g2 with g | g
  · apply pos_of_mul g
    have a1 := Int.mul_nonneg g3 m12
    have a2 := Int.mul_nonneg g1 m23
    have : Y2 * (X1 * Y3 - Y1 * X3) = Y3 * (X1 * Y2 - Y1 * X2) + Y1 * (X2 * Y3 - Y2 * X3) := by grind
    omega
  · have z : Y2 = 0 := g.symm
    subst z
    have x2 : X2 ≤ 0 := k2 rfl
    have x2' : X2 < 0 := by
      rcases Int.lt_or_eq_of_le x2 with h | h
      · exact h
      · subst h; simp at m22
    have y3 : Y3 = 0 := by
      rcases Int.lt_or_eq_of_le g3 with h | h
      · have := Int.mul_neg_of_neg_of_pos x2' h; omega
      · exact h.symm
    subst y3
    have := Int.mul_nonneg g1 (a := Y1) (b := -X3) (by have := k3 rfl; omega)
    rw [Int.mul_neg] at this
    omega
/-- Ways of one line in such a half plane have one direction. -/
theorem same_way {d e a b x y : Int} (hD : 0 < dt d e d e) (h1 : HP d e a b) (h2 : HP d e x y) (hc : cr a b x y = 0) : 0 ≤ dt a b x y := by
  have r := rot_cr d e a b x y
  have s := rot_dt d e a b x y
  apply pos_of_mul hD
  rw [hc, Int.mul_zero] at r
  rw [s]
  have g1 := HP_nonneg h1
  have g2 := HP_nonneg h2
  have k1 : cr d e a b = 0 → dt d e a b ≤ 0 := fun z => by rcases h1 with h | h <;> omega
  have k2 : cr d e x y = 0 → dt d e x y ≤ 0 := fun z => by rcases h2 with h | h <;> omega
  clear s h1 h2 hc
  generalize cr d e a b = Y1 at *
  generalize dt d e a b = X1 at *
  generalize cr d e x y = Y2 at *
  generalize dt d e x y = X2 at *
  have hy := Int.mul_nonneg g1 g2
  have hx : 0 ≤ X1 * X2 := by
    rcases Int.lt_or_eq_of_le g1 with a | a
    · rcases Int.lt_or_eq_of_le g2 with b | b
      · have pp := Int.mul_pos a b
        apply pos_of_mul pp
        have : Y1 * Y2 * (X1 * X2) = (X1 * Y2) * (X1 * Y2) := by
          have : X1 * Y2 = Y1 * X2 := by omega
          have e : Y1 * Y2 * (X1 * X2) = (Y1 * X2) * (X1 * Y2) := by grind
          rw [e, this]
        rw [this]; exact mul_self_nonneg' _
      · have z : Y2 = 0 := b.symm
        subst z
        have : Y1 * X2 = 0 := by omega
        rcases Int.mul_eq_zero.mp this with h | h
        · omega
        · rw [h]; simp
    · have z : Y1 = 0 := a.symm
      subst z
      have : X1 * Y2 = 0 := by omega
      rcases Int.mul_eq_zero.mp this with h | h
      · rw [h]; simp
      · exact Int.mul_nonneg_of_nonpos_of_nonpos (k1 rfl) (k2 h)
  omega

/-- The turn from o to p around c, and the square of a way. -/
def cx (c o p : S23) : Int := cr (o.f0 - c.f0) (o.f1 - c.f1) (p.f0 - c.f0) (p.f1 - c.f1)
def sq (c p : S23) : Int := dt (p.f0 - c.f0) (p.f1 - c.f1) (p.f0 - c.f0) (p.f1 - c.f1)
theorem cx_anti (c o p : S23) : cx c p o = -cx c o p := cr_anti _ _ _ _
theorem sq_nonneg (c p : S23) : 0 ≤ sq c p := dt_self _ _
theorem sq_zero {c p : S23} (h : sq c p ≤ 0) : p = c := by
  have := dt_zero h
  exact S23_ext (by omega) (by omega)
theorem sq_pos {c p : S23} (h : p ≠ c) : 0 < sq c p := by
  have := sq_nonneg c p
  rcases Int.lt_or_eq_of_le this with g | g
  · exact g
  · exact absurd (sq_zero (by omega)) h
theorem sq_self (c : S23) : sq c c = 0 := by unfold sq dt; simp
def better (c o p : S23) : Prop := if o = c then p ≠ c else cx c o p < 0 ∨ cx c o p = 0 ∧ sq c p > sq c o
instance (c o p : S23) : Decidable (better c o p) := by unfold better; exact inferInstance
def step (c o p : S23) : S23 := if better c o p then p else o
def nxt (l : List S23) (c : S23) : S23 := l.foldl (step c) c
/-- Nothing is to the right of the way from c to q, and nothing on it is farther. -/
def Gd (l : List S23) (c q : S23) : Prop := ∀ p ∈ l, 0 ≤ cx c q p ∧ (cx c q p = 0 → sq c p ≤ sq c q)
def Cor (l : List S23) (c : S23) : Prop := ∃ d e : Int, 0 < dt d e d e ∧ ∀ p ∈ l, HP d e (p.f0 - c.f0) (p.f1 - c.f1)

theorem step_good {d e : Int} {c o p : S23} {s : List S23} (hD : 0 < dt d e d e) (hs : ∀ r ∈ s, HP d e (r.f0 - c.f0) (r.f1 - c.f1)) (hp : HP d e (p.f0 - c.f0) (p.f1 - c.f1))
    (h : o = c ∧ (∀ r ∈ s, r = c) ∨ o ∈ s ∧ o ≠ c ∧ Gd s c o) : step c o p = c ∧ (∀ r ∈ s ++ [p], r = c) ∨ step c o p ∈ s ++ [p] ∧ step c o p ≠ c ∧ Gd (s ++ [p]) c (step c o p) := by
  have yes : better c o p → step c o p = p := fun h => by unfold step; rw [if_pos h]
  have no : ¬ better c o p → step c o p = o := fun h => by unfold step; rw [if_neg h]
  unfold better at yes no
  rcases h with ⟨rfl, h⟩ | ⟨ho, hne, hg⟩
  · rw [if_pos rfl] at yes no
    by_cases hp' : p ≠ o
    · rw [yes hp']
      refine Or.inr ⟨by simp, hp', fun r hr => ?_⟩
      rcases List.mem_append.1 hr with hr | hr
      · rw [h r hr]
        have z : cx o p o = 0 := by unfold cx cr; simp
        exact ⟨by omega, fun _ => by rw [sq_self]; exact sq_nonneg _ _⟩
      · rw [List.mem_singleton.1 hr]
        have z : cx o p p = 0 := by unfold cx cr; grind
        exact ⟨by omega, fun _ => Int.le_refl _⟩
    · rw [no hp']
      refine Or.inl ⟨rfl, fun r hr => ?_⟩
      rcases List.mem_append.1 hr with hr | hr
      · exact h r hr
      · rw [List.mem_singleton.1 hr]; exact Decidable.not_not.1 hp'
  · rw [if_neg hne] at yes no
    have so := sq_pos hne
    by_cases hb : cx c o p < 0 ∨ cx c o p = 0 ∧ sq c p > sq c o
    · rw [yes hb]
      have pne : p ≠ c := by
        rintro rfl
        rcases hb with h | h
        · unfold cx cr at h; simp at h
        · rw [sq_self] at h; omega
      have sp := sq_pos pne
      have hpo : 0 ≤ cx c p o := by rw [cx_anti]; omega
      refine Or.inr ⟨by simp, pne, fun r hr => ?_⟩
      rcases List.mem_append.1 hr with hr | hr
      · obtain ⟨g1, g2⟩ := hg r hr
        have t1 : 0 ≤ cx c p r := turn_trans hD hp (hs o ho) (hs r hr) so hpo g1
        refine ⟨t1, fun z => ?_⟩
        rcases Int.lt_or_eq_of_le (sq_nonneg c r) with sr | sr
        · have zr : 0 ≤ cx c r p := by rw [cx_anti]; omega
          rcases hb with h | h
          · have := turn_trans hD (hs o ho) (hs r hr) hp sr g1 zr
            have : 0 ≤ cx c o p := this
            omega
          · have k : 0 ≤ cx c r o := turn_trans hD (hs r hr) hp (hs o ho) sp zr hpo
            rw [cx_anti] at k
            have := g2 (by omega)
            omega
        · omega
      · rw [List.mem_singleton.1 hr]
        have z : cx c p p = 0 := by unfold cx cr; grind
        exact ⟨by omega, fun _ => Int.le_refl _⟩
    · rw [no hb]
      refine Or.inr ⟨by simp [ho], hne, fun r hr => ?_⟩
      rcases List.mem_append.1 hr with hr | hr
      · exact hg r hr
      · rw [List.mem_singleton.1 hr]; exact ⟨by omega, fun z => by omega⟩
theorem fold_good {d e : Int} {c : S23} (hD : 0 < dt d e d e) (t : List S23) : ∀ (s : List S23) (o : S23), (∀ r ∈ s ++ t, HP d e (r.f0 - c.f0) (r.f1 - c.f1)) →
    (o = c ∧ (∀ r ∈ s, r = c) ∨ o ∈ s ∧ o ≠ c ∧ Gd s c o) → (t.foldl (step c) o = c ∧ (∀ r ∈ s ++ t, r = c) ∨ t.foldl (step c) o ∈ s ++ t ∧ t.foldl (step c) o ≠ c ∧ Gd (s ++ t) c (t.foldl (step c) o)) := by
  induction t with
  | nil => intro s o _ h; simpa using h
  | cons p t ih =>
    intro s o hs h
    have := ih (s ++ [p]) (step c o p) (by simpa using hs) (step_good hD (fun r hr => hs r (by simp [hr])) (hs p (by simp)) h)
    simpa using this
/-- The next corner, as seen from a corner. -/
theorem nxt_good {l : List S23} {c : S23} (h : Cor l c) : nxt l c = c ∧ (∀ p ∈ l, p = c) ∨ nxt l c ∈ l ∧ nxt l c ≠ c ∧ Gd l c (nxt l c) := by
  obtain ⟨d, e, hD, hH⟩ := h
  have := fold_good hD l [] c (by simpa using hH) (Or.inl ⟨rfl, by simp⟩)
  simpa [nxt] using this
theorem Cor_next {l : List S23} {c q : S23} (hne : q ≠ c) (h : Gd l c q) : Cor l q := by
  refine ⟨q.f0 - c.f0, q.f1 - c.f1, sq_pos hne, fun p hp => ?_⟩
  obtain ⟨h1, h2⟩ := h p hp
  have e1 : cr (q.f0 - c.f0) (q.f1 - c.f1) (p.f0 - q.f0) (p.f1 - q.f1) = cx c q p := by unfold cx cr; grind
  have e2 : sq c p = dt (p.f0 - q.f0) (p.f1 - q.f1) (p.f0 - q.f0) (p.f1 - q.f1) + 2 * dt (q.f0 - c.f0) (q.f1 - c.f1) (p.f0 - q.f0) (p.f1 - q.f1) + sq c q := by unfold sq dt; grind
  have := dt_self (p.f0 - q.f0) (p.f1 - q.f1)
  unfold HP
  rw [e1]
  rcases Int.lt_or_eq_of_le h1 with g | g
  · exact Or.inl g
  · exact Or.inr ⟨g.symm, by have := h2 g.symm; omega⟩
/-- A corner's way to the next corner is one alone. -/
theorem Gd_uniq {l : List S23} {c q q' : S23} (hc : Cor l c) (hq : q ∈ l) (hq' : q' ∈ l) (h : Gd l c q) (h' : Gd l c q') : q = q' := by
  obtain ⟨d, e, hD, hH⟩ := hc
  obtain ⟨a1, a2⟩ := h q' hq'
  obtain ⟨b1, b2⟩ := h' q hq
  have an := cx_anti c q q'
  have z : cx c q q' = 0 := by omega
  have es : sq c q = sq c q' := by have := a2 z; have := b2 (by omega); omega
  have nn := same_way hD (hH q hq) (hH q' hq') z
  have lg := lagrange (q.f0 - c.f0) (q.f1 - c.f1) (q'.f0 - c.f0) (q'.f1 - c.f1)
  have z' : cr (q.f0 - c.f0) (q.f1 - c.f1) (q'.f0 - c.f0) (q'.f1 - c.f1) = 0 := z
  rw [z'] at lg
  have e1 : sq q' q = sq c q - 2 * dt (q.f0 - c.f0) (q.f1 - c.f1) (q'.f0 - c.f0) (q'.f1 - c.f1) + sq c q' := by unfold sq dt; grind
  change sq c q * sq c q' = _ at lg
  rw [es] at lg e1
  have s0 := sq_nonneg c q'
  generalize dt (q.f0 - c.f0) (q.f1 - c.f1) (q'.f0 - c.f0) (q'.f1 - c.f1) = m at *
  have : sq c q' = m := by
    have f : (sq c q' - m) * (sq c q' + m) = 0 := by grind
    rcases Int.mul_eq_zero.mp f with g | g <;> omega
  exact sq_zero (by omega)
/-- Two corners have no corner in common as the next one. -/
theorem nxt_inj {l : List S23} {a b q : S23} (ha : Cor l a) (hb : Cor l b) (ma : a ∈ l) (mb : b ∈ l) (mq : q ∈ l) (hqa : q ≠ a) (hqb : q ≠ b) (ga : Gd l a q) (gb : Gd l b q) : a = b := by
  apply Classical.byContradiction
  intro hab
  obtain ⟨a1, a2⟩ := ga b mb
  obtain ⟨b1, b2⟩ := gb a ma
  have e1 : cx a q b = -cr (a.f0 - q.f0) (a.f1 - q.f1) (b.f0 - q.f0) (b.f1 - q.f1) := by unfold cx cr; grind
  have e2 : cx b q a = cr (a.f0 - q.f0) (a.f1 - q.f1) (b.f0 - q.f0) (b.f1 - q.f1) := by unfold cx cr; grind
  have z : cr (a.f0 - q.f0) (a.f1 - q.f1) (b.f0 - q.f0) (b.f1 - q.f1) = 0 := by omega
  have n1 := a2 (by omega)
  have n2 := b2 (by omega)
  have pa := sq_pos hqa
  have pb := sq_pos hqb
  have hba : a ≠ b := hab
  have pab := sq_pos hba
  have e3 : sq a b = sq b a := by unfold sq dt; grind
  have e4 : sq b a = sq a q - 2 * dt (a.f0 - q.f0) (a.f1 - q.f1) (b.f0 - q.f0) (b.f1 - q.f1) + sq b q := by unfold sq dt; grind
  have lg := lagrange (a.f0 - q.f0) (a.f1 - q.f1) (b.f0 - q.f0) (b.f1 - q.f1)
  have e5 : dt (a.f0 - q.f0) (a.f1 - q.f1) (a.f0 - q.f0) (a.f1 - q.f1) = sq a q := by unfold sq dt; grind
  have e6 : dt (b.f0 - q.f0) (b.f1 - q.f1) (b.f0 - q.f0) (b.f1 - q.f1) = sq b q := by unfold sq dt; grind
  rw [z, e5, e6] at lg
  -- the corner b sees a and q on one line, not in opposite directions
  obtain ⟨d, e, hD, hH⟩ := hb
  obtain ⟨d', e', hD', hH'⟩ := ha
  have w1 := same_way hD (hH a ma) (hH q mq) (by rw [show cr (a.f0 - b.f0) (a.f1 - b.f1) (q.f0 - b.f0) (q.f1 - b.f1) = -cr (a.f0 - q.f0) (a.f1 - q.f1) (b.f0 - q.f0) (b.f1 - q.f1) by unfold cr; grind]; omega)
  have w2 := same_way hD' (hH' b mb) (hH' q mq) (by rw [show cr (b.f0 - a.f0) (b.f1 - a.f1) (q.f0 - a.f0) (q.f1 - a.f1) = cr (a.f0 - q.f0) (a.f1 - q.f1) (b.f0 - q.f0) (b.f1 - q.f1) by unfold cr; grind]; omega)
  have f1 : dt (a.f0 - b.f0) (a.f1 - b.f1) (q.f0 - b.f0) (q.f1 - b.f1) = sq b q - dt (a.f0 - q.f0) (a.f1 - q.f1) (b.f0 - q.f0) (b.f1 - q.f1) := by unfold sq dt; grind
  have f2 : dt (b.f0 - a.f0) (b.f1 - a.f1) (q.f0 - a.f0) (q.f1 - a.f1) = sq a q - dt (a.f0 - q.f0) (a.f1 - q.f1) (b.f0 - q.f0) (b.f1 - q.f1) := by unfold sq dt; grind
  generalize dt (a.f0 - q.f0) (a.f1 - q.f1) (b.f0 - q.f0) (b.f1 - q.f1) = m at *
  -- m ≤ |u|², m ≤ |v|², m² = |u|² |v|², |v|² ≤ 2 m, |u|² ≤ 2 m
  have m0 : 0 < m := by omega
  have q1 : sq a q * sq b q ≥ m * sq b q := Int.mul_le_mul_of_nonneg_right (by omega) (by omega)
  have q2 : m * m ≤ m * sq b q := Int.mul_le_mul_of_nonneg_left (by omega) (by omega)
  have eqb : sq b q = m := by
    rcases Int.lt_or_eq_of_le (show m ≤ sq b q by omega) with g | g
    · have := Int.mul_lt_mul_of_pos_left g m0; omega
    · exact g.symm
  have eqa : sq a q = m := by
    have : (sq a q - m) * m = 0 := by rw [eqb] at lg; grind
    rcases Int.mul_eq_zero.mp this with g | g <;> omega
  omega

/-- The least point, by its first, then by its second number. -/
def lt2 (a b : S23) : Prop := a.f0 < b.f0 ∨ a.f0 = b.f0 ∧ a.f1 < b.f1
instance (a b : S23) : Decidable (lt2 a b) := by unfold lt2; exact inferInstance
def low (o p : S23) : S23 := if lt2 p o then p else o
theorem lt2_antisymm {a b : S23} (h1 : ¬ lt2 a b) (h2 : ¬ lt2 b a) : a = b := by
  unfold lt2 at *
  exact S23_ext (by omega) (by omega)
theorem low_least (t : List S23) : ∀ (s : List S23) (o : S23), o ∈ s → (∀ r ∈ s, ¬ lt2 r o) → t.foldl low o ∈ s ++ t ∧ ∀ r ∈ s ++ t, ¬ lt2 r (t.foldl low o) := by
  induction t with
  | nil => intro s o h1 h2; simpa using ⟨h1, h2⟩
  | cons p t ih =>
    intro s o h1 h2
    have := ih (s ++ [p]) (low o p) ?_ ?_
    · simpa using this
    · unfold low; split
      · simp
      · simp [h1]
    · intro r hr
      unfold low
      rcases List.mem_append.1 hr with hr | hr
      · have := h2 r hr
        split
        · rename_i hl; unfold lt2 at *; omega
        · exact this
      · rw [List.mem_singleton.1 hr]
        split
        · unfold lt2; omega
        · rename_i hl; exact hl
theorem Cor_first {l : List S23} {c : S23} (h : ∀ r ∈ l, ¬ lt2 r c) : Cor l c := by
  refine ⟨0, -1, by decide, fun p hp => ?_⟩
  have := h p hp
  unfold lt2 at this
  unfold HP cr dt
  omega

/-- What is without repetition in a list is not longer. -/
theorem nodup_len {α : Type} [DecidableEq α] : ∀ {s l : List α}, s.Nodup → (∀ x ∈ s, x ∈ l) → s.length ≤ l.length := by
  intro s
  induction s with
  | nil => intro l _ _; simp
  | cons a t ih =>
    intro l hn hs
    rw [List.nodup_cons] at hn
    have ha : a ∈ l := hs a (by simp)
    have := ih (l := l.erase a) hn.2 (fun x hx => by
      have : x ≠ a := by rintro rfl; exact hn.1 hx
      exact (List.mem_erase_of_ne this).2 (hs x (by simp [hx])))
    have e := List.length_erase_of_mem ha
    have p : 0 < l.length := List.length_pos_of_mem ha
    simp only [List.length_cons]
    omega

/-- The beginning of a walk around the hull. -/
structure Walk (l h : List S23) : Prop where
  ne : 0 < h.length
  nodup : h.Nodup
  sub : ∀ p ∈ h, p ∈ l
  cor : ∀ p ∈ h, Cor l p
  first : ∀ r ∈ l, ¬ lt2 r (h[0]'ne)
  chain : ∀ i (hi : i + 1 < h.length), nxt l h[i] = h[i + 1]
/-- The whole walk: it comes back to its first corner. -/
structure Hulled (l h : List S23) : Prop extends Walk l h where
  back : nxt l (h[h.length - 1]'(by omega)) = h[0]'ne

theorem Walk.len {l h : List S23} (w : Walk l h) : h.length ≤ l.length := nodup_len w.nodup w.sub
theorem Walk.one {l : List S23} {c : S23} (hc : c ∈ l) (h : ∀ r ∈ l, ¬ lt2 r c) : Walk l [c] :=
  ⟨by simp, by simp, by simpa using hc, by simpa using Cor_first h, by simpa using h, fun i hi => by simp at hi⟩
/-- The first corner that comes again is the first one. -/
theorem Walk.again {l h : List S23} {n : Nat} (w : Walk l h) (hn : h.length = n + 1) (hm : nxt l (h[n]'(by omega)) ∈ h) : nxt l (h[n]'(by omega)) = h[0]'(by omega) := by
  obtain ⟨j, hj, ej⟩ := List.getElem_of_mem hm
  cases j with
  | zero => rw [← ej]
  | succ j =>
    have cn := w.cor h[n] (List.getElem_mem _)
    rcases nxt_good cn with ⟨e, all⟩ | ⟨mq, hne, gd⟩
    · rw [e]; exact (all _ (w.sub _ (List.getElem_mem (l := h) (n := 0) (by omega)))).symm
    · have ch := w.chain j hj
      have cj := w.cor h[j] (List.getElem_mem _)
      have ne' : ∀ (a b : Nat) (ha : a < h.length) (hb : b < h.length), a ≠ b → h[a] ≠ h[b] := fun a b ha hb hab e => hab ((List.getElem_inj w.nodup).1 e)
      rcases nxt_good cj with ⟨e, all⟩ | ⟨mq', hne', gd'⟩
      · rw [ch] at e
        exact absurd e (ne' (j + 1) j hj (by omega) (by omega))
      · rw [ch, ej] at gd' hne'
        have := nxt_inj cn cj (w.sub _ (List.getElem_mem _)) (w.sub _ (List.getElem_mem _)) mq hne hne' gd gd'
        exact absurd this (ne' n j (by omega) (by omega) (by omega))
theorem Walk.more {l h : List S23} {n : Nat} (w : Walk l h) (hn : h.length = n + 1) (hm : nxt l (h[n]'(by omega)) ∉ h) : Walk l (h ++ [nxt l (h[n]'(by omega))]) := by
  have cn := w.cor h[n] (List.getElem_mem _)
  rcases nxt_good cn with ⟨e, _⟩ | ⟨mq, hne, gd⟩
  · rw [e] at hm; exact absurd (List.getElem_mem _) hm
  · refine ⟨by simp, ?_, ?_, ?_, ?_, ?_⟩
    · rw [List.nodup_append]
      exact ⟨w.nodup, by simp, fun a ha b hb e => by rw [List.mem_singleton.1 hb] at e; rw [e] at ha; exact hm ha⟩
    · intro p hp
      rcases List.mem_append.1 hp with hp | hp
      · exact w.sub p hp
      · rw [List.mem_singleton.1 hp]; exact mq
    · intro p hp
      rcases List.mem_append.1 hp with hp | hp
      · exact w.cor p hp
      · rw [List.mem_singleton.1 hp]; exact Cor_next hne gd
    · intro r hr
      rw [List.getElem_append_left (by omega)]
      exact w.first r hr
    · intro i hi
      simp only [List.length_append, List.length_singleton] at hi
      rw [List.getElem_append_left (by omega)]
      by_cases c : i + 1 < h.length
      · rw [List.getElem_append_left c]; exact w.chain i c
      · have : i = n := by omega
        subst this
        rw [List.getElem_append_right (by omega)]
        simp
end Go.Proofs.Ytmilejcbkpkplaa.PAll
/- What the printed functions of layer 1 that compare products answer. -/
namespace Go.Proofs.Ytmilejcbkpkplaa.PAll
set_option linter.unusedVariables false
open Go Go.RowKit Go.Proofs.YtmilejcbkpkplaaW.PrintWords Go.Proofs.YtmilejcbkpkplaaW.PrintLast Go.Proofs.YtmilejcbkpkplaaW.PrintMore Go.Proofs.Ytmilejcbkpkplaa.MathNum

/-- A number is from -2^50 to 2^50. -/
def sm (a : Int) : Bool := decide (-1125899906842624 ≤ a) && decide (a ≤ 1125899906842624)
theorem sm_iff {a : Int} : sm a = true ↔ -1125899906842624 ≤ a ∧ a ≤ 1125899906842624 := by unfold sm; simp
theorem sm_false {a : Int} : sm a = false ↔ a < -1125899906842624 ∨ 1125899906842624 < a := by
  rw [← Bool.not_eq_true, sm_iff]; omega
theorem small_step (k : Nat) (l : List Int) (n i : Int) (h1 : i < n) (h0 : 0 ≤ i) (h2 : i < (l.length : Int)) :
    num_small.l0 (k + 1) l n i = if sm (rd l i) = true then num_small.l0 k l n (wrap64 (i + 1)) else some false := by
  simp only [num_small.l0]
  rw [if_pos h1, if_pos h0, if_pos h2]
  by_cases h : sm (rd l i) = true
  · rw [if_pos h]; rw [sm_iff] at h
    rw [if_neg (by omega), if_neg (by omega)]
  · rw [if_neg h]
    rw [Bool.not_eq_true, sm_false] at h
    by_cases h' : rd l i < -1125899906842624
    · rw [if_pos h']
    · rw [if_neg h', if_pos (by omega)]
theorem small4 (k : Nat) (a b c d : Int) : num_small.f (k + 5) [a, b, c, d] = some (sm a && sm b && sm c && sm d) := by
  unfold num_small.f
  rw [small_step (k + 4) [a, b, c, d] _ 0 (by simp) (by omega) (by simp)]
  rw [show wrap64 (0 + 1) = 1 from w64 (by omega) (by omega), show rd [a, b, c, d] 0 = a from rfl]
  rw [small_step (k + 3) [a, b, c, d] _ 1 (by simp) (by omega) (by simp)]
  rw [show wrap64 (1 + 1) = 2 from w64 (by omega) (by omega), show rd [a, b, c, d] 1 = b from rfl]
  rw [small_step (k + 2) [a, b, c, d] _ 2 (by simp) (by omega) (by simp)]
  rw [show wrap64 (2 + 1) = 3 from w64 (by omega) (by omega), show rd [a, b, c, d] 2 = c from rfl]
  rw [small_step (k + 1) [a, b, c, d] _ 3 (by simp) (by omega) (by simp)]
  rw [show wrap64 (3 + 1) = 4 from w64 (by omega) (by omega), show rd [a, b, c, d] 3 = d from rfl]
  simp only [num_small.l0]
  cases sm a <;> cases sm b <;> cases sm c <;> cases sm d <;> simp

/-- The absolute value. -/
def ab (a : Int) : Int := if a < 0 then -a else a
theorem ab_sm {a : Int} (h1 : -1125899906842624 ≤ a) (h2 : a ≤ 1125899906842624) : 0 ≤ ab a ∧ ab a ≤ 1125899906842624 := by
  unfold ab; split <;> omega
theorem abs_some {a : Int} (h1 : -1125899906842624 ≤ a) (h2 : a ≤ 1125899906842624) : num_abs.f a = some (ab a) := by
  unfold num_abs.f mx ab
  rw [w64 (by omega) (by omega)]
  congr 1
  split <;> split <;> omega

theorem order_some (a b : Int) : num_order.f a b = some (cmp3 a b) := by
  unfold num_order.f cmp3
  split
  · rfl
  · split <;> rfl

/-- The product of two small numbers in two parts, as the program writes it. -/
theorem parts {x y : Int} (hx0 : 0 ≤ x) (hx : x ≤ 1125899906842624) (hy0 : 0 ≤ y) (hy : y ≤ 1125899906842624) :
    ∃ hi lo : Int, wrap64 ((wrap64 ((wrap64 ((wrap64 (Int.tdiv x 33554432)) * (wrap64 (Int.tdiv y 33554432)))) + (wrap64 (Int.tdiv (wrap64 ((wrap64 ((wrap64 (Int.tdiv x 33554432)) * (Int.tmod y 33554432))) + (wrap64 ((Int.tmod x 33554432) * (wrap64 (Int.tdiv y 33554432)))))) 33554432)))) + (wrap64 (Int.tdiv (wrap64 ((wrap64 ((Int.tmod x 33554432) * (Int.tmod y 33554432))) + (wrap64 ((Int.tmod (wrap64 ((wrap64 ((wrap64 (Int.tdiv x 33554432)) * (Int.tmod y 33554432))) + (wrap64 ((Int.tmod x 33554432) * (wrap64 (Int.tdiv y 33554432)))))) 33554432) * 33554432)))) 1125899906842624))) = hi ∧
      Int.tmod (wrap64 ((wrap64 ((Int.tmod x 33554432) * (Int.tmod y 33554432))) + (wrap64 ((Int.tmod (wrap64 ((wrap64 ((wrap64 (Int.tdiv x 33554432)) * (Int.tmod y 33554432))) + (wrap64 ((Int.tmod x 33554432) * (wrap64 (Int.tdiv y 33554432)))))) 33554432) * 33554432)))) 1125899906842624 = lo ∧
      0 ≤ lo ∧ lo < 1125899906842624 ∧ 0 ≤ hi ∧ x * y = hi * 1125899906842624 + lo := by
  have e1 : Int.tdiv x 33554432 = x / 33554432 := Int.tdiv_eq_ediv_of_nonneg hx0
  have e2 : Int.tdiv y 33554432 = y / 33554432 := Int.tdiv_eq_ediv_of_nonneg hy0
  have e3 : Int.tmod x 33554432 = x % 33554432 := Int.tmod_eq_emod_of_nonneg hx0
  have e4 : Int.tmod y 33554432 = y % 33554432 := Int.tmod_eq_emod_of_nonneg hy0
  rw [e1, e2, e3, e4]
  have hxe : x = (x / 33554432) * 33554432 + x % 33554432 := by omega
  have hye : y = (y / 33554432) * 33554432 + y % 33554432 := by omega
  have a1 : 0 ≤ x / 33554432 := by omega
  have a2 : x / 33554432 ≤ 33554432 := by omega
  have a3 : 0 ≤ x % 33554432 := by omega
  have a4 : x % 33554432 ≤ 33554431 := by omega
  have b1 : 0 ≤ y / 33554432 := by omega
  have b2 : y / 33554432 ≤ 33554432 := by omega
  have b3 : 0 ≤ y % 33554432 := by omega
  have b4 : y % 33554432 ≤ 33554431 := by omega
  generalize x / 33554432 = xh at *
  generalize x % 33554432 = xl at *
  generalize y / 33554432 = yh at *
  generalize y % 33554432 = yl at *
  rw [w64 (n := xh) (by omega) (by omega), w64 (n := yh) (by omega) (by omega)]
  have m1 := mul_range (a := xh) (b := yh) (A := 33554432) (B := 33554432) (by omega) a2 b1 b2
  have m2 := mul_range (a := xh) (b := yl) (A := 33554432) (B := 33554431) (by omega) a2 b3 b4
  have m3 := mul_range (a := xl) (b := yh) (A := 33554431) (B := 33554432) (by omega) a4 b1 b2
  have m4 := mul_range (a := xl) (b := yl) (A := 33554431) (B := 33554431) (by omega) a4 b3 b4
  have n1 := Int.mul_nonneg a1 b1
  have n2 := Int.mul_nonneg a1 b3
  have n3 := Int.mul_nonneg a3 b1
  have n4 := Int.mul_nonneg a3 b3
  have hp : x * y = (xh * yh) * 1125899906842624 + (xh * yl + xl * yh) * 33554432 + xl * yl := by
    rw [hxe, hye]; grind
  rw [hp]
  clear hp hxe hye
  generalize xh * yh = p1 at *
  generalize xh * yl = p2 at *
  generalize xl * yh = p3 at *
  generalize xl * yl = p4 at *
  rw [w64 (n := p1) (by omega) (by omega), w64 (n := p2) (by omega) (by omega), w64 (n := p3) (by omega) (by omega), w64 (n := p4) (by omega) (by omega)]
  rw [w64 (n := p2 + p3) (by omega) (by omega)]
  have e5 : Int.tdiv (p2 + p3) 33554432 = (p2 + p3) / 33554432 := Int.tdiv_eq_ediv_of_nonneg (by omega)
  have e6 : Int.tmod (p2 + p3) 33554432 = (p2 + p3) % 33554432 := Int.tmod_eq_emod_of_nonneg (by omega)
  rw [e5, e6]
  rw [w64 (n := (p2 + p3) / 33554432) (by omega) (by omega)]
  rw [w64 (n := (p2 + p3) % 33554432 * 33554432) (by omega) (by omega)]
  rw [w64 (n := p4 + (p2 + p3) % 33554432 * 33554432) (by omega) (by omega)]
  have e7 : Int.tdiv (p4 + (p2 + p3) % 33554432 * 33554432) 1125899906842624 = (p4 + (p2 + p3) % 33554432 * 33554432) / 1125899906842624 := Int.tdiv_eq_ediv_of_nonneg (by omega)
  have e8 : Int.tmod (p4 + (p2 + p3) % 33554432 * 33554432) 1125899906842624 = (p4 + (p2 + p3) % 33554432 * 33554432) % 1125899906842624 := Int.tmod_eq_emod_of_nonneg (by omega)
  rw [e7, e8]
  rw [w64 (n := p1 + (p2 + p3) / 33554432) (by omega) (by omega)]
  rw [w64 (n := (p4 + (p2 + p3) % 33554432 * 33554432) / 1125899906842624) (by omega) (by omega)]
  rw [w64 (by omega) (by omega)]
  exact ⟨_, _, rfl, rfl, by omega, by omega, by omega, by omega⟩

theorem times_some (k : Nat) {a b : Int} (ha1 : -1125899906842624 ≤ a) (ha2 : a ≤ 1125899906842624) (hb1 : -1125899906842624 ≤ b) (hb2 : b ≤ 1125899906842624) :
    ∃ s hi lo : Int, num_times.f (k + 1) a b = some (s, hi, lo) ∧ 0 ≤ lo ∧ lo < 1125899906842624 ∧ 0 ≤ hi ∧
      ((s = 0 ∧ a * b = 0 ∧ hi = 0 ∧ lo = 0) ∨ (s = 1 ∧ 0 < a * b ∧ a * b = hi * 1125899906842624 + lo) ∨ (s = -1 ∧ a * b < 0 ∧ -(a * b) = hi * 1125899906842624 + lo)) := by
  unfold num_times.f
  rw [abs_some ha1 ha2, abs_some hb1 hb2]
  simp only [Option.bind_some]
  obtain ⟨x0, x1⟩ := ab_sm ha1 ha2
  obtain ⟨y0, y1⟩ := ab_sm hb1 hb2
  by_cases ca : a = 0
  · refine ⟨0, 0, 0, ?_, by omega, by omega, by omega, Or.inl ⟨rfl, by simp [ca], rfl, rfl⟩⟩
    rw [if_pos (by unfold ab; split <;> omega)]
    simp [num_times.j0]
  · rw [if_neg (by unfold ab; split <;> omega)]
    by_cases cb : b = 0
    · refine ⟨0, 0, 0, ?_, by omega, by omega, by omega, Or.inl ⟨rfl, by simp [cb], rfl, rfl⟩⟩
      have : ab b = 0 := by unfold ab; split <;> omega
      simp [num_times.j0, this]
    · have hb : (ab b == 0) = false := by
        rw [beq_eq_false_iff_ne]; unfold ab; split <;> omega
      rw [hb]
      simp only [num_times.j0]
      rw [if_neg (by simp)]
      obtain ⟨hi, lo, e1, e2, l0, l1, h0, hm⟩ := parts x0 x1 y0 y1
      rw [e1, e2]
      by_cases s1 : a < 0 <;> by_cases s2 : b < 0
      · have : ab a * ab b = a * b := by unfold ab; rw [if_pos s1, if_pos s2]; grind
        have pos : 0 < a * b := Int.mul_pos_of_neg_of_neg s1 s2
        refine ⟨1, hi, lo, ?_, l0, l1, h0, Or.inr (Or.inl ⟨rfl, pos, by omega⟩)⟩
        rw [if_neg (by simp [s1, s2])]
      · have : ab a * ab b = -(a * b) := by unfold ab; rw [if_pos s1, if_neg s2]; grind
        have pos : a * b < 0 := Int.mul_neg_of_neg_of_pos s1 (by omega)
        refine ⟨-1, hi, lo, ?_, l0, l1, h0, Or.inr (Or.inr ⟨rfl, pos, by omega⟩)⟩
        rw [if_pos (by simp [s1]; omega)]
      · have : ab a * ab b = -(a * b) := by unfold ab; rw [if_neg s1, if_pos s2]; grind
        have pos : a * b < 0 := Int.mul_neg_of_pos_of_neg (by omega) s2
        refine ⟨-1, hi, lo, ?_, l0, l1, h0, Or.inr (Or.inr ⟨rfl, pos, by omega⟩)⟩
        rw [if_pos (by simp [s2]; omega)]
      · have : ab a * ab b = a * b := by unfold ab; rw [if_neg s1, if_neg s2]
        have pos : 0 < a * b := Int.mul_pos (by omega) (by omega)
        refine ⟨1, hi, lo, ?_, l0, l1, h0, Or.inr (Or.inl ⟨rfl, pos, by omega⟩)⟩
        rw [if_neg (by simp [s1, s2])]

theorem compare_some (k : Nat) {a b c d : Int} (h : (sm a && sm b && sm c && sm d) = true) : num_Compare.f (k + 5) a b c d = some (cmp3 (a * b) (c * d), 0) := by
  unfold num_Compare.f
  rw [small4, h]
  simp only [Option.bind_some, if_true]
  simp only [Bool.and_eq_true, sm_iff] at h
  obtain ⟨⟨⟨⟨a1, a2⟩, b1, b2⟩, c1, c2⟩, d1, d2⟩ := h
  obtain ⟨s, hi, lo, e1, l0, l1, h0, hs⟩ := times_some (k + 4) a1 a2 b1 b2
  obtain ⟨s', hi', lo', e2, l0', l1', h0', hs'⟩ := times_some (k + 4) c1 c2 d1 d2
  rw [e1, e2]
  simp only [Option.bind_some, order_some]
  generalize a * b = p at *
  generalize c * d = q at *
  rcases hs with ⟨rfl, hp, rfl, rfl⟩ | ⟨rfl, hp, ep⟩ | ⟨rfl, hp, ep⟩ <;> rcases hs' with ⟨rfl, hq, rfl, rfl⟩ | ⟨rfl, hq, eq⟩ | ⟨rfl, hq, eq⟩
  · simp [hp, hq, cmp3, w64]
  · rw [if_neg (by omega), cmp3_lt (by omega), cmp3_lt (by omega)]
  · rw [if_neg (by omega), cmp3_gt (by omega), cmp3_gt (by omega)]
  · rw [if_neg (by omega), cmp3_gt (by omega), cmp3_gt (by omega)]
  · rw [if_pos rfl]
    rcases Int.lt_trichotomy hi hi' with g | g | g
    · rw [if_neg (by omega), cmp3_lt g, cmp3_lt (by omega)]; simp [w64]
    · subst g
      rw [if_pos rfl]
      rcases Int.lt_trichotomy lo lo' with g | g | g
      · rw [cmp3_lt g, cmp3_lt (by omega)]; simp [w64]
      · subst g; rw [cmp3_eq rfl, cmp3_eq (by omega)]; simp [w64]
      · rw [cmp3_gt g, cmp3_gt (by omega)]; simp [w64]
    · rw [if_neg (by omega), cmp3_gt g, cmp3_gt (by omega)]; simp [w64]
  · rw [if_neg (by omega), cmp3_gt (by omega), cmp3_gt (by omega)]
  · rw [if_neg (by omega), cmp3_lt (by omega), cmp3_lt (by omega)]
  · rw [if_neg (by omega), cmp3_lt (by omega), cmp3_lt (by omega)]
  · rw [if_pos rfl]
    rcases Int.lt_trichotomy hi hi' with g | g | g
    · rw [if_neg (by omega), cmp3_lt g, cmp3_gt (by omega)]; simp [w64]
    · subst g
      rw [if_pos rfl]
      rcases Int.lt_trichotomy lo lo' with g | g | g
      · rw [cmp3_lt g, cmp3_gt (by omega)]; simp [w64]
      · subst g; rw [cmp3_eq rfl, cmp3_eq (by omega)]; simp [w64]
      · rw [cmp3_gt g, cmp3_lt (by omega)]; simp [w64]
    · rw [if_neg (by omega), cmp3_gt g, cmp3_lt (by omega)]; simp [w64]
theorem compare_bad (k : Nat) {a b c d : Int} (h : (sm a && sm b && sm c && sm d) = false) : num_Compare.f (k + 5) a b c d = some (0, 1) := by
  unfold num_Compare.f
  rw [small4, h]
  simp
end Go.Proofs.Ytmilejcbkpkplaa.PAll
/- The program's nearest: the sign of the least distance less the radius. -/
namespace Go.Proofs.Ytmilejcbkpkplaa.PAll
set_option linter.unusedVariables false
open Go Go.RowKit Go.Proofs.YtmilejcbkpkplaaW.PrintWords Go.Proofs.YtmilejcbkpkplaaW.PrintLast Go.Proofs.YtmilejcbkpkplaaW.PrintMore Go.Proofs.Ytmilejcbkpkplaa.MathNum Go.Proofs.Ytmilejcbkpkplaa.EvWords Go.Proofs.Ytmilejcbkpkplaa.MathGeom

theorem compare_ev {a b c d : Int} (h1 : sm a = true) (h2 : sm b = true) (h3 : sm c = true) (h4 : sm d = true) : Ev (fun k => num_Compare.f k a b c d) (cmp3 (a * b) (c * d), 0) :=
  Ev.of (num_Compare.mono a b c d) (k := 0 + 5) (compare_some 0 (by simp [h1, h2, h3, h4]))
/-- A number below 2^40. -/
theorem sm_of {a : Int} (h1 : -1099511627776 ≤ a) (h2 : a ≤ 1099511627776) : sm a = true := sm_iff.2 ⟨by omega, by omega⟩

theorem dot_dt {a b c d : Int} (ha : -131072 ≤ a ∧ a ≤ 131072) (hb : -131072 ≤ b ∧ b ≤ 131072) (hc : -131072 ≤ c ∧ c ≤ 131072) (hd : -131072 ≤ d ∧ d ≤ 131072) : geom_dot.f a b c d = some (dt a b c d) ∧ -34359738368 ≤ dt a b c d ∧ dt a b c d ≤ 34359738368 := by
  refine ⟨dot_ok ha hb hc hd, ?_⟩
  unfold dt
  have h1 := mul_bound ha hc
  have h2 := mul_bound hb hd
  omega
theorem cross_cr {a b c d : Int} (ha : -131072 ≤ a ∧ a ≤ 131072) (hb : -131072 ≤ b ∧ b ≤ 131072) (hc : -131072 ≤ c ∧ c ≤ 131072) (hd : -131072 ≤ d ∧ d ≤ 131072) : geom_cross.f a b c d = some (cr a b c d) ∧ -34359738368 ≤ cr a b c d ∧ cr a b c d ≤ 34359738368 := by
  refine ⟨cross_ok ha hb hc hd, ?_⟩
  unfold cr
  have h1 := mul_bound ha hd
  have h2 := mul_bound hb hc
  omega

theorem nearest_ev {dx dy vx vy r2 : Int} (h1 : -131072 ≤ dx ∧ dx ≤ 131072) (h2 : -131072 ≤ dy ∧ dy ≤ 131072) (h3 : -131072 ≤ vx ∧ vx ≤ 131072) (h4 : -131072 ≤ vy ∧ vy ≤ 131072) (h5 : -131072 ≤ dx + vx ∧ dx + vx ≤ 131072) (h6 : -131072 ≤ dy + vy ∧ dy + vy ≤ 131072) (h7 : 0 ≤ r2 ∧ r2 ≤ 1099511627776) :
    Ev (fun k => geom_nearest.f k dx dy vx vy r2) (nst dx dy vx vy r2) := by
  obtain ⟨e1, l1, u1⟩ := dot_dt h1 h2 h3 h4
  obtain ⟨e2, l2, u2⟩ := dot_dt h3 h4 h3 h4
  obtain ⟨e3, l3, u3⟩ := dot_dt h1 h2 h1 h2
  obtain ⟨e4, l4, u4⟩ := dot_dt h5 h6 h5 h6
  obtain ⟨e5, l5, u5⟩ := cross_cr h1 h2 h3 h4
  simp only [geom_nearest.f, e1, e2, e3, e5, Option.bind_some]
  rw [w64 (n := dx + vx) (by omega) (by omega), w64 (n := dy + vy) (by omega) (by omega), w64 (n := -dt dx dy vx vy) (by omega) (by omega), e4]
  simp only [Option.bind_some]
  unfold nst
  have s1 : sm 1 = true := by decide
  have sr : sm r2 = true := sm_of (by omega) (by omega)
  by_cases c1 : -dt dx dy vx vy ≤ 0
  · rw [if_pos c1]
    refine ev_pos c1 ?_
    have := compare_ev (sm_of (a := dt dx dy dx dy) (by omega) (by omega)) s1 sr s1
    rw [Int.mul_one, Int.mul_one] at this
    exact this.bind (ev_now _)
  · rw [if_neg c1]
    refine ev_neg c1 ?_
    by_cases c2 : -dt dx dy vx vy ≥ dt vx vy vx vy
    · rw [if_pos c2]
      refine ev_pos c2 ?_
      have := compare_ev (sm_of (a := dt (dx + vx) (dy + vy) (dx + vx) (dy + vy)) (by omega) (by omega)) s1 sr s1
      rw [Int.mul_one, Int.mul_one] at this
      exact this.bind (ev_now _)
    · rw [if_neg c2]
      refine ev_neg c2 ?_
      have sc := sm_of (a := cr dx dy vx vy) (by omega) (by omega)
      exact (compare_ev sc sc sr (sm_of (a := dt vx vy vx vy) (by omega) (by omega))).bind (ev_now _)

theorem dt_swap (a b c d : Int) : dt (a - c) (b - d) (a - c) (b - d) = dt (c - a) (d - b) (c - a) (d - b) := by unfold dt; grind
end Go.Proofs.Ytmilejcbkpkplaa.PAll
/- The program's and the reference's hull are one list. -/
namespace Go.Proofs.Ytmilejcbkpkplaa.PAll
set_option linter.unusedVariables false
open Go Go.RowKit Go.Proofs.YtmilejcbkpkplaaW.PrintWords Go.Proofs.YtmilejcbkpkplaaW.PrintLast Go.Proofs.YtmilejcbkpkplaaW.PrintMore Go.Proofs.Ytmilejcbkpkplaa.MathNum Go.Proofs.Ytmilejcbkpkplaa.EvWords Go.Proofs.Ytmilejcbkpkplaa.MathGeom

theorem beq_pt (a b : S23) : (a.f0 == b.f0 && (a.f1 == b.f1)) = decide (a = b) := by
  by_cases h : a = b
  · subst h; simp
  · rw [decide_eq_false h]
    by_cases h0 : a.f0 = b.f0
    · by_cases h1 : a.f1 = b.f1
      · exact absurd (S23_ext h0 h1) h
      · simp [h1]
    · simp [h0]
theorem bne_pt (a b : S23) : (!(a.f0 == b.f0) || (!(a.f1 == b.f1))) = !decide (a = b) := by
  rw [← beq_pt, Bool.not_and]
theorem fn1_ok {c o p : S23} (hc : pOk c) (ho : pOk o) (hp : pOk p) : geom_hull_fn1.f c.f0 c.f1 o.f0 o.f1 p.f0 p.f1 = some (decide (better c o p)) := by
  unfold geom_hull_fn1.f better
  rw [beq_pt, bne_pt]
  by_cases h : o = c
  · rw [if_pos (by simpa using h)]
    congr 1
    simp [h]
  · rw [if_neg (by simpa using h), minus_ok ho.1 ho.2 hc.1 hc.2, minus_ok hp.1 hp.2 hc.1 hc.2]
    obtain ⟨c0, c1⟩ := hc
    obtain ⟨o0, o1⟩ := ho
    obtain ⟨p0, p1⟩ := hp
    unfold cOk at *
    simp only [Option.bind_some]
    rw [(cross_cr (a := o.f0 - c.f0) (b := o.f1 - c.f1) (c := p.f0 - c.f0) (d := p.f1 - c.f1) (by omega) (by omega) (by omega) (by omega)).1, (dot_dt (a := o.f0 - c.f0) (b := o.f1 - c.f1) (c := o.f0 - c.f0) (d := o.f1 - c.f1) (by omega) (by omega) (by omega) (by omega)).1, (dot_dt (a := p.f0 - c.f0) (b := p.f1 - c.f1) (c := p.f0 - c.f0) (d := p.f1 - c.f1) (by omega) (by omega) (by omega) (by omega)).1]
    simp only [Option.bind_some]
    change (if cx c o p < 0 then some true else if cx c o p = 0 then some (decide (sq c p > sq c o)) else some false) = _
    simp only [if_neg h]
    by_cases h1 : cx c o p < 0
    · rw [if_pos h1, decide_eq_true (Or.inl h1)]
    · rw [if_neg h1]
      by_cases h2 : cx c o p = 0
      · rw [if_pos h2]; exact congrArg some (decide_eq_decide.2 (by omega))
      · rw [if_neg h2]; exact congrArg some (decide_eq_false (by omega)).symm
theorem step_ok {c o p : S23} (ho : pOk o) (hp : pOk p) : pOk (step c o p) := by unfold step; split <;> assumption
theorem fold_ok {c : S23} : ∀ (t : List S23) (o : S23), pOk o → (∀ p ∈ t, pOk p) → pOk (t.foldl (step c) o) := by
  intro t
  induction t with
  | nil => intro o h _; exact h
  | cons p t ih => intro o h ht; exact ih _ (step_ok h (ht p (by simp))) (fun q hq => ht q (by simp [hq]))
theorem nxt_ok {l : List S23} {c : S23} (h : ∀ p ∈ l, pOk p) (hc : pOk c) : pOk (nxt l c) := fold_ok l c hc h
theorem pt_eta (p : S23) : (⟨p.f0, p.f1⟩ : S23) = p := rfl

/-- The program's search for the next corner. -/
theorem next_ev {l out : List S23} (hl : ∀ p ∈ l, pOk p) (hlen : l.length ≤ 16) {c : S23} (hc : pOk c) {R : List S23} (d : Nat) : ∀ (i : Nat) (o : S23), i + d = l.length → pOk o →
    Ev (fun k => geom_hull.l3 k l out (out.length : Int) 0 ((l.drop i).foldl (step c) o).f0 ((l.drop i).foldl (step c) o).f1) R → Ev (fun k => geom_hull.l2 k l out l (l.length : Int) (i : Int) c.f0 c.f1 o.f0 o.f1) R := by
  induction d with
  | zero =>
    intro i o hi ho h
    rw [List.drop_eq_nil_of_le (by omega)] at h
    exact ev_step (fun k => by simp only [geom_hull.l2] <;> exact rfl) (ev_neg (by omega) h)
  | succ d ih =>
    intro i o hi ho h
    have hlt : i < l.length := by omega
    rw [List.drop_eq_getElem_cons hlt, List.foldl_cons] at h
    have hp := hl l[i] (List.getElem_mem hlt)
    refine ev_step (fun k => by simp only [geom_hull.l2] <;> exact rfl) (ev_pos (by omega) (ev_pos (by omega) (ev_pos (by omega) ?_)))
    rw [rdT_nat l hlt, fn1_ok hc ho hp]
    simp only [Option.bind_some]
    rw [w64 (n := (i : Int) + 1) (by omega) (by omega)]
    have := ih (i + 1) (step c o l[i]) (by omega) (step_ok ho hp) h
    by_cases hb : better c o l[i]
    · rw [show step c o l[i] = l[i] by unfold step; rw [if_pos hb]] at this
      exact ev_pos (by simpa using hb) this
    · rw [show step c o l[i] = o by unfold step; rw [if_neg hb]] at this
      exact ev_neg (by simpa using hb) this
/-- The program's search for a corner that was there already. -/
theorem seen_ev {l out : List S23} (hlen : out.length ≤ 16) {q : S23} {R : List S23} (hy : q ∈ out → R = out) (hn : q ∉ out → Ev (fun k => geom_hull.l1 k l (out ++ [q])) R) (d : Nat) : ∀ (i : Nat), i + d = out.length → q ∉ out.take i →
    Ev (fun k => geom_hull.l3 k l out (out.length : Int) (i : Int) q.f0 q.f1) R := by
  induction d with
  | zero =>
    intro i hi h
    rw [List.take_of_length_le (by omega)] at h
    exact ev_step (fun k => by simp only [geom_hull.l3] <;> exact rfl) (ev_neg (by omega) (ev_pos (by omega) (hn h)))
  | succ d ih =>
    intro i hi h
    have hlt : i < out.length := by omega
    refine ev_step (fun k => by simp only [geom_hull.l3] <;> exact rfl) (ev_pos (by omega) (ev_pos (by omega) (ev_pos (by omega) ?_)))
    rw [rdT_nat out hlt, beq_pt]
    by_cases he : out[i] = q
    · rw [hy (he ▸ List.getElem_mem hlt)]
      exact ev_pos (by simpa using he) (ev_now _)
    · refine ev_neg (by simpa using he) ?_
      rw [w64 (by omega) (by omega)]
      refine ih (i + 1) (by omega) ?_
      rw [List.take_succ_eq_append_getElem hlt]
      simp only [List.mem_append, List.mem_singleton, not_or]
      exact ⟨h, fun e => he e.symm⟩

/-- The reference's search. -/
theorem rcross_cx {c o p : S23} (hc : pOk c) (ho : pOk o) (hp : pOk p) : dancestudioref03_cross.f c.f0 c.f1 o.f0 o.f1 p.f0 p.f1 = some (cx c o p) := rcross_ok hc.1 hc.2 ho.1 ho.2 hp.1 hp.2
theorem rsq {c p : S23} (hc : pOk c) (hp : pOk p) : dancestudioref03_square.f c.f0 c.f1 p.f0 p.f1 = some (sq c p) := by
  rw [square_ok hc.1 hc.2 hp.1 hp.2]; unfold sq dt; congr 1; grind
theorem better_self (c o : S23) : ¬ better c o c := by
  unfold better
  split
  · simp
  · have := sq_nonneg c o
    have z : cx c o c = 0 := by unfold cx cr; simp
    rw [sq_self]; omega
theorem rnext_ev0 {l : List S23} (hl : ∀ p ∈ l, pOk p) (hlen : l.length ≤ 16) {c : S23} (hc : pOk c) (d : Nat) : ∀ (i : Nat) (o : S23), i + d = l.length → pOk o →
    Ev (fun k => dancestudioref03_next.l0 k l (i : Int) c.f0 c.f1 o.f0 o.f1) (((l.drop i).foldl (step c) o).f0, ((l.drop i).foldl (step c) o).f1) := by
  induction d with
  | zero =>
    intro i o hi ho
    rw [List.drop_eq_nil_of_le (by omega)]
    exact ev_step (fun k => by simp only [dancestudioref03_next.l0] <;> exact rfl) (ev_neg (by omega) (ev_now _))
  | succ d ih =>
    intro i o hi ho
    have hlt : i < l.length := by omega
    rw [List.drop_eq_getElem_cons hlt, List.foldl_cons]
    have hp := hl l[i] (List.getElem_mem hlt)
    have go := ih (i + 1) (step c o l[i]) (by omega) (step_ok ho hp)
    refine ev_step (fun k => by simp only [dancestudioref03_next.l0] <;> exact rfl) (ev_pos (by omega) (ev_pos (by omega) ?_))
    rw [rdT_nat l hlt, beq_pt]
    by_cases he : l[i] = c
    · refine ev_pos (by simpa using he) ?_
      rw [w64 (by omega) (by omega)]
      rw [show step c o l[i] = o by unfold step; rw [if_neg (by rw [he]; exact better_self c o)]] at go ⊢
      exact go
    · refine ev_neg (by simpa using he) ?_
      rw [rcross_cx hc ho hp, rsq hc hp, rsq hc ho, beq_pt]
      simp only [Option.bind_some]
      have yes : better c o l[i] → Ev (fun k => dancestudioref03_next.j1 k l (i : Int) true c.f0 c.f1 o.f0 o.f1) (((l.drop (i + 1)).foldl (step c) (step c o l[i])).f0, ((l.drop (i + 1)).foldl (step c) (step c o l[i])).f1) := fun hb => by
        refine ev_step (fun k => by simp only [dancestudioref03_next.j1] <;> exact rfl) (ev_pos (show true = true from rfl) (ev_pos (by omega) (ev_pos (by omega) ?_)))
        rw [rdT_nat l hlt, w64 (by omega) (by omega)]
        rw [show step c o l[i] = l[i] by unfold step; rw [if_pos hb]] at go ⊢
        exact go
      have no : ¬ better c o l[i] → Ev (fun k => dancestudioref03_next.j1 k l (i : Int) false c.f0 c.f1 o.f0 o.f1) (((l.drop (i + 1)).foldl (step c) (step c o l[i])).f0, ((l.drop (i + 1)).foldl (step c) (step c o l[i])).f1) := fun hb => by
        refine ev_step (fun k => by simp only [dancestudioref03_next.j1] <;> exact rfl) (ev_neg (by simp) ?_)
        rw [w64 (by omega) (by omega)]
        rw [show step c o l[i] = o by unfold step; rw [if_neg hb]] at go ⊢
        exact go
      unfold better at yes no
      by_cases ho' : o = c
      · rw [if_pos ho'] at yes
        exact ev_pos (by simpa using ho') (yes he)
      · rw [if_neg ho'] at yes no
        refine ev_neg (by simpa using ho') ?_
        by_cases h1 : cx c o l[i] < 0
        · exact ev_pos h1 (yes (Or.inl h1))
        · refine ev_neg h1 ?_
          by_cases h2 : cx c o l[i] = 0
          · refine ev_pos h2 ?_
            by_cases h3 : sq c l[i] > sq c o
            · rw [decide_eq_true h3]; exact yes (Or.inr ⟨h2, h3⟩)
            · rw [decide_eq_false h3]; exact no (by omega)
          · exact ev_neg h2 (no (by omega))
theorem rnext_ev {l : List S23} (hl : ∀ p ∈ l, pOk p) (hlen : l.length ≤ 16) {c : S23} (hc : pOk c) : Ev (fun k => dancestudioref03_next.f k l c.f0 c.f1) ((nxt l c).f0, (nxt l c).f1) := by
  simp only [dancestudioref03_next.f]
  exact rnext_ev0 hl hlen hc l.length 0 c (by omega) hc

/-- Both walks come around, and are one list. -/
theorem hull_both {l : List S23} (hl : ∀ p ∈ l, pOk p) (hlen : l.length ≤ 16) (d : Nat) : ∀ (h : List S23) (n : Nat) (w : Walk l h) (hn : h.length = n + 1) (_ : h.length + d = l.length),
    ∃ H, Hulled l H ∧ Ev (fun k => geom_hull.l1 k l h) H ∧ Ev (fun k => dancestudioref03_Hull.l2 k l h (h[0]'w.ne).f0 (h[0]'w.ne).f1 (nxt l (h[n]'(by omega))).f0 (nxt l (h[n]'(by omega))).f1) (H, 0) := by
  have l1 : ∀ (h : List S23) (n : Nat) (w : Walk l h) (hn : h.length = n + 1) (R : List S23), (nxt l (h[n]'(by omega)) ∈ h → R = h) → (nxt l (h[n]'(by omega)) ∉ h → Ev (fun k => geom_hull.l1 k l (h ++ [nxt l (h[n]'(by omega))])) R) → Ev (fun k => geom_hull.l1 k l h) R := by
    intro h n w hn R hy hno
    have wl := w.len
    have on := hl _ (w.sub (h[n]'(by omega)) (List.getElem_mem _))
    refine ev_step (fun k => by simp only [geom_hull.l1] <;> exact rfl) ?_
    rw [show wrap64 ((h.length : Int) - 1) = (n : Int) by rw [w64 (by omega) (by omega)]; omega]
    refine ev_pos (by omega) (ev_pos (by omega) ?_)
    rw [rdT_nat h (by omega)]
    refine next_ev hl hlen on l.length 0 _ (by omega) on ?_
    exact seen_ev (by omega) hy hno h.length 0 (by omega) (by simp)
  induction d with
  | zero =>
    intro h n w hn hd
    have hm : nxt l (h[n]'(by omega)) ∈ h := by
      apply Classical.byContradiction
      intro hm
      have := (w.more hn hm).len
      simp at this; omega
    have ag := w.again hn hm
    refine ⟨h, ⟨w, ?_⟩, l1 h n w hn h (fun _ => rfl) (fun x => absurd hm x), ?_⟩
    · simp only [hn, Nat.add_sub_cancel]; exact ag
    · rw [ag]
      refine ev_step (fun k => by simp only [dancestudioref03_Hull.l2] <;> exact rfl) (ev_neg (by rw [bne_pt]; simp) (ev_now _))
  | succ d ih =>
    intro h n w hn hd
    by_cases hm : nxt l (h[n]'(by omega)) ∈ h
    · have ag := w.again hn hm
      refine ⟨h, ⟨w, ?_⟩, l1 h n w hn h (fun _ => rfl) (fun x => absurd hm x), ?_⟩
      · simp only [hn, Nat.add_sub_cancel]; exact ag
      · rw [ag]
        refine ev_step (fun k => by simp only [dancestudioref03_Hull.l2] <;> exact rfl) (ev_neg (by rw [bne_pt]; simp) (ev_now _))
    · have w' := w.more hn hm
      obtain ⟨H, hH, e1, e2⟩ := ih _ (n + 1) w' (by simp [hn]) (by simp; omega)
      refine ⟨H, hH, l1 h n w hn H (fun x => absurd x hm) (fun _ => e1), ?_⟩
      have hne : nxt l (h[n]'(by omega)) ≠ h[0]'w.ne := fun e => hm (e ▸ List.getElem_mem _)
      have okq := nxt_ok (c := h[n]'(by omega)) hl (hl _ (w.sub _ (List.getElem_mem _)))
      refine ev_step (fun k => by simp only [dancestudioref03_Hull.l2] <;> exact rfl) (ev_pos (by rw [bne_pt]; simpa using hne) (ev_pos (by omega) ?_))
      refine Ev.bind (rnext_ev hl hlen okq) ?_
      have g0 : (h ++ [nxt l (h[n]'(by omega))])[0]'w'.ne = h[0]'w.ne := List.getElem_append_left _
      have g1 : (h ++ [nxt l (h[n]'(by omega))])[n + 1]'(by simp; omega) = nxt l (h[n]'(by omega)) := by rw [List.getElem_append_right (by omega)]; simp [hn]
      rw [g0, g1] at e2
      exact e2

/-- The first corner: the least point. -/
theorem first_ev {l : List S23} (hlen : l.length ≤ 16) {R : List S23} (d : Nat) : ∀ (i : Nat) (o : S23), i + d = l.length → Ev (fun k => geom_hull.l1 k l [(l.drop i).foldl low o]) R →
    Ev (fun k => geom_hull.l0 k l l (l.length : Int) (i : Int) o.f0 o.f1) R := by
  induction d with
  | zero =>
    intro i o hi h
    rw [List.drop_eq_nil_of_le (by omega)] at h
    exact ev_step (fun k => by simp only [geom_hull.l0] <;> exact rfl) (ev_neg (by omega) h)
  | succ d ih =>
    intro i o hi h
    have hlt : i < l.length := by omega
    rw [List.drop_eq_getElem_cons hlt, List.foldl_cons] at h
    have go := ih (i + 1) (low o l[i]) (by omega) h
    refine ev_step (fun k => by simp only [geom_hull.l0] <;> exact rfl) (ev_pos (by omega) (ev_pos (by omega) (ev_pos (by omega) ?_)))
    rw [rdT_nat l hlt, w64 (by omega) (by omega)]
    have yes : lt2 l[i] o → low o l[i] = l[i] := fun h => by unfold low; rw [if_pos h]
    have no : ¬ lt2 l[i] o → low o l[i] = o := fun h => by unfold low; rw [if_neg h]
    unfold lt2 at yes no
    by_cases h1 : l[i].f0 < o.f0
    · rw [yes (Or.inl h1)] at go; exact ev_pos h1 go
    · refine ev_neg h1 ?_
      by_cases h2 : l[i].f0 = o.f0
      · refine ev_pos h2 ?_
        by_cases h3 : l[i].f1 < o.f1
        · rw [yes (Or.inr ⟨h2, h3⟩)] at go; exact ev_pos h3 go
        · rw [no (by omega)] at go; exact ev_neg h3 go
      · rw [no (by omega)] at go; exact ev_neg h2 go
theorem rbefore (a b : S23) : dancestudioref03_before.f a.f0 a.f1 b.f0 b.f1 = some (decide (lt2 a b)) := by
  unfold dancestudioref03_before.f lt2
  by_cases h1 : a.f0 < b.f0
  · rw [if_pos h1]; exact congrArg some (decide_eq_true (Or.inl h1)).symm
  · rw [if_neg h1]
    by_cases h2 : a.f0 = b.f0
    · rw [if_pos h2]; exact congrArg some (decide_eq_decide.2 (by omega))
    · rw [if_neg h2]; exact congrArg some (decide_eq_false (by omega)).symm
theorem rfirst_ev {l : List S23} (hl : ∀ p ∈ l, pOk p) (hlen : l.length ≤ 16) {R : List S23 × Int} (d : Nat) : ∀ (i : Nat) (o : S23), i + d = l.length → pOk ((l.drop i).foldl low o) →
    Ev (fun k => dancestudioref03_Hull.l2 k l [(l.drop i).foldl low o] ((l.drop i).foldl low o).f0 ((l.drop i).foldl low o).f1 (nxt l ((l.drop i).foldl low o)).f0 (nxt l ((l.drop i).foldl low o)).f1) R →
    Ev (fun k => dancestudioref03_Hull.l1 k l (i : Int) o.f0 o.f1) R := by
  induction d with
  | zero =>
    intro i o hi ho h
    rw [List.drop_eq_nil_of_le (by omega)] at h ho
    exact ev_step (fun k => by simp only [dancestudioref03_Hull.l1] <;> exact rfl) (ev_neg (by omega) (Ev.bind (rnext_ev hl hlen ho) h))
  | succ d ih =>
    intro i o hi ho h
    have hlt : i < l.length := by omega
    rw [List.drop_eq_getElem_cons hlt, List.foldl_cons] at h ho
    have go := ih (i + 1) (low o l[i]) (by omega) ho h
    refine ev_step (fun k => by simp only [dancestudioref03_Hull.l1] <;> exact rfl) (ev_pos (by omega) (ev_pos (by omega) ?_))
    rw [rdT_nat l hlt, rbefore, w64 (by omega) (by omega)]
    simp only [Option.bind_some]
    by_cases h1 : lt2 l[i] o
    · rw [show low o l[i] = l[i] by unfold low; rw [if_pos h1]] at go; exact ev_pos (by simpa using h1) go
    · rw [show low o l[i] = o by unfold low; rw [if_neg h1]] at go; exact ev_neg (by simpa using h1) go

/-- The hull of valid points. -/
theorem hull_ev {l : List S23} (hl : ∀ p ∈ l, pOk p) (hlen : l.length ≤ 16) : ∃ H, (l = [] ∧ H = [] ∨ Hulled l H) ∧ Ev (fun k => geom_hull.f k l) H ∧
    Ev (fun k => if (l.length : Int) = 0 then (some (([] : List (S23)), (0 : Int))) else (if 0 < (l.length : Int) then (dancestudioref03_Hull.l1 k l 0 ((rd_T23 l 0).f0) ((rd_T23 l 0).f1)) else (none))) (H, 0) := by
  cases l with
  | nil => exact ⟨[], Or.inl ⟨rfl, rfl⟩, by simp only [geom_hull.f]; exact ev_pos (by simp) (ev_now _), ev_pos (by simp) (ev_now _)⟩
  | cons a t =>
    have ll := low_least (a :: t) [a] a (by simp) (fun r hr => by rw [List.mem_singleton.1 hr]; unfold lt2; omega)
    generalize hc : (a :: t).foldl low a = c at ll
    have mc : c ∈ a :: t := by simpa using ll.1
    have w := Walk.one (l := a :: t) mc (fun r hr => ll.2 r (List.mem_append.2 (Or.inr hr)))
    obtain ⟨H, hH, e1, e2⟩ := hull_both hl hlen t.length [c] 0 w rfl (by simp; omega)
    refine ⟨H, Or.inr hH, ?_, ?_⟩
    · simp only [geom_hull.f]
      refine ev_neg (by simp only [List.length_cons]; omega) (ev_pos (by simp only [List.length_cons]; omega) ?_)
      exact first_ev hlen (a :: t).length 0 a (by omega) (by simpa only [List.drop_zero, hc] using e1)
    · refine ev_neg (by simp only [List.length_cons]; omega) (ev_pos (by simp only [List.length_cons]; omega) ?_)
      exact rfirst_ev hl hlen (a :: t).length 0 a (by omega) (by simpa only [List.drop_zero, hc] using hl c mc) (by rw [List.drop_zero, hc]; exact e2)
end Go.Proofs.Ytmilejcbkpkplaa.PAll
/- Hull of the program and of the reference, with their errors. -/
namespace Go.Proofs.Ytmilejcbkpkplaa.PAll
set_option linter.unusedVariables false
open Go Go.RowKit Go.Proofs.YtmilejcbkpkplaaW.PrintWords Go.Proofs.YtmilejcbkpkplaaW.PrintLast Go.Proofs.YtmilejcbkpkplaaW.PrintMore Go.Proofs.Ytmilejcbkpkplaa.MathNum Go.Proofs.Ytmilejcbkpkplaa.EvWords Go.Proofs.Ytmilejcbkpkplaa.MathGeom

theorem rvalid_ev {l : List S23} (hlen : l.length ≤ 16) {R : List S23 × Int} (hy : (∀ p ∈ l, pOk p) → Ev (fun k => if (l.length : Int) = 0 then (some (([] : List (S23)), (0 : Int))) else (if 0 < (l.length : Int) then (dancestudioref03_Hull.l1 k l 0 ((rd_T23 l 0).f0) ((rd_T23 l 0).f1)) else (none))) R)
    (hn : ¬ (∀ p ∈ l, pOk p) → R = ([], 1)) (d : Nat) : ∀ i : Nat, i + d = l.length → (∀ p ∈ l.take i, pOk p) → Ev (fun k => dancestudioref03_Hull.l0 k l (i : Int)) R := by
  induction d with
  | zero =>
    intro i hi h
    rw [List.take_of_length_le (by omega)] at h
    exact ev_step (fun k => by simp only [dancestudioref03_Hull.l0] <;> exact rfl) (ev_neg (by omega) (hy h))
  | succ d ih =>
    intro i hi h
    have hlt : i < l.length := by omega
    refine ev_step (fun k => by simp only [dancestudioref03_Hull.l0] <;> exact rfl) (ev_pos (by omega) (ev_pos (by omega) ?_))
    rw [rdT_nat l hlt, rValid]
    simp only [Option.bind_some]
    by_cases hp : pOk l[i]
    · refine ev_pos (decide_eq_true hp) ?_
      rw [w64 (by omega) (by omega)]
      refine ih (i + 1) (by omega) (fun p hm => ?_)
      rw [List.take_succ_eq_append_getElem hlt] at hm
      rcases List.mem_append.1 hm with hm | hm
      · exact h p hm
      · rw [List.mem_singleton.1 hm]; exact hp
    · rw [hn fun x => hp (x _ (List.getElem_mem hlt))]
      exact ev_neg (by simpa [pOk] using hp) (ev_now _)
/-- What both Hulls answer. -/
inductive HullR (l : List S23) : List S23 × Int → Prop
  | full (h : 16 < l.length) : HullR l ([], 3)
  | range (h : l.length ≤ 16) (h' : ¬ ∀ p ∈ l, pOk p) : HullR l ([], 1)
  | none (h : l = []) (e : Ev (fun k => geom_hull.f k l) []) : HullR l ([], 0)
  | ok {H : List S23} (h : l.length ≤ 16) (h' : ∀ p ∈ l, pOk p) (hh : Hulled l H) (e : Ev (fun k => geom_hull.f k l) H) : HullR l (H, 0)
theorem check_full {l : List S23} (h : 16 < l.length) : Ev (fun k => geom_check.f k l) 3 := by
  simp only [geom_check.f]; exact ev_pos (by omega) (ev_now _)
theorem check_ok {l : List S23} (h : l.length ≤ 16) (hv : ∀ p ∈ l, pOk p) : Ev (fun k => geom_check.f k l) 0 := by
  have v := valid_ev (ps := l) (rs := []) (by omega) (by simp)
  simp only [geom_check.f]; exact ev_neg (by omega) (Ev.bind v (ev_pos (by simpa using hv) (ev_now _)))
theorem check_bad {l : List S23} (h : l.length ≤ 16) (hv : ¬ ∀ p ∈ l, pOk p) : Ev (fun k => geom_check.f k l) 1 := by
  have v := valid_ev (ps := l) (rs := []) (by omega) (by simp)
  simp only [geom_check.f]; exact ev_neg (by omega) (Ev.bind v (ev_neg (fun x => hv (of_decide_eq_true x).1) (ev_now _)))
theorem hulls_ev (l : List S23) (hl : l.length ≤ 1000) : ∃ R, HullR l R ∧ Ev (fun k => geom_Hull.f k l) R ∧ Ev (fun k => dancestudioref03_Hull.f k l) R := by
  by_cases h : 16 < l.length
  · refine ⟨([], 3), .full h, ?_, ?_⟩
    · simp only [geom_Hull.f]
      exact Ev.bind (check_full h) (ev_neg (by decide) (ev_now _))
    · simp only [dancestudioref03_Hull.f]
      exact ev_pos (by omega) (ev_now _)
  · have hlen : l.length ≤ 16 := by omega
    by_cases hv : ∀ p ∈ l, pOk p
    · obtain ⟨H, hH, e1, e2⟩ := hull_ev hv hlen
      refine ⟨(H, 0), ?_, ?_, ?_⟩
      · rcases hH with ⟨rfl, rfl⟩ | hH
        · exact .none rfl e1
        · exact .ok hlen hv hH e1
      · simp only [geom_Hull.f]
        exact Ev.bind (check_ok hlen hv) (ev_pos rfl (Ev.bind e1 (ev_now _)))
      · simp only [dancestudioref03_Hull.f]
        refine ev_neg (by omega) ?_
        exact rvalid_ev hlen (fun _ => e2) (fun x => absurd hv x) l.length 0 (by omega) (by simp)
    · refine ⟨([], 1), .range hlen hv, ?_, ?_⟩
      · simp only [geom_Hull.f]
        exact Ev.bind (check_bad hlen hv) (ev_neg (by decide) (ev_now _))
      · simp only [dancestudioref03_Hull.f]
        refine ev_neg (by omega) ?_
        exact rvalid_ev hlen (fun x => absurd x hv) (fun _ => rfl) l.length 0 (by omega) (by simp)
theorem same_l {a : List S23} (ha : a.length ≤ 1000) (d : Nat) : ∀ i : Nat, i + d = a.length → Ev (fun k => dancestudioref03_Same.l0 k a a (i : Int)) true := by
  induction d with
  | zero => intro i hi; exact ev_step (fun k => by simp only [dancestudioref03_Same.l0] <;> exact rfl) (ev_neg (by omega) (ev_now _))
  | succ d ih =>
    intro i hi
    refine ev_step (fun k => by simp only [dancestudioref03_Same.l0] <;> exact rfl) (ev_pos (by omega) (ev_pos (by omega) (ev_pos (by omega) (ev_neg (by rw [bne_pt]; simp) ?_))))
    rw [w64 (by omega) (by omega)]
    exact ih (i + 1) (by omega)
theorem same_ev {a : List S23} (ha : a.length ≤ 1000) : Ev (fun k => dancestudioref03_Same.f k a a) true := by
  simp only [dancestudioref03_Same.f]
  exact ev_pos trivial (same_l ha a.length 0 (by omega))
theorem HullR.len {l : List S23} {R : List S23 × Int} (h : HullR l R) : R.1.length ≤ 16 := by
  cases h with
  | full => simp
  | range => simp
  | none => simp
  | ok hl _ hh _ => exact Nat.le_trans hh.toWalk.len hl
end Go.Proofs.Ytmilejcbkpkplaa.PAll
/- Inside of the program and of the reference. -/
namespace Go.Proofs.Ytmilejcbkpkplaa.PAll
set_option linter.unusedVariables false
open Go Go.RowKit Go.Proofs.YtmilejcbkpkplaaW.PrintWords Go.Proofs.YtmilejcbkpkplaaW.PrintLast Go.Proofs.YtmilejcbkpkplaaW.PrintMore Go.Proofs.Ytmilejcbkpkplaa.MathNum Go.Proofs.Ytmilejcbkpkplaa.EvWords Go.Proofs.Ytmilejcbkpkplaa.MathGeom

/-- No side of the hull has the point to its right. -/
def sides (p : S23) (H : List S23) : Prop := ∀ i, i < H.length → 0 ≤ cx (rd_T23 H (i : Int)) (rd_T23 H (((i + 1) % H.length : Nat) : Int)) p
instance (p : S23) (H : List S23) : Decidable (sides p H) := by unfold sides; exact inferInstance
def inside (p : S23) (H : List S23) : Bool :=
  if H.length = 0 then false else if H.length < 3 then decide (nst ((rd_T23 H 0).f0 - p.f0) ((rd_T23 H 0).f1 - p.f1) ((rd_T23 H ((H.length - 1 : Nat) : Int)).f0 - (rd_T23 H 0).f0) ((rd_T23 H ((H.length - 1 : Nat) : Int)).f1 - (rd_T23 H 0).f1) 0 ≤ 0) else decide (sides p H)
def insV (p : S23) (R : List S23 × Int) : Bool × Int := if R.2 = 0 then (if pOk p then (inside p R.1, 0) else (false, 1)) else (false, R.2)

theorem rdT_ok {H : List S23} (h : ∀ p ∈ H, pOk p) {i : Nat} (hi : i < H.length) : pOk (rd_T23 H (i : Int)) := by
  rw [rdT_nat H hi]; exact h _ (List.getElem_mem hi)
theorem tmod_next {n i : Nat} (hn : 0 < n) (hs : n ≤ 16) (hi : i < n) : Int.tmod (wrap64 ((i : Int) + 1)) (n : Int) = (((i + 1) % n : Nat) : Int) := by
  rw [w64 (by omega) (by omega)]; rfl
theorem sides_ev {p : S23} {H : List S23} (hp : pOk p) (hH : ∀ q ∈ H, pOk q) (hlen : H.length ≤ 16) {R : Bool × Int} (hR : R = (decide (sides p H), 0)) (d : Nat) : ∀ i : Nat, i + d = H.length → (∀ j, j < i → 0 ≤ cx (rd_T23 H (j : Int)) (rd_T23 H (((j + 1) % H.length : Nat) : Int)) p) →
    Ev (fun k => geom_Inside.l0 k H H (H.length : Int) (i : Int) p.f0 p.f1) R := by
  induction d with
  | zero =>
    intro i hi h
    rw [hR, decide_eq_true (show sides p H from fun j hj => h j (by omega))]
    exact ev_step (fun k => by simp only [geom_Inside.l0] <;> exact rfl) (ev_neg (by omega) (ev_now _))
  | succ d ih =>
    intro i hi h
    have hlt : i < H.length := by omega
    have hm : (i + 1) % H.length < H.length := Nat.mod_lt _ (by omega)
    have oa := rdT_ok hH hlt
    have ob := rdT_ok hH hm
    refine ev_step (fun k => by simp only [geom_Inside.l0] <;> exact rfl) (ev_pos (by omega) (ev_pos (by omega) (ev_pos (by omega) (ev_neg (by omega) ?_))))
    rw [tmod_next (by omega) hlen hlt]
    refine ev_pos (by omega) (ev_pos (by omega) ?_)
    rw [minus_ok ob.1 ob.2 oa.1 oa.2, minus_ok hp.1 hp.2 oa.1 oa.2]
    simp only [Option.bind_some]
    have e : geom_cross.f ((rd_T23 H (((i + 1) % H.length : Nat) : Int)).f0 - (rd_T23 H (i : Int)).f0) ((rd_T23 H (((i + 1) % H.length : Nat) : Int)).f1 - (rd_T23 H (i : Int)).f1) (p.f0 - (rd_T23 H (i : Int)).f0) (p.f1 - (rd_T23 H (i : Int)).f1) = some (cx (rd_T23 H (i : Int)) (rd_T23 H (((i + 1) % H.length : Nat) : Int)) p) := by
      obtain ⟨a1, a2⟩ := oa
      obtain ⟨b1, b2⟩ := ob
      obtain ⟨p1, p2⟩ := hp
      unfold cOk at *
      exact (cross_cr (by omega) (by omega) (by omega) (by omega)).1
    rw [e]
    simp only [Option.bind_some]
    by_cases hc : cx (rd_T23 H (i : Int)) (rd_T23 H (((i + 1) % H.length : Nat) : Int)) p < 0
    · rw [hR, decide_eq_false fun x => by have := x i hlt; omega]
      exact ev_pos hc (ev_now _)
    · refine ev_neg hc ?_
      rw [w64 (by omega) (by omega)]
      refine ih (i + 1) (by omega) (fun j hj => ?_)
      by_cases hj' : j = i
      · subst hj'; omega
      · exact h j (by omega)
theorem HullR.pts {l : List S23} {R : List S23 × Int} (h : HullR l R) : ∀ p ∈ R.1, pOk p := by
  cases h with
  | full => simp
  | range => simp
  | none => simp
  | ok _ hv hh _ => intro p hp; exact hv p (hh.sub p hp)
theorem inside_some {p : S23} {H : List S23} (hp : pOk p) (hH : ∀ q ∈ H, pOk q) (hlen : H.length ≤ 16) : Ev (fun k => if (H.length : Int) = 0 then (some (false, (0 : Int))) else (if (H.length : Int) < 3 then (if 0 < (H.length : Int) then ((geom_minus.f ((rd_T23 H 0).f0) ((rd_T23 H 0).f1) p.f0 p.f1).bind fun bt264 => (if 0 ≤ (wrap64 ((H.length : Int) - 1)) then (if (wrap64 ((H.length : Int) - 1)) < (H.length : Int) then ((geom_minus.f ((rd_T23 H (wrap64 ((H.length : Int) - 1))).f0) ((rd_T23 H (wrap64 ((H.length : Int) - 1))).f1) ((rd_T23 H 0).f0) ((rd_T23 H 0).f1)).bind fun bt268 => ((geom_nearest.f k bt264.1 bt264.2 bt268.1 bt268.2 0).bind fun t270 => (some (decide (t270 ≤ 0), 0)))) else (none)) else (none))) else (none)) else (geom_Inside.l0 k H H (H.length : Int) 0 p.f0 p.f1))) (inside p H, 0) := by
  unfold inside
  by_cases h0 : H.length = 0
  · rw [if_pos h0]; exact ev_pos (by omega) (ev_now _)
  · rw [if_neg h0]
    refine ev_neg (by omega) ?_
    by_cases h3 : H.length < 3
    · rw [if_pos h3]
      refine ev_pos (by omega) (ev_pos (by omega) ?_)
      rw [show wrap64 ((H.length : Int) - 1) = ((H.length - 1 : Nat) : Int) by rw [w64 (by omega) (by omega)]; omega]
      have oa : pOk (rd_T23 H 0) := rdT_ok hH (i := 0) (by omega)
      have ob := rdT_ok hH (i := H.length - 1) (by omega)
      rw [minus_ok oa.1 oa.2 hp.1 hp.2, minus_ok ob.1 ob.2 oa.1 oa.2]
      simp only [Option.bind_some]
      refine ev_pos (by omega) (ev_pos (by omega) ?_)
      obtain ⟨a1, a2⟩ := oa
      obtain ⟨b1, b2⟩ := ob
      obtain ⟨p1, p2⟩ := hp
      unfold cOk at *
      exact (nearest_ev (by omega) (by omega) (by omega) (by omega) (by omega) (by omega) (by omega)).bind (ev_now _)
    · rw [if_neg h3]
      refine ev_neg (by omega) ?_
      exact sides_ev hp hH hlen rfl H.length 0 (by omega) (fun j hj => by omega)
theorem inside_ev {l : List S23} (p : S23) {R : List S23 × Int} (h : HullR l R) (hl : l.length ≤ 1000) : Ev (fun k => geom_Inside.f k p.f0 p.f1 l) (insV p R) := by
  have vp := valid_ev (ps := [(⟨p.f0, p.f1⟩ : S23)]) (rs := []) (by simp) (by simp)
  have vl := valid_ev (ps := l) (rs := []) (by omega) (by simp)
  have e0 : ∀ x y : Int, Ev (fun k => geom_Inside.j0 k l true x y) (false, 1) := fun x y => ev_step (fun k => by simp only [geom_Inside.j0] <;> exact rfl) (ev_pos (show true = true from rfl) (ev_now _))
  have e1 : ∀ {H : List S23}, pOk p → (∀ q ∈ H, pOk q) → H.length ≤ 16 → Ev (fun k => geom_hull.f k l) H → Ev (fun k => geom_Inside.j0 k l false p.f0 p.f1) (inside p H, 0) := fun hp hH hlen e =>
    ev_step (fun k => by simp only [geom_Inside.j0] <;> exact rfl) (ev_neg (by simp) (Ev.bind e (inside_some hp hH hlen)))
  have key : ∀ {H : List S23}, l.length ≤ 16 → (∀ q ∈ l, pOk q) → (∀ q ∈ H, pOk q) → H.length ≤ 16 → Ev (fun k => geom_hull.f k l) H → Ev (fun k => geom_Inside.f k p.f0 p.f1 l) (if pOk p then (inside p H, 0) else (false, 1)) := by
    intro H h1 h2 h3 h4 e
    simp only [geom_Inside.f]
    refine ev_neg (by omega) ?_
    by_cases hp : pOk p
    · rw [if_pos hp]
      refine Ev.bind vp (ev_pos (by simpa [pOk] using hp) (Ev.bind vl ?_))
      rw [show (!decide ((∀ p ∈ l, pOk p) ∧ ∀ r ∈ ([] : List Int), rOk r)) = false by simpa using h2]
      exact e1 hp h3 h4 e
    · rw [if_neg hp]
      exact Ev.bind vp (ev_neg (by simpa [pOk] using hp) (e0 _ _))
  have lenH := h.len
  have ptsH := h.pts
  unfold insV
  cases h with
  | full h =>
    simp only [geom_Inside.f]
    exact ev_pos (by omega) (ev_now _)
  | range h hv =>
    simp only [geom_Inside.f]
    refine ev_neg (by omega) ?_
    by_cases hp : pOk p
    · refine Ev.bind vp (ev_pos (by simpa [pOk] using hp) (Ev.bind vl ?_))
      rw [show (!decide ((∀ p ∈ l, pOk p) ∧ ∀ r ∈ ([] : List Int), rOk r)) = true by simpa using hv]
      exact e0 _ _
    · exact Ev.bind vp (ev_neg (by simpa [pOk] using hp) (e0 _ _))
  | none h e => subst h; exact key (by simp) (by simp) ptsH lenH e
  | ok h hv hh e => exact key h hv ptsH lenH e
end Go.Proofs.Ytmilejcbkpkplaa.PAll
/- Near of the program. -/
namespace Go.Proofs.Ytmilejcbkpkplaa.PAll
set_option linter.unusedVariables false
open Go Go.RowKit Go.Proofs.YtmilejcbkpkplaaW.PrintWords Go.Proofs.YtmilejcbkpkplaaW.PrintLast Go.Proofs.YtmilejcbkpkplaaW.PrintMore Go.Proofs.Ytmilejcbkpkplaa.MathNum Go.Proofs.Ytmilejcbkpkplaa.EvWords Go.Proofs.Ytmilejcbkpkplaa.MathGeom

/-- Whether a disc of the radius r at p reaches the segment from a to b. -/
def nearV (p0 p1 a0 a1 b0 b1 r : Int) : Bool × Int :=
  if (cOk p0 ∧ cOk p1) ∧ (cOk a0 ∧ cOk a1) ∧ (cOk b0 ∧ cOk b1) ∧ rOk r then (decide (nst (a0 - p0) (a1 - p1) (b0 - a0) (b1 - a1) (r * r) ≤ 0), 0) else (false, 1)
theorem near_ev (p0 p1 a0 a1 b0 b1 r : Int) : Ev (fun k => geom_Near.f k p0 p1 a0 a1 b0 b1 r) (nearV p0 p1 a0 a1 b0 b1 r) := by
  have v := valid_ev (ps := [(⟨p0, p1⟩ : S23), (⟨a0, a1⟩ : S23), (⟨b0, b1⟩ : S23)]) (rs := [r]) (by simp) (by simp)
  simp only [geom_Near.f]
  unfold nearV
  by_cases h : (cOk p0 ∧ cOk p1) ∧ (cOk a0 ∧ cOk a1) ∧ (cOk b0 ∧ cOk b1) ∧ rOk r
  · rw [if_pos h]
    refine Ev.bind v (ev_pos (by simpa [pOk, and_assoc] using h) ?_)
    obtain ⟨⟨p, p'⟩, ⟨a, a'⟩, ⟨b, b'⟩, hr⟩ := h
    rw [minus_ok a a' p p', minus_ok b b' a a']
    unfold cOk rOk at *
    simp only [Option.bind_some]
    have rr := mul_bound (a := r) (b := r) (m := 32768) (n := 32768) (by omega) (by omega)
    have r0 := Int.mul_nonneg hr.1 hr.1
    rw [w64 (n := r * r) (by omega) (by omega)]
    exact (nearest_ev (by omega) (by omega) (by omega) (by omega) (by omega) (by omega) (by omega)).bind (ev_now _)
  · rw [if_neg h]
    exact Ev.bind v (ev_neg (by simpa [pOk, and_assoc] using h) (ev_now _))

theorem nearV_rev (p0 p1 a0 a1 b0 b1 r : Int) : nearV p0 p1 b0 b1 a0 a1 r = nearV p0 p1 a0 a1 b0 b1 r := by
  unfold nearV
  have := nst_rev (a0 - p0) (a1 - p1) (b0 - a0) (b1 - a1) (r * r)
  rw [show a0 - p0 + (b0 - a0) = b0 - p0 by omega, show a1 - p1 + (b1 - a1) = b1 - p1 by omega, show -(b0 - a0) = a0 - b0 by omega, show -(b1 - a1) = a1 - b1 by omega] at this
  rw [this]
  by_cases h : (cOk p0 ∧ cOk p1) ∧ (cOk a0 ∧ cOk a1) ∧ (cOk b0 ∧ cOk b1) ∧ rOk r
  · rw [if_pos h, if_pos ⟨h.1, h.2.2.1, h.2.1, h.2.2.2⟩]
  · rw [if_neg h, if_neg fun x => h ⟨x.1, x.2.2.1, x.2.1, x.2.2.2⟩]

end Go.Proofs.Ytmilejcbkpkplaa.PAll
/- What the printed functions of the reference of layer 1 that compare products answer. -/
namespace Go.Proofs.Ytmilejcbkpkplaa.PAll
set_option linter.unusedVariables false
open Go Go.RowKit Go.Proofs.YtmilejcbkpkplaaW.PrintWords Go.Proofs.YtmilejcbkpkplaaW.PrintLast Go.Proofs.YtmilejcbkpkplaaW.PrintMore Go.Proofs.Ytmilejcbkpkplaa.MathNum

theorem rsmall_some (a : Int) : dancestudioref01_Small.f a = some (sm a) := by
  unfold dancestudioref01_Small.f sm
  by_cases h : a ≥ -1125899906842624
  · rw [if_pos h]; simp; omega
  · rw [if_neg h]; simp; omega
theorem rorder_some (a b : Int) : dancestudioref01_order.f a b = some (cmp3 a b) := by
  unfold dancestudioref01_order.f cmp3
  split
  · rfl
  · split <;> rfl
theorem cmp3_mul (a b : Int) : cmp3 a 0 * cmp3 b 0 = cmp3 (a * b) 0 := by
  rcases cmp3_cases a 0 with ⟨h1, e1⟩ | ⟨h1, e1⟩ | ⟨h1, e1⟩ <;> rcases cmp3_cases b 0 with ⟨h2, e2⟩ | ⟨h2, e2⟩ | ⟨h2, e2⟩ <;> rw [e1, e2]
  · rw [cmp3_gt (Int.mul_pos_of_neg_of_neg h1 h2)]; rfl
  · subst h2; simp [cmp3]
  · rw [cmp3_lt (Int.mul_neg_of_neg_of_pos h1 h2)]; rfl
  · subst h1; simp [cmp3]
  · subst h1; simp [cmp3]
  · subst h1; simp [cmp3]
  · rw [cmp3_lt (Int.mul_neg_of_pos_of_neg h1 h2)]; rfl
  · subst h2; simp [cmp3]
  · rw [cmp3_gt (Int.mul_pos h1 h2)]; rfl
theorem rsign_some (a b : Int) : dancestudioref01_sign.f a b = some (cmp3 (a * b) 0) := by
  unfold dancestudioref01_sign.f
  simp only [rorder_some, Option.bind_some]
  have h1 := cmp3_range (a * b) 0
  rw [cmp3_mul, w64 (by omega) (by omega)]
theorem rsize_some {a : Int} (h1 : -1125899906842624 ≤ a) (h2 : a ≤ 1125899906842624) : dancestudioref01_size.f a = some (ab a) := by
  unfold dancestudioref01_size.f ab
  split
  · rw [w64 (by omega) (by omega)]
  · rfl
theorem rwide_some {x y : Int} (hx0 : 0 ≤ x) (hx : x ≤ 1125899906842624) (hy0 : 0 ≤ y) (hy : y ≤ 1125899906842624) :
    ∃ hi mi lo : Int, dancestudioref01_wide.f x y = some (hi, mi, lo) ∧ 0 ≤ lo ∧ lo < 67108864 ∧ 0 ≤ mi ∧ mi < 67108864 ∧ 0 ≤ hi ∧ x * y = hi * 4503599627370496 + mi * 67108864 + lo := by
  unfold dancestudioref01_wide.f
  have e1 : Int.tdiv x 67108864 = x / 67108864 := Int.tdiv_eq_ediv_of_nonneg hx0
  have e2 : Int.tdiv y 67108864 = y / 67108864 := Int.tdiv_eq_ediv_of_nonneg hy0
  have e3 : Int.tmod x 67108864 = x % 67108864 := Int.tmod_eq_emod_of_nonneg hx0
  have e4 : Int.tmod y 67108864 = y % 67108864 := Int.tmod_eq_emod_of_nonneg hy0
  rw [e1, e2, e3, e4]
  have hxe : x = (x / 67108864) * 67108864 + x % 67108864 := by omega
  have hye : y = (y / 67108864) * 67108864 + y % 67108864 := by omega
  have a1 : 0 ≤ x / 67108864 := by omega
  have a2 : x / 67108864 ≤ 16777216 := by omega
  have a3 : 0 ≤ x % 67108864 := by omega
  have a4 : x % 67108864 ≤ 67108863 := by omega
  have b1 : 0 ≤ y / 67108864 := by omega
  have b2 : y / 67108864 ≤ 16777216 := by omega
  have b3 : 0 ≤ y % 67108864 := by omega
  have b4 : y % 67108864 ≤ 67108863 := by omega
  generalize x / 67108864 = xh at *
  generalize x % 67108864 = xl at *
  generalize y / 67108864 = yh at *
  generalize y % 67108864 = yl at *
  rw [w64 (n := xh) (by omega) (by omega), w64 (n := yh) (by omega) (by omega)]
  have m1 := mul_range (a := xh) (b := yh) (A := 16777216) (B := 16777216) (by omega) a2 b1 b2
  have m2 := mul_range (a := xh) (b := yl) (A := 16777216) (B := 67108863) (by omega) a2 b3 b4
  have m3 := mul_range (a := xl) (b := yh) (A := 67108863) (B := 16777216) (by omega) a4 b1 b2
  have m4 := mul_range (a := xl) (b := yl) (A := 67108863) (B := 67108863) (by omega) a4 b3 b4
  have n1 := Int.mul_nonneg a1 b1
  have n2 := Int.mul_nonneg a1 b3
  have n3 := Int.mul_nonneg a3 b1
  have n4 := Int.mul_nonneg a3 b3
  have hp : x * y = (xh * yh) * 4503599627370496 + (xh * yl + xl * yh) * 67108864 + xl * yl := by
    rw [hxe, hye]; grind
  rw [hp]
  clear hp hxe hye
  generalize xh * yh = p1 at *
  generalize xh * yl = p2 at *
  generalize xl * yh = p3 at *
  generalize xl * yl = p4 at *
  rw [w64 (n := p1) (by omega) (by omega), w64 (n := p2) (by omega) (by omega), w64 (n := p3) (by omega) (by omega), w64 (n := p4) (by omega) (by omega)]
  rw [w64 (n := p2 + p3) (by omega) (by omega)]
  have e5 : Int.tdiv p4 67108864 = p4 / 67108864 := Int.tdiv_eq_ediv_of_nonneg n4
  have e6 : Int.tmod p4 67108864 = p4 % 67108864 := Int.tmod_eq_emod_of_nonneg n4
  rw [e5, e6]
  rw [w64 (n := p4 / 67108864) (by omega) (by omega)]
  rw [w64 (n := p2 + p3 + p4 / 67108864) (by omega) (by omega)]
  have e7 : Int.tdiv (p2 + p3 + p4 / 67108864) 67108864 = (p2 + p3 + p4 / 67108864) / 67108864 := Int.tdiv_eq_ediv_of_nonneg (by omega)
  have e8 : Int.tmod (p2 + p3 + p4 / 67108864) 67108864 = (p2 + p3 + p4 / 67108864) % 67108864 := Int.tmod_eq_emod_of_nonneg (by omega)
  rw [e7, e8]
  rw [w64 (n := (p2 + p3 + p4 / 67108864) / 67108864) (by omega) (by omega)]
  rw [w64 (n := p1 + (p2 + p3 + p4 / 67108864) / 67108864) (by omega) (by omega)]
  exact ⟨_, _, _, rfl, by omega, by omega, by omega, by omega, by omega, by omega⟩
theorem ab_mul (a b : Int) : ab a * ab b = ab (a * b) := by
  unfold ab
  by_cases h1 : a < 0 <;> by_cases h2 : b < 0
  · rw [if_pos h1, if_pos h2, if_neg (by have := Int.mul_pos_of_neg_of_neg h1 h2; omega)]; grind
  · rw [if_pos h1, if_neg h2]
    by_cases h3 : b = 0
    · subst h3; simp
    · rw [if_pos (Int.mul_neg_of_neg_of_pos h1 (by omega))]; grind
  · rw [if_neg h1, if_pos h2]
    by_cases h3 : a = 0
    · subst h3; simp
    · rw [if_pos (Int.mul_neg_of_pos_of_neg (by omega) h2)]; grind
  · rw [if_neg h1, if_neg h2, if_neg (by have := Int.mul_nonneg (a := a) (b := b) (by omega) (by omega); omega)]
theorem rcompare_j (k : Nat) {a b c d : Int} (h : (sm a && sm b && sm c && sm d) = true) : dancestudioref01_Compare.j0 (k + 1) a b c d false = some (cmp3 (a * b) (c * d), 0) := by
  simp only [Bool.and_eq_true, sm_iff] at h
  obtain ⟨⟨⟨⟨a1, a2⟩, b1, b2⟩, c1, c2⟩, d1, d2⟩ := h
  simp only [dancestudioref01_Compare.j0]
  simp only [rsign_some, rorder_some, Option.bind_some, Bool.false_eq_true, if_false]
  rw [rsize_some a1 a2, rsize_some b1 b2, rsize_some c1 c2, rsize_some d1 d2]
  obtain ⟨h1, m1, l1, e1, g1⟩ := rwide_some (ab_sm a1 a2).1 (ab_sm a1 a2).2 (ab_sm b1 b2).1 (ab_sm b1 b2).2
  obtain ⟨h2, m2, l2, e2, g2⟩ := rwide_some (ab_sm c1 c2).1 (ab_sm c1 c2).2 (ab_sm d1 d2).1 (ab_sm d1 d2).2
  simp only [Option.bind_some]
  rw [e1]
  simp only [Option.bind_some]
  rw [e2]
  simp only [Option.bind_some]
  rw [ab_mul] at g1 g2
  clear e1 e2
  generalize a * b = p at *
  generalize c * d = q at *
  have key : ∀ x y : Int, 0 ≤ x → 0 ≤ y → x = h1 * 4503599627370496 + m1 * 67108864 + l1 → y = h2 * 4503599627370496 + m2 * 67108864 + l2 → ∀ s : Int,
      (if h1 = h2 then (if m1 = m2 then (some (wrap64 (s * cmp3 l1 l2), (0 : Int))) else some (wrap64 (s * cmp3 m1 m2), 0)) else some (wrap64 (s * cmp3 h1 h2), 0)) = some (wrap64 (s * cmp3 x y), 0) := by
    intro x y _ _ ex ey s
    rcases Int.lt_trichotomy h1 h2 with g | g | g
    · rw [if_neg (by omega), cmp3_lt g, cmp3_lt (by omega)]
    · rw [if_pos g]
      rcases Int.lt_trichotomy m1 m2 with f | f | f
      · rw [if_neg (by omega), cmp3_lt f, cmp3_lt (by omega)]
      · rw [if_pos f]
        rcases Int.lt_trichotomy l1 l2 with e | e | e
        · rw [cmp3_lt e, cmp3_lt (by omega)]
        · rw [cmp3_eq e, cmp3_eq (by omega)]
        · rw [cmp3_gt e, cmp3_gt (by omega)]
      · rw [if_neg (by omega), cmp3_gt f, cmp3_gt (by omega)]
    · rw [if_neg (by omega), cmp3_gt g, cmp3_gt (by omega)]
  have n1 : 0 ≤ ab p := by unfold ab; split <;> omega
  have n2 : 0 ≤ ab q := by unfold ab; split <;> omega
  rw [key (ab p) (ab q) n1 n2 g1.2.2.2.2.2 g2.2.2.2.2.2]
  clear key g1 g2
  rcases cmp3_cases p 0 with ⟨hp, e1⟩ | ⟨hp, e1⟩ | ⟨hp, e1⟩ <;> rcases cmp3_cases q 0 with ⟨hq, e2⟩ | ⟨hq, e2⟩ | ⟨hq, e2⟩ <;> rw [e1, e2]
  · rw [if_pos rfl]
    have : cmp3 (ab p) (ab q) = -cmp3 p q := by
      rcases cmp3_cases p q with ⟨g, e⟩ | ⟨g, e⟩ | ⟨g, e⟩ <;> rw [e] <;> unfold ab <;> rw [if_pos hp, if_pos hq]
      · exact cmp3_gt (by omega)
      · exact cmp3_eq (by omega)
      · exact cmp3_lt (by omega)
    have r := cmp3_range p q
    rw [this, w64 (by omega) (by omega)]; congr 2; omega
  · rw [if_neg (by omega), cmp3_lt (a := p) (b := q) (by omega)]; rfl
  · rw [if_neg (by omega), cmp3_lt (a := p) (b := q) (by omega)]; rfl
  · rw [if_neg (by omega), cmp3_gt (a := p) (b := q) (by omega)]; rfl
  · rw [if_pos rfl, cmp3_eq (a := p) (by omega)]; simp [w64]
  · rw [if_neg (by omega), cmp3_lt (a := p) (b := q) (by omega)]; rfl
  · rw [if_neg (by omega), cmp3_gt (a := p) (b := q) (by omega)]; rfl
  · rw [if_neg (by omega), cmp3_gt (a := p) (b := q) (by omega)]; rfl
  · rw [if_pos rfl]
    have : ab p = p := by unfold ab; rw [if_neg (by omega)]
    have : ab q = q := by unfold ab; rw [if_neg (by omega)]
    have r := cmp3_range p q
    simp only [*]
    rw [w64 (by omega) (by omega)]; congr 2; omega
theorem rcompare_some (k : Nat) (a b c d : Int) : dancestudioref01_Compare.f (k + 1) a b c d = if (sm a && sm b && sm c && sm d) = true then some (cmp3 (a * b) (c * d), 0) else some (0, 1) := by
  unfold dancestudioref01_Compare.f
  simp only [rsmall_some, Option.bind_some]
  have hb : dancestudioref01_Compare.j0 (k + 1) a b c d true = some (0, 1) := by simp [dancestudioref01_Compare.j0]
  cases h1 : sm a
  · simp [hb]
  · cases h2 : sm b
    · simp [hb]
    · cases h3 : sm c
      · simp [hb]
      · cases h4 : sm d
        · simp [hb]
        · simp only [if_true, Bool.not_true, Bool.and_self]
          exact rcompare_j k (by simp [h1, h2, h3, h4])
end Go.Proofs.Ytmilejcbkpkplaa.PAll
/- The reference's comparison of products and its squared distance. -/
namespace Go.Proofs.Ytmilejcbkpkplaa.PAll
set_option linter.unusedVariables false
open Go Go.RowKit Go.Proofs.YtmilejcbkpkplaaW.PrintWords Go.Proofs.YtmilejcbkpkplaaW.PrintLast Go.Proofs.YtmilejcbkpkplaaW.PrintMore Go.Proofs.Ytmilejcbkpkplaa.MathNum Go.Proofs.Ytmilejcbkpkplaa.EvWords Go.Proofs.Ytmilejcbkpkplaa.MathGeom

theorem rcompare_ev {a b c d : Int} (h1 : sm a = true) (h2 : sm b = true) (h3 : sm c = true) (h4 : sm d = true) : Ev (fun k => dancestudioref01_Compare.f k a b c d) (cmp3 (a * b) (c * d), 0) :=
  Ev.of (dancestudioref01_Compare.mono a b c d) (k := 0 + 1) (by rw [rcompare_some, if_pos (by simp [h1, h2, h3, h4])])

theorem sq_dt {a b c d : Int} (ha : cOk a) (hb : cOk b) (hc : cOk c) (hd : cOk d) : dancestudioref03_square.f a b c d = some (dt (a - c) (b - d) (a - c) (b - d)) := square_ok ha hb hc hd
end Go.Proofs.Ytmilejcbkpkplaa.PAll
/- Near of the reference. -/
namespace Go.Proofs.Ytmilejcbkpkplaa.PAll
set_option linter.unusedVariables false
open Go Go.RowKit Go.Proofs.YtmilejcbkpkplaaW.PrintWords Go.Proofs.YtmilejcbkpkplaaW.PrintLast Go.Proofs.YtmilejcbkpkplaaW.PrintMore Go.Proofs.Ytmilejcbkpkplaa.MathNum Go.Proofs.Ytmilejcbkpkplaa.EvWords Go.Proofs.Ytmilejcbkpkplaa.MathGeom

theorem cmp3_le {a b : Int} : decide (cmp3 a b ≤ 0) = decide (a ≤ b) := by
  rcases cmp3_cases a b with ⟨h, e⟩ | ⟨h, e⟩ | ⟨h, e⟩ <;> rw [e] <;> exact decide_eq_decide.2 (by omega)
theorem rnear_j {p0 p1 a0 a1 b0 b1 r : Int} (h : (cOk p0 ∧ cOk p1) ∧ (cOk a0 ∧ cOk a1) ∧ (cOk b0 ∧ cOk b1) ∧ rOk r) : Ev (fun k => dancestudioref03_Near.j0 k r false p0 p1 a0 a1 b0 b1) (nearV p0 p1 a0 a1 b0 b1 r) := by
  unfold nearV
  rw [if_pos h]
  obtain ⟨⟨p, p'⟩, ⟨a, a'⟩, ⟨b, b'⟩, hr⟩ := h
  refine ev_step (fun k => by simp only [dancestudioref03_Near.j0] <;> exact rfl) ?_
  refine ev_neg (by simp) ?_
  rw [sq_dt p p' a a', sq_dt a a' b b', sq_dt p p' b b', rcross_ok a a' b b' p p']
  unfold cOk rOk at *
  simp only [Option.bind_some]
  have rr := mul_bound (a := r) (b := r) (m := 32768) (n := 32768) (by omega) (by omega)
  have r0 := Int.mul_nonneg hr.1 hr.1
  have m1 := mul_bound (a := p0 - a0) (b := b0 - a0) (m := 65536) (n := 65536) (by omega) (by omega)
  have m2 := mul_bound (a := p1 - a1) (b := b1 - a1) (m := 65536) (n := 65536) (by omega) (by omega)
  have m3 := mul_bound (a := b0 - a0) (b := p1 - a1) (m := 65536) (n := 65536) (by omega) (by omega)
  have m4 := mul_bound (a := b1 - a1) (b := p0 - a0) (m := 65536) (n := 65536) (by omega) (by omega)
  have eL : dt (a0 - b0) (a1 - b1) (a0 - b0) (a1 - b1) = dt (b0 - a0) (b1 - a1) (b0 - a0) (b1 - a1) := dt_swap _ _ _ _
  have bL := (dot_dt (a := b0 - a0) (b := b1 - a1) (c := b0 - a0) (d := b1 - a1) (by omega) (by omega) (by omega) (by omega)).2
  rw [w64 (n := r * r) (by omega) (by omega), w64 (n := p0 - a0) (by omega) (by omega), w64 (n := p1 - a1) (by omega) (by omega), w64 (n := b0 - a0) (by omega) (by omega), w64 (n := b1 - a1) (by omega) (by omega), w64 (n := (p0 - a0) * (b0 - a0)) (by omega) (by omega), w64 (n := (p1 - a1) * (b1 - a1)) (by omega) (by omega), w64 (by omega) (by omega)]
  have ed : (p0 - a0) * (b0 - a0) + (p1 - a1) * (b1 - a1) = -dt (a0 - p0) (a1 - p1) (b0 - a0) (b1 - a1) := by unfold dt; grind
  rw [ed, eL]
  unfold nst
  by_cases c1 : -dt (a0 - p0) (a1 - p1) (b0 - a0) (b1 - a1) ≤ 0
  · refine ev_pos c1 ?_
    rw [if_pos c1, cmp3_le, dt_swap]
    exact ev_now _
  · refine ev_neg c1 ?_
    rw [if_neg c1]
    by_cases c2 : -dt (a0 - p0) (a1 - p1) (b0 - a0) (b1 - a1) ≥ dt (b0 - a0) (b1 - a1) (b0 - a0) (b1 - a1)
    · refine ev_pos c2 ?_
      rw [if_pos c2, cmp3_le]
      refine ev_eq (ev_now _) ?_
      rw [dt_swap]; congr 2; rw [show a0 - p0 + (b0 - a0) = b0 - p0 by omega, show a1 - p1 + (b1 - a1) = b1 - p1 by omega]
    · refine ev_neg c2 ?_
      rw [if_neg c2]
      have sc := sm_of (a := (b0 - a0) * (p1 - a1) - (b1 - a1) * (p0 - a0)) (by omega) (by omega)
      refine Ev.bind (rcompare_ev sc sc (sm_of (by omega) (by omega)) (sm_of (by omega) (by omega))) ?_
      have : ((b0 - a0) * (p1 - a1) - (b1 - a1) * (p0 - a0)) * ((b0 - a0) * (p1 - a1) - (b1 - a1) * (p0 - a0)) = cr (a0 - p0) (a1 - p1) (b0 - a0) (b1 - a1) * cr (a0 - p0) (a1 - p1) (b0 - a0) (b1 - a1) := by unfold cr; grind
      rw [this]
      exact ev_now _
theorem rnear_bad (r p0 p1 a0 a1 b0 b1 : Int) : Ev (fun k => dancestudioref03_Near.j0 k r true p0 p1 a0 a1 b0 b1) (false, 1) :=
  ev_step (fun k => by simp only [dancestudioref03_Near.j0] <;> exact rfl) (ev_pos (show true = true from rfl) (ev_now _))
theorem rnear_ev (p0 p1 a0 a1 b0 b1 r : Int) : Ev (fun k => dancestudioref03_Near.f k p0 p1 a0 a1 b0 b1 r) (nearV p0 p1 a0 a1 b0 b1 r) := by
  have bad : ¬ ((cOk p0 ∧ cOk p1) ∧ (cOk a0 ∧ cOk a1) ∧ (cOk b0 ∧ cOk b1) ∧ rOk r) → nearV p0 p1 a0 a1 b0 b1 r = (false, 1) := fun h => by unfold nearV; rw [if_neg h]
  simp only [dancestudioref03_Near.f, rValid, rRadius, Option.bind_some]
  by_cases h1 : cOk p0 ∧ cOk p1
  · refine ev_pos (by simpa using h1) ?_
    by_cases h2 : cOk a0 ∧ cOk a1
    · refine ev_pos (by simpa using h2) ?_
      by_cases h3 : cOk b0 ∧ cOk b1
      · refine ev_pos (by simpa using h3) ?_
        by_cases h4 : rOk r
        · rw [decide_eq_true h4]
          exact rnear_j ⟨h1, h2, h3, h4⟩
        · rw [decide_eq_false h4, bad fun h => h4 h.2.2.2]; exact rnear_bad ..
      · refine ev_neg (by simpa using h3) ?_
        rw [bad fun h => h3 h.2.2.1]; exact rnear_bad ..
    · refine ev_neg (by simpa using h2) ?_
      rw [bad fun h => h2 h.2.1]; exact rnear_bad ..
  · refine ev_neg (by simpa using h1) ?_
    rw [bad fun h => h1 h.1]; exact rnear_bad ..
end Go.Proofs.Ytmilejcbkpkplaa.PAll
/- Inside of the reference. -/
namespace Go.Proofs.Ytmilejcbkpkplaa.PAll
set_option linter.unusedVariables false
open Go Go.RowKit Go.Proofs.YtmilejcbkpkplaaW.PrintWords Go.Proofs.YtmilejcbkpkplaaW.PrintLast Go.Proofs.YtmilejcbkpkplaaW.PrintMore Go.Proofs.Ytmilejcbkpkplaa.MathNum Go.Proofs.Ytmilejcbkpkplaa.EvWords Go.Proofs.Ytmilejcbkpkplaa.MathGeom

theorem rsides_ev {p : S23} {H : List S23} (hp : pOk p) (hH : ∀ q ∈ H, pOk q) (hlen : H.length ≤ 16) {R : Bool × Int} (hR : R = (decide (sides p H), 0)) (d : Nat) : ∀ i : Nat, i + d = H.length → (∀ j, j < i → 0 ≤ cx (rd_T23 H (j : Int)) (rd_T23 H (((j + 1) % H.length : Nat) : Int)) p) →
    Ev (fun k => dancestudioref03_Inside.l0 k H (i : Int) p.f0 p.f1) R := by
  induction d with
  | zero =>
    intro i hi h
    rw [hR, decide_eq_true (show sides p H from fun j hj => h j (by omega))]
    exact ev_step (fun k => by simp only [dancestudioref03_Inside.l0] <;> exact rfl) (ev_neg (by omega) (ev_now _))
  | succ d ih =>
    intro i hi h
    have hlt : i < H.length := by omega
    have hm : (i + 1) % H.length < H.length := Nat.mod_lt _ (by omega)
    have oa := rdT_ok hH hlt
    have ob := rdT_ok hH hm
    refine ev_step (fun k => by simp only [dancestudioref03_Inside.l0] <;> exact rfl) (ev_pos (by omega) (ev_pos (by omega) (ev_neg (by omega) ?_)))
    rw [tmod_next (by omega) hlen hlt]
    refine ev_pos (by omega) (ev_pos (by omega) ?_)
    rw [rcross_cx oa ob hp]
    simp only [Option.bind_some]
    by_cases hc : cx (rd_T23 H (i : Int)) (rd_T23 H (((i + 1) % H.length : Nat) : Int)) p < 0
    · rw [hR, decide_eq_false fun x => by have := x i hlt; omega]
      exact ev_pos hc (ev_now _)
    · refine ev_neg hc ?_
      rw [w64 (by omega) (by omega)]
      refine ih (i + 1) (by omega) (fun j hj => ?_)
      by_cases hj' : j = i
      · subst hj'; omega
      · exact h j (by omega)
theorem rinside_ev {l : List S23} (p : S23) {R : List S23 × Int} (h : HullR l R) (e : Ev (fun k => dancestudioref03_Hull.f k l) R) : Ev (fun k => dancestudioref03_Inside.f k p.f0 p.f1 l) (insV p R) := by
  have lenH := h.len
  have ptsH := h.pts
  simp only [dancestudioref03_Inside.f, rValid]
  refine Ev.bind e ?_
  unfold insV
  by_cases h0 : R.2 = 0
  · rw [if_pos h0]
    refine ev_pos h0 ?_
    simp only [Option.bind_some]
    by_cases hp : pOk p
    · rw [if_pos hp]
      refine ev_pos (decide_eq_true hp) ?_
      unfold inside
      by_cases g0 : R.1.length = 0
      · rw [if_pos g0]; exact ev_pos (by omega) (ev_now _)
      · rw [if_neg g0]
        refine ev_neg (by omega) ?_
        by_cases g3 : R.1.length < 3
        · rw [if_pos g3]
          refine ev_pos (by omega) (ev_pos (by omega) ?_)
          rw [show wrap64 ((R.1.length : Int) - 1) = ((R.1.length - 1 : Nat) : Int) by rw [w64 (by omega) (by omega)]; omega]
          refine ev_pos (by omega) (ev_pos (by omega) ?_)
          have oa : pOk (rd_T23 R.1 0) := rdT_ok ptsH (i := 0) (by omega)
          have ob := rdT_ok ptsH (i := R.1.length - 1) (by omega)
          refine ev_eq (Ev.bind (rnear_ev _ _ _ _ _ _ _) (ev_now _)) ?_
          unfold nearV
          rw [if_pos ⟨hp, oa, ob, by unfold rOk; omega⟩]
          simp
        · rw [if_neg g3]
          refine ev_neg (by omega) ?_
          exact rsides_ev hp ptsH lenH rfl R.1.length 0 (by omega) (fun j hj => by omega)
    · rw [if_neg hp]
      exact ev_neg (by simpa [pOk] using hp) (ev_now _)
  · rw [if_neg h0]
    exact ev_neg h0 (ev_now _)
end Go.Proofs.Ytmilejcbkpkplaa.PAll
/- GeomInside: plain law. -/
namespace Go.Proofs.Ytmilejcbkpkplaa.PAll
set_option linter.unusedVariables false
open Go Go.RowKit Go.Proofs.YtmilejcbkpkplaaW.PrintWords Go.Proofs.YtmilejcbkpkplaaW.PrintLast Go.Proofs.YtmilejcbkpkplaaW.PrintMore Go.Proofs.Ytmilejcbkpkplaa.MathNum Go.Proofs.Ytmilejcbkpkplaa.EvWords

theorem pure_GeomInside (a : Int) (_ : (Lit.int .i64 a).wf = true) (b : Int) (_ : (Lit.int .i64 b).wf = true) (l : List S23) (_ : l.length ≤ maxLen) (_ : ∀ p ∈ l, True) : ∃ k, dancestudiolaw03_GeomInside.f k a b l = some true := by
  refine ev_some ?_
  simp only [dancestudiolaw03_GeomInside.f]
  by_cases h : (l.length : Int) > 20
  · exact ev_pos h (Ev.bind awake_ev (ev_now _))
  · refine ev_neg h ?_
    obtain ⟨R, hR, e1, e2⟩ := hulls_ev l (by omega)
    exact Ev.bind (inside_ev (⟨a, b⟩ : S23) hR (by omega)) (Ev.bind (rinside_ev (⟨a, b⟩ : S23) hR e2) (ev_pos (by simp) (ev_pos rfl (Ev.bind awake_ev (ev_now _)))))
end Go.Proofs.Ytmilejcbkpkplaa.PAll
/- What the rows of laws over slices of anything take: the cells that were read hold values of a kind. -/
namespace Go.Proofs.Ytmilejcbkpkplaa.OpenWords
open Go Go.RowKit Go.ChangeShapes Go.WideShapes Go.Proofs.YtmilejcbkpkplaaW.PrintWords Go.Proofs.YtmilejcbkpkplaaW.PrintLast

section
variable {H : Type} {enc : TypeId × Value → H} {P : Program} {W : World} {base : Nat} {sp : Nat → Bool} {held : Bool}
/-- What is read at the type t is of the kind d, and G holds of it. -/
def Opens {α : Type} (enc : TypeId × Value → H) (P : Program) (W : World) (base : Nat) (sp : Nat → Bool) (held : Bool) (d : Kd α) (t : TypeId) (G : α → Prop) : Prop :=
  P.cellsOf t = d.sz ∧ ∀ fuel cs x, DataW.trod enc P W base sp held fuel t cs = some x → ∃ p, d.K W p cs ∧ G p
theorem Opens.weaken {α : Type} {d : Kd α} {t : TypeId} {G G' : α → Prop} (h : Opens enc P W base sp held d t G) (hg : ∀ p, G p → G' p) : Opens enc P W base sp held d t G' :=
  ⟨h.1, fun fuel cs x hx => by obtain ⟨p, h1, h2⟩ := h.2 fuel cs x hx; exact ⟨p, h1, hg p h2⟩⟩
theorem Opens.int {t : TypeId} {k : IntKind} (ht : P.underlying t = some (.int k)) (hc : P.cellsOf t = 1) : Opens enc P W base sp held (Kd.int k) t (fun z => (Lit.int k z).wf = true) :=
  ⟨hc, fun fuel cs x hx => by obtain ⟨n, rfl, _, hw⟩ := DataW.trod_int ht hx; exact ⟨n, rfl, hw⟩⟩
/-- Cells in line, read at once. -/
theorem cells_get {w : World} {b : Nat} {a : Addr} {n : Nat} {cs : List Value} (h : w.cells? b a n = some cs) : cs.length = n ∧ ∀ i u, cs[i]? = some u → w.cell? (a.add i) = some u := by
  unfold World.cells? at h
  split at h
  · have hl := mapM_some_length h
    simp only [List.length_range] at hl
    refine ⟨hl, fun i u hu => ?_⟩
    have hi : i < n := by
      have := (List.getElem?_eq_some_iff.1 hu).1
      omega
    have := mapM_some_get h i i (by simp [hi])
    rw [this, hu]
  · cases h
theorem open_elems {α : Type} {d : Kd α} {e : TypeId} {G : α → Prop} (h : Opens enc P W base sp held d e G) {a : Addr} {n len : Nat} {elems : List (DataW H × List MemPlace)}
    (hlen : elems.length = len) (hel : ∀ i, i < len → (W.cells? base (a.add (i * P.cellsOf e)) (P.cellsOf e)).bind (DataW.trod enc P W base sp held n e) = elems[i]?) (hm : len ≤ 9223372036854775807) :
    ∃ l : List α, l.length = len ∧ d.C W (some a) len l ∧ ∀ p ∈ l, G p := by
  have each : ∀ i, i < len → ∃ p : α, G p ∧ ∃ c, c.length = d.sz ∧ d.K W p c ∧ ∀ j u, c[j]? = some u → W.cell? (a.add (i * d.sz + j)) = some u := by
    intro i hi
    have hb := hel i hi
    rw [List.getElem?_eq_getElem (by omega), Option.bind_eq_some_iff] at hb
    obtain ⟨cs, hcs, ht⟩ := hb
    obtain ⟨p, hk, hg⟩ := h.2 _ _ _ ht
    refine ⟨p, hg, cs, d.K_len hk, hk, fun j u hu => ?_⟩
    have := (cells_get hcs).2 j u hu
    rw [Addr.add_add, h.1] at this
    exact this
  have build : ∀ m, m ≤ len → ∃ l : List α, l.length = m ∧ (∀ p ∈ l, G p) ∧ ∀ i p, l[i]? = some p → ∃ c, c.length = d.sz ∧ d.K W p c ∧ ∀ j u, c[j]? = some u → W.cell? (a.add (i * d.sz + j)) = some u := by
    intro m
    induction m with
    | zero => intro _; exact ⟨[], rfl, by simp, by simp⟩
    | succ m ih =>
      intro hm
      obtain ⟨l, hl, hg, hc⟩ := ih (by omega)
      obtain ⟨p, hp, hcp⟩ := each m (by omega)
      refine ⟨l ++ [p], by simp [hl], fun q hq => ?_, fun i q hq => ?_⟩
      · rcases List.mem_append.1 hq with hq | hq
        · exact hg q hq
        · rw [List.mem_singleton.1 hq]; exact hp
      · by_cases hi : i < l.length
        · rw [List.getElem?_append_left hi] at hq; exact hc i q hq
        · rw [List.getElem?_append_right (by omega)] at hq
          have hz : i - l.length = 0 := by
            have := (List.getElem?_eq_some_iff.1 hq).1
            simp at this; omega
          rw [hz] at hq
          simp only [List.getElem?_cons_zero, Option.some.injEq] at hq
          subst hq
          have : i = m := by omega
          subst this
          exact hcp
  obtain ⟨l, hl, hg, hc⟩ := build len (Nat.le_refl _)
  exact ⟨l, hl, ⟨hl, by omega, fun _ => ⟨a, rfl, hc⟩⟩, hg⟩
theorem C_none {α : Type} {d : Kd α} {W : World} : d.C W none 0 ([] : List α) := ⟨rfl, by omega, fun h => absurd h (by omega)⟩
theorem Opens.slice {α : Type} {d : Kd α} {e t : TypeId} {G : α → Prop} (ht : P.underlying t = some (.slice e)) (hc : P.cellsOf t = 1) (h : Opens enc P W base sp held d e G) :
    Opens enc P W base sp held (Kd.slice e d) t (fun l => l.length ≤ maxLen ∧ ∀ p ∈ l, G p) := by
  refine ⟨hc, fun fuel cs x hx => ?_⟩
  rcases DataW.trod_slice ht hx with ⟨rfl, _⟩ | ⟨a, len, cap, elems, rest, n, _, rfl, _, _, hl, hm, hlen, hel, _, _⟩
  · exact ⟨[], ⟨none, 0, rfl, Nat.le_refl _, C_none⟩, by simp, by simp⟩
  · obtain ⟨l, h1, h2, h3⟩ := open_elems h hlen hel (by unfold maxLen at hm; omega)
    exact ⟨l, ⟨some a, cap, by rw [h1], by omega, by rw [h1]; exact h2⟩, by omega, h3⟩
/-- A slice that came in. -/
theorem open_slice {α : Type} {d : Kd α} {e t : TypeId} {G : α → Prop} {v : Value} {D : DataW H} {pl : List MemPlace} {a : Option Addr} {len cap : Nat} (ht : P.underlying t = some (.slice e)) (h : Opens enc P W base sp held d e G)
    (hv : v = .slice a len cap) (hd : DataW.Trod enc P W base sp held t v D pl) : ∃ l : List α, l.length = len ∧ d.C W a len l ∧ len ≤ cap ∧ l.length ≤ maxLen ∧ ∀ p ∈ l, G p := by
  subst hv
  obtain ⟨fuel, hf⟩ := hd
  rcases DataW.trod_slice ht hf with ⟨hcs, _⟩ | ⟨a', len', cap', elems, rest, n, _, hcs, _, _, hl, hm, hlen, hel, _, _⟩
  · simp [Value.cells] at hcs
    obtain ⟨rfl, rfl, rfl⟩ := hcs
    exact ⟨[], rfl, C_none, Nat.le_refl _, by simp, by simp⟩
  · simp [Value.cells] at hcs
    obtain ⟨rfl, rfl, rfl⟩ := hcs
    obtain ⟨l, h1, h2, h3⟩ := open_elems h hlen hel (by unfold maxLen at hm; omega)
    exact ⟨l, h1, h2, hl, by omega, h3⟩
/-- Fields in line. -/
def OpensAt {α : Type} (enc : TypeId × Value → H) (P : Program) (W : World) (base : Nat) (sp : Nat → Bool) (held : Bool) (d : Kd α) (fs : List Field) (off : Nat) (G : α → Prop) : Prop :=
  ∀ n (cs : List Value) (xs : List (DataW H × List MemPlace)), (∀ (i : Nat) (f : Field), fs[i]? = some f → DataW.trod enc P W base sp held n f.type ((cs.drop f.offset).take (P.cellsOf f.type)) = xs[i]?) → xs.length = fs.length → cs.length = off + d.sz → ∃ p, d.K W p (cs.drop off) ∧ G p
theorem OpensAt.one {α : Type} {d : Kd α} {f : Field} {off : Nat} {G : α → Prop} (ho : f.offset = off) (h : Opens enc P W base sp held d f.type G) : OpensAt enc P W base sp held d [f] off G := by
  intro n cs xs hx hl hc
  have := hx 0 f rfl
  rw [List.getElem?_eq_getElem (by simp [hl])] at this
  obtain ⟨p, h1, h2⟩ := h.2 _ _ _ this
  rw [ho, List.take_of_length_le (by rw [List.length_drop, h.1]; omega)] at h1
  exact ⟨p, h1, h2⟩
theorem OpensAt.cons {α β : Type} {a : Kd α} {b : Kd β} {f : Field} {fs : List Field} {off : Nat} {G : α → Prop} {G' : β → Prop} (ho : f.offset = off) (h : Opens enc P W base sp held a f.type G) (hr : OpensAt enc P W base sp held b fs (off + a.sz) G') :
    OpensAt enc P W base sp held (Kd.pair a b) (f :: fs) off (fun p => G p.1 ∧ G' p.2) := by
  intro n cs xs hx hl hc
  have hsz : (Kd.pair a b).sz = a.sz + b.sz := rfl
  have h0 := hx 0 f rfl
  rw [List.getElem?_eq_getElem (by simp [hl])] at h0
  obtain ⟨p, h1, h2⟩ := h.2 _ _ _ h0
  obtain ⟨q, h3, h4⟩ := hr n cs (xs.drop 1) (fun i g hg => by
    have := hx (i + 1) g (by simpa using hg)
    rw [this, List.getElem?_drop, Nat.add_comm]) (by simp [hl]) (by omega)
  refine ⟨(p, q), ⟨_, _, ?_, h1, h3⟩, h2, h4⟩
  rw [ho, h.1, ← List.drop_drop, List.take_append_drop]
theorem Opens.struct {α β : Type} {d : Kd α} {g : β → α} {t : TypeId} {fs : Array Field} {G : α → Prop} (ht : P.underlying t = some (.struct fs)) (hc : P.cellsOf t = d.sz) (hs : ∀ y, ∃ x, g x = y) (h : OpensAt enc P W base sp held d fs.toList 0 G) :
    Opens enc P W base sp held (Kd.iso d g) t (fun x => G (g x)) := by
  refine ⟨hc, fun fuel cs x hx => ?_⟩
  obtain ⟨xs, n, _, _, hl, hxs, hf⟩ := DataW.trod_struct ht hx
  obtain ⟨p, h1, h2⟩ := h n cs xs (fun i f hi => hf i f (by simpa using hi)) (by simpa using hxs) (by omega)
  obtain ⟨y, rfl⟩ := hs p
  exact ⟨y, by rw [List.drop_zero] at h1; exact h1, h2⟩
end
end Go.Proofs.Ytmilejcbkpkplaa.OpenWords
/- What is read at the type of a point. -/
namespace Go.Proofs.Ytmilejcbkpkplaa.PAll
open Go Go.RowKit Go.Proofs.YtmilejcbkpkplaaW.PrintWords Go.Proofs.YtmilejcbkpkplaaW.PrintLast Go.Proofs.YtmilejcbkpkplaaW.PrintMore Go.Proofs.Ytmilejcbkpkplaa.OpenWords
theorem opens23 {H : Type} {enc : TypeId × Value → H} {W : World} {base : Nat} {sp : Nat → Bool} {held : Bool} : Opens enc Try.prog W base sp held k23 23 (fun _ => True) :=
  Opens.weaken (Opens.struct Try.underlying23 (by kernel_rfl) (fun y => ⟨⟨y.1, y.2⟩, rfl⟩)
    (OpensAt.cons rfl (Opens.int Try.underlying3 (by kernel_rfl)) (OpensAt.one rfl (Opens.int Try.underlying3 (by kernel_rfl))))) (fun _ _ => trivial)
end Go.Proofs.Ytmilejcbkpkplaa.PAll
/- What the rows of laws over structs and arrays of whole numbers take: the argument's cells are whole numbers. -/
namespace Go.Proofs.Ytmilejcbkpkplaa.AggWords
open Go Go.RowKit Go.ChangeShapes Go.WideShapes

def cellsOfInts : List IntKind → List Int → List Value
  | k :: ks, z :: zs => .int k z :: cellsOfInts ks zs
  | _, _ => []
theorem cell_int {P : Program} {W : World} {base : Nat} {t : TypeId} {k : IntKind} {v : Value} (ht : P.underlying t = some (.int k)) (h : Cell.okWide P W .any base t v) : ∃ z, v = .int k z ∧ (Lit.int k z).wf = true := by
  simp only [ht, Cell.okWide] at h
  cases v <;> simp_all [Cell.ok, Lit.wf, IntKind.has]
theorem row_ints {P : Program} {W : World} {base : Nat} : ∀ (ts : List TypeId) (ks : List IntKind) (cs : List Value), cs.length = ts.length → ts.map P.underlying = ks.map (fun k => some (.int k)) →
    (∀ (i : Nat) v, cs[i]? = some v → ∃ u, ts[i]? = some u ∧ Cell.okWide P W .any base u v) → ∃ zs, zs.length = ks.length ∧ cs = cellsOfInts ks zs ∧ ∀ (i : Nat) k z, ks[i]? = some k → zs[i]? = some z → (Lit.int k z).wf = true := by
  intro ts
  induction ts with
  | nil =>
    intro ks cs hl hk _
    cases ks with
    | nil => exact ⟨[], rfl, List.eq_nil_of_length_eq_zero hl, fun i k z h => by simp at h⟩
    | cons k ks => simp at hk
  | cons t ts ih =>
    intro ks cs hl hk h
    cases ks with
    | nil => simp at hk
    | cons k ks =>
      cases cs with
      | nil => simp at hl
      | cons v cs =>
        simp only [List.map_cons, List.cons.injEq] at hk
        obtain ⟨u, hu, hv⟩ := h 0 v rfl
        simp only [List.getElem?_cons_zero, Option.some.injEq] at hu
        subst hu
        obtain ⟨z, rfl, hw⟩ := cell_int hk.1 hv
        obtain ⟨zs, hz, e, hws⟩ := ih ks cs (by simpa using hl) hk.2 (fun i v hi => h (i + 1) v (by simpa using hi))
        refine ⟨z :: zs, by simp [hz], by rw [e]; rfl, fun i k' z' h1 h2 => ?_⟩
        cases i with
        | zero => simp only [List.getElem?_cons_zero, Option.some.injEq] at h1 h2; subst h1 h2; exact hw
        | succ i => exact hws i k' z' (by simpa using h1) (by simpa using h2)
theorem open_cells {P : Program} {W : World} {base : Nat} {t : TypeId} {v : Value} {ts : List TypeId} {ks : List IntKind} (hu : (∃ fs, P.underlying t = some (.struct fs)) ∨ ∃ e n, P.underlying t = some (.array e n)) (ht : P.cellTypes P.depth t = some ts) (hC : P.cellsOf t = ts.length)
    (hk : ts.map P.underlying = ks.map (fun k => some (.int k))) (h : Value.okWide P W .any base t v) : ∃ zs, zs.length = ks.length ∧ v = .agg (cellsOfInts ks zs).toArray ∧ ∀ (i : Nat) k z, ks[i]? = some k → zs[i]? = some z → (Lit.int k z).wf = true := by
  have h' : ∃ cs, v = .agg cs ∧ cs.size = P.cellsOf t ∧ Row.okWide P W .any base t cs := by
    rcases hu with ⟨fs, hu⟩ | ⟨e, n, hu⟩ <;> (simp only [Value.okWide, hu] at h; exact h)
  obtain ⟨cs, rfl, hsz, ts', ht', _, hc⟩ := h'
  rw [ht] at ht'
  obtain rfl := Option.some.inj ht'
  obtain ⟨zs, hz, e, hw⟩ := row_ints ts ks cs.toList (by rw [Array.length_toList, hsz, hC]) hk (fun i v hi => by
    rw [Array.getElem?_toList] at hi
    obtain ⟨u, h1, h2⟩ := hc i v hi
    have : i < cs.size := by
      apply Classical.byContradiction
      intro hno
      rw [Array.getElem?_eq_none (by omega)] at hi
      cases hi
    rw [Nat.mod_eq_of_lt (by omega)] at h1
    exact ⟨u, h1, h2⟩)
  exact ⟨zs, hz, by rw [← e], hw⟩
theorem list_cons {n : Nat} {zs : List Int} (h : zs.length = n + 1) : ∃ a l, zs = a :: l ∧ l.length = n := by
  cases zs with
  | nil => simp at h
  | cons a l => exact ⟨a, l, rfl, by simpa using h⟩
end Go.Proofs.Ytmilejcbkpkplaa.AggWords
