/- Convex hulls by turning around the corners: plain facts about lists of points. -/
import Derived.Test.YtmilejcbkpkplaaPAllx0
import Derived.Test.YtmilejcbkpkplaaGeomBase
import Derived.Test.YtmilejcbkpkplaaMathGeom
namespace Go.Proofs.Ytmilejcbkpkplaa.PAll
set_option linter.unusedVariables false
open Go Go.RowKit Go.Proofs.YtmilejcbkpkplaaW.PrintWords Go.Proofs.YtmilejcbkpkplaaW.PrintLast Go.Proofs.YtmilejcbkpkplaaW.PrintMore Go.Proofs.Ytmilejcbkpkplaa.MathNum Go.Proofs.Ytmilejcbkpkplaa.EvWords Go.Proofs.Ytmilejcbkpkplaa.MathGeom

theorem S23_ext {a b : S23} (h0 : a.f0 = b.f0) (h1 : a.f1 = b.f1) : a = b := by cases a; cases b; simp_all
instance : DecidableEq S23 := fun a b => decidable_of_iff (a.f0 = b.f0 ∧ a.f1 = b.f1) ⟨fun h => S23_ext h.1 h.2, fun h => by subst h; exact ⟨rfl, rfl⟩⟩

/-- A half plane with one of its border's rays: the ways from a corner. -/
def HP (d e x y : Int) : Prop := 0 < cr d e x y ∨ cr d e x y = 0 ∧ dt d e x y ≤ 0

/-- What turns and lengths are in the coordinates that d, e spans. -/
theorem rot_cr (d e a b x y : Int) : dt d e d e * cr a b x y = dt d e a b * cr d e x y - cr d e a b * dt d e x y := by unfold dt cr; grind
theorem rot_dt (d e a b x y : Int) : dt d e d e * dt a b x y = dt d e a b * dt d e x y + cr d e a b * cr d e x y := by unfold dt cr; grind
theorem pos_of_mul {D a : Int} (hD : 0 < D) (h : 0 ≤ D * a) : 0 ≤ a := by
  apply Int.not_lt.mp
  intro g
  have := Int.mul_neg_of_pos_of_neg hD g
  omega
theorem HP_nonneg {d e x y : Int} (h : HP d e x y) : 0 ≤ cr d e x y := by rcases h with h | h <;> omega
theorem cr_anti (a b x y : Int) : cr x y a b = -cr a b x y := by unfold cr; grind
theorem dt_comm (a b x y : Int) : dt x y a b = dt a b x y := by unfold dt; grind

/-- In such a half plane turning is an order. -/
theorem turn_trans {d e a b x y p q : Int} (hD : 0 < dt d e d e) (h1 : HP d e a b) (h2 : HP d e x y) (h3 : HP d e p q) (hne : 0 < dt x y x y) (h12 : 0 ≤ cr a b x y) (h23 : 0 ≤ cr x y p q) : 0 ≤ cr a b p q := by
  have r12 := rot_cr d e a b x y
  have r23 := rot_cr d e x y p q
  have r13 := rot_cr d e a b p q
  have r22 := rot_dt d e x y x y
  apply pos_of_mul hD
  have m12 := Int.mul_nonneg (Int.le_of_lt hD) h12
  have m23 := Int.mul_nonneg (Int.le_of_lt hD) h23
  have m22 := Int.mul_pos hD hne
  rw [r12] at m12; rw [r23] at m23; rw [r13]; rw [r22] at m22
  have g1 := HP_nonneg h1
  have g3 := HP_nonneg h3
  have k1 : cr d e a b = 0 → dt d e a b ≤ 0 := fun z => by rcases h1 with h | h <;> omega
  have k2 : cr d e x y = 0 → dt d e x y ≤ 0 := fun z => by rcases h2 with h | h <;> omega
  have k3 : cr d e p q = 0 → dt d e p q ≤ 0 := fun z => by rcases h3 with h | h <;> omega
  have g2 := HP_nonneg h2
  clear r12 r23 r13 r22 h1 h2 h3 h12 h23
  generalize cr d e a b = Y1 at *
  generalize dt d e a b = X1 at *
  generalize cr d e x y = Y2 at *
  generalize dt d e x y = X2 at *
  generalize cr d e p q = Y3 at *
  generalize dt d e p q = X3 at *
  rcases Int.lt_or_eq_of_le g2 with g | g
  · apply pos_of_mul g
    have a1 := Int.mul_nonneg g3 m12
    have a2 := Int.mul_nonneg g1 m23
    have : Y2 * (X1 * Y3 - Y1 * X3) = Y3 * (X1 * Y2 - Y1 * X2) + Y1 * (X2 * Y3 - Y2 * X3) := by grind
    omega
  · have z : Y2 = 0 := g.symm
    subst z
    have x2 : X2 ≤ 0 := k2 rfl
    have x2' : X2 < 0 := by
      rcases Int.lt_or_eq_of_le x2 with h | h
      · exact h
      · subst h; simp at m22
    have y3 : Y3 = 0 := by
      rcases Int.lt_or_eq_of_le g3 with h | h
      · have := Int.mul_neg_of_neg_of_pos x2' h; omega
      · exact h.symm
    subst y3
    have := Int.mul_nonneg g1 (a := Y1) (b := -X3) (by have := k3 rfl; omega)
    rw [Int.mul_neg] at this
    omega
/-- Ways of one line in such a half plane have one direction. -/
theorem same_way {d e a b x y : Int} (hD : 0 < dt d e d e) (h1 : HP d e a b) (h2 : HP d e x y) (hc : cr a b x y = 0) : 0 ≤ dt a b x y := by
  have r := rot_cr d e a b x y
  have s := rot_dt d e a b x y
  apply pos_of_mul hD
  rw [hc, Int.mul_zero] at r
  rw [s]
  have g1 := HP_nonneg h1
  have g2 := HP_nonneg h2
  have k1 : cr d e a b = 0 → dt d e a b ≤ 0 := fun z => by rcases h1 with h | h <;> omega
  have k2 : cr d e x y = 0 → dt d e x y ≤ 0 := fun z => by rcases h2 with h | h <;> omega
  clear s h1 h2 hc
  generalize cr d e a b = Y1 at *
  generalize dt d e a b = X1 at *
  generalize cr d e x y = Y2 at *
  generalize dt d e x y = X2 at *
  have hy := Int.mul_nonneg g1 g2
  have hx : 0 ≤ X1 * X2 := by
    rcases Int.lt_or_eq_of_le g1 with a | a
    · rcases Int.lt_or_eq_of_le g2 with b | b
      · have pp := Int.mul_pos a b
        apply pos_of_mul pp
        have : Y1 * Y2 * (X1 * X2) = (X1 * Y2) * (X1 * Y2) := by
          have : X1 * Y2 = Y1 * X2 := by omega
          have e : Y1 * Y2 * (X1 * X2) = (Y1 * X2) * (X1 * Y2) := by grind
          rw [e, this]
        rw [this]; exact mul_self_nonneg' _
      · have z : Y2 = 0 := b.symm
        subst z
        have : Y1 * X2 = 0 := by omega
        rcases Int.mul_eq_zero.mp this with h | h
        · omega
        · rw [h]; simp
    · have z : Y1 = 0 := a.symm
      subst z
      have : X1 * Y2 = 0 := by omega
      rcases Int.mul_eq_zero.mp this with h | h
      · rw [h]; simp
      · exact Int.mul_nonneg_of_nonpos_of_nonpos (k1 rfl) (k2 h)
  omega

/-- The turn from o to p around c, and the square of a way. -/
def cx (c o p : S23) : Int := cr (o.f0 - c.f0) (o.f1 - c.f1) (p.f0 - c.f0) (p.f1 - c.f1)
def sq (c p : S23) : Int := dt (p.f0 - c.f0) (p.f1 - c.f1) (p.f0 - c.f0) (p.f1 - c.f1)
theorem cx_anti (c o p : S23) : cx c p o = -cx c o p := cr_anti _ _ _ _
theorem sq_nonneg (c p : S23) : 0 ≤ sq c p := dt_self _ _
theorem sq_zero {c p : S23} (h : sq c p ≤ 0) : p = c := by
  have := dt_zero h
  exact S23_ext (by omega) (by omega)
theorem sq_pos {c p : S23} (h : p ≠ c) : 0 < sq c p := by
  have := sq_nonneg c p
  rcases Int.lt_or_eq_of_le this with g | g
  · exact g
  · exact absurd (sq_zero (by omega)) h
theorem sq_self (c : S23) : sq c c = 0 := by unfold sq dt; simp
def better (c o p : S23) : Prop := if o = c then p ≠ c else cx c o p < 0 ∨ cx c o p = 0 ∧ sq c p > sq c o
instance (c o p : S23) : Decidable (better c o p) := by unfold better; exact inferInstance
def step (c o p : S23) : S23 := if better c o p then p else o
def nxt (l : List S23) (c : S23) : S23 := l.foldl (step c) c
/-- Nothing is to the right of the way from c to q, and nothing on it is farther. -/
def Gd (l : List S23) (c q : S23) : Prop := ∀ p ∈ l, 0 ≤ cx c q p ∧ (cx c q p = 0 → sq c p ≤ sq c q)
def Cor (l : List S23) (c : S23) : Prop := ∃ d e : Int, 0 < dt d e d e ∧ ∀ p ∈ l, HP d e (p.f0 - c.f0) (p.f1 - c.f1)

theorem step_good {d e : Int} {c o p : S23} {s : List S23} (hD : 0 < dt d e d e) (hs : ∀ r ∈ s, HP d e (r.f0 - c.f0) (r.f1 - c.f1)) (hp : HP d e (p.f0 - c.f0) (p.f1 - c.f1))
    (h : o = c ∧ (∀ r ∈ s, r = c) ∨ o ∈ s ∧ o ≠ c ∧ Gd s c o) : step c o p = c ∧ (∀ r ∈ s ++ [p], r = c) ∨ step c o p ∈ s ++ [p] ∧ step c o p ≠ c ∧ Gd (s ++ [p]) c (step c o p) := by
  have yes : better c o p → step c o p = p := fun h => by unfold step; rw [if_pos h]
  have no : ¬ better c o p → step c o p = o := fun h => by unfold step; rw [if_neg h]
  unfold better at yes no
  rcases h with ⟨rfl, h⟩ | ⟨ho, hne, hg⟩
  · rw [if_pos rfl] at yes no
    by_cases hp' : p ≠ o
    · rw [yes hp']
      refine Or.inr ⟨by simp, hp', fun r hr => ?_⟩
      rcases List.mem_append.1 hr with hr | hr
      · rw [h r hr]
        have z : cx o p o = 0 := by unfold cx cr; simp
        exact ⟨by omega, fun _ => by rw [sq_self]; exact sq_nonneg _ _⟩
      · rw [List.mem_singleton.1 hr]
        have z : cx o p p = 0 := by unfold cx cr; grind
        exact ⟨by omega, fun _ => Int.le_refl _⟩
    · rw [no hp']
      refine Or.inl ⟨rfl, fun r hr => ?_⟩
      rcases List.mem_append.1 hr with hr | hr
      · exact h r hr
      · rw [List.mem_singleton.1 hr]; exact Decidable.not_not.1 hp'
  · rw [if_neg hne] at yes no
    have so := sq_pos hne
    by_cases hb : cx c o p < 0 ∨ cx c o p = 0 ∧ sq c p > sq c o
    · rw [yes hb]
      have pne : p ≠ c := by
        rintro rfl
        rcases hb with h | h
        · unfold cx cr at h; simp at h
        · rw [sq_self] at h; omega
      have sp := sq_pos pne
      have hpo : 0 ≤ cx c p o := by rw [cx_anti]; omega
      refine Or.inr ⟨by simp, pne, fun r hr => ?_⟩
      rcases List.mem_append.1 hr with hr | hr
      · obtain ⟨g1, g2⟩ := hg r hr
        have t1 : 0 ≤ cx c p r := turn_trans hD hp (hs o ho) (hs r hr) so hpo g1
        refine ⟨t1, fun z => ?_⟩
        rcases Int.lt_or_eq_of_le (sq_nonneg c r) with sr | sr
        · have zr : 0 ≤ cx c r p := by rw [cx_anti]; omega
          rcases hb with h | h
          · have := turn_trans hD (hs o ho) (hs r hr) hp sr g1 zr
            have : 0 ≤ cx c o p := this
            omega
          · have k : 0 ≤ cx c r o := turn_trans hD (hs r hr) hp (hs o ho) sp zr hpo
            rw [cx_anti] at k
            have := g2 (by omega)
            omega
        · omega
      · rw [List.mem_singleton.1 hr]
        have z : cx c p p = 0 := by unfold cx cr; grind
        exact ⟨by omega, fun _ => Int.le_refl _⟩
    · rw [no hb]
      refine Or.inr ⟨by simp [ho], hne, fun r hr => ?_⟩
      rcases List.mem_append.1 hr with hr | hr
      · exact hg r hr
      · rw [List.mem_singleton.1 hr]; exact ⟨by omega, fun z => by omega⟩
theorem fold_good {d e : Int} {c : S23} (hD : 0 < dt d e d e) (t : List S23) : ∀ (s : List S23) (o : S23), (∀ r ∈ s ++ t, HP d e (r.f0 - c.f0) (r.f1 - c.f1)) →
    (o = c ∧ (∀ r ∈ s, r = c) ∨ o ∈ s ∧ o ≠ c ∧ Gd s c o) → (t.foldl (step c) o = c ∧ (∀ r ∈ s ++ t, r = c) ∨ t.foldl (step c) o ∈ s ++ t ∧ t.foldl (step c) o ≠ c ∧ Gd (s ++ t) c (t.foldl (step c) o)) := by
  induction t with
  | nil => intro s o _ h; simpa using h
  | cons p t ih =>
    intro s o hs h
    have := ih (s ++ [p]) (step c o p) (by simpa using hs) (step_good hD (fun r hr => hs r (by simp [hr])) (hs p (by simp)) h)
    simpa using this
/-- The next corner, as seen from a corner. -/
theorem nxt_good {l : List S23} {c : S23} (h : Cor l c) : nxt l c = c ∧ (∀ p ∈ l, p = c) ∨ nxt l c ∈ l ∧ nxt l c ≠ c ∧ Gd l c (nxt l c) := by
  obtain ⟨d, e, hD, hH⟩ := h
  have := fold_good hD l [] c (by simpa using hH) (Or.inl ⟨rfl, by simp⟩)
  simpa [nxt] using this
theorem Cor_next {l : List S23} {c q : S23} (hne : q ≠ c) (h : Gd l c q) : Cor l q := by
  refine ⟨q.f0 - c.f0, q.f1 - c.f1, sq_pos hne, fun p hp => ?_⟩
  obtain ⟨h1, h2⟩ := h p hp
  have e1 : cr (q.f0 - c.f0) (q.f1 - c.f1) (p.f0 - q.f0) (p.f1 - q.f1) = cx c q p := by unfold cx cr; grind
  have e2 : sq c p = dt (p.f0 - q.f0) (p.f1 - q.f1) (p.f0 - q.f0) (p.f1 - q.f1) + 2 * dt (q.f0 - c.f0) (q.f1 - c.f1) (p.f0 - q.f0) (p.f1 - q.f1) + sq c q := by unfold sq dt; grind
  have := dt_self (p.f0 - q.f0) (p.f1 - q.f1)
  unfold HP
  rw [e1]
  rcases Int.lt_or_eq_of_le h1 with g | g
  · exact Or.inl g
  · exact Or.inr ⟨g.symm, by have := h2 g.symm; omega⟩
/-- A corner's way to the next corner is one alone. -/
theorem Gd_uniq {l : List S23} {c q q' : S23} (hc : Cor l c) (hq : q ∈ l) (hq' : q' ∈ l) (h : Gd l c q) (h' : Gd l c q') : q = q' := by
  obtain ⟨d, e, hD, hH⟩ := hc
  obtain ⟨a1, a2⟩ := h q' hq'
  obtain ⟨b1, b2⟩ := h' q hq
  have an := cx_anti c q q'
  have z : cx c q q' = 0 := by omega
  have es : sq c q = sq c q' := by have := a2 z; have := b2 (by omega); omega
  have nn := same_way hD (hH q hq) (hH q' hq') z
  have lg := lagrange (q.f0 - c.f0) (q.f1 - c.f1) (q'.f0 - c.f0) (q'.f1 - c.f1)
  have z' : cr (q.f0 - c.f0) (q.f1 - c.f1) (q'.f0 - c.f0) (q'.f1 - c.f1) = 0 := z
  rw [z'] at lg
  have e1 : sq q' q = sq c q - 2 * dt (q.f0 - c.f0) (q.f1 - c.f1) (q'.f0 - c.f0) (q'.f1 - c.f1) + sq c q' := by unfold sq dt; grind
  change sq c q * sq c q' = _ at lg
  rw [es] at lg e1
  have s0 := sq_nonneg c q'
  generalize dt (q.f0 - c.f0) (q.f1 - c.f1) (q'.f0 - c.f0) (q'.f1 - c.f1) = m at *
  have : sq c q' = m := by
    have f : (sq c q' - m) * (sq c q' + m) = 0 := by grind
    rcases Int.mul_eq_zero.mp f with g | g <;> omega
  exact sq_zero (by omega)
/-- Two corners have no corner in common as the next one. -/
theorem nxt_inj {l : List S23} {a b q : S23} (ha : Cor l a) (hb : Cor l b) (ma : a ∈ l) (mb : b ∈ l) (mq : q ∈ l) (hqa : q ≠ a) (hqb : q ≠ b) (ga : Gd l a q) (gb : Gd l b q) : a = b := by
  apply Classical.byContradiction
  intro hab
  obtain ⟨a1, a2⟩ := ga b mb
  obtain ⟨b1, b2⟩ := gb a ma
  have e1 : cx a q b = -cr (a.f0 - q.f0) (a.f1 - q.f1) (b.f0 - q.f0) (b.f1 - q.f1) := by unfold cx cr; grind
  have e2 : cx b q a = cr (a.f0 - q.f0) (a.f1 - q.f1) (b.f0 - q.f0) (b.f1 - q.f1) := by unfold cx cr; grind
  have z : cr (a.f0 - q.f0) (a.f1 - q.f1) (b.f0 - q.f0) (b.f1 - q.f1) = 0 := by omega
  have n1 := a2 (by omega)
  have n2 := b2 (by omega)
  have pa := sq_pos hqa
  have pb := sq_pos hqb
  have hba : a ≠ b := hab
  have pab := sq_pos hba
  have e3 : sq a b = sq b a := by unfold sq dt; grind
  have e4 : sq b a = sq a q - 2 * dt (a.f0 - q.f0) (a.f1 - q.f1) (b.f0 - q.f0) (b.f1 - q.f1) + sq b q := by unfold sq dt; grind
  have lg := lagrange (a.f0 - q.f0) (a.f1 - q.f1) (b.f0 - q.f0) (b.f1 - q.f1)
  have e5 : dt (a.f0 - q.f0) (a.f1 - q.f1) (a.f0 - q.f0) (a.f1 - q.f1) = sq a q := by unfold sq dt; grind
  have e6 : dt (b.f0 - q.f0) (b.f1 - q.f1) (b.f0 - q.f0) (b.f1 - q.f1) = sq b q := by unfold sq dt; grind
  rw [z, e5, e6] at lg
  -- the corner b sees a and q on one line, not in opposite directions
  obtain ⟨d, e, hD, hH⟩ := hb
  obtain ⟨d', e', hD', hH'⟩ := ha
  have w1 := same_way hD (hH a ma) (hH q mq) (by rw [show cr (a.f0 - b.f0) (a.f1 - b.f1) (q.f0 - b.f0) (q.f1 - b.f1) = -cr (a.f0 - q.f0) (a.f1 - q.f1) (b.f0 - q.f0) (b.f1 - q.f1) by unfold cr; grind]; omega)
  have w2 := same_way hD' (hH' b mb) (hH' q mq) (by rw [show cr (b.f0 - a.f0) (b.f1 - a.f1) (q.f0 - a.f0) (q.f1 - a.f1) = cr (a.f0 - q.f0) (a.f1 - q.f1) (b.f0 - q.f0) (b.f1 - q.f1) by unfold cr; grind]; omega)
  have f1 : dt (a.f0 - b.f0) (a.f1 - b.f1) (q.f0 - b.f0) (q.f1 - b.f1) = sq b q - dt (a.f0 - q.f0) (a.f1 - q.f1) (b.f0 - q.f0) (b.f1 - q.f1) := by unfold sq dt; grind
  have f2 : dt (b.f0 - a.f0) (b.f1 - a.f1) (q.f0 - a.f0) (q.f1 - a.f1) = sq a q - dt (a.f0 - q.f0) (a.f1 - q.f1) (b.f0 - q.f0) (b.f1 - q.f1) := by unfold sq dt; grind
  generalize dt (a.f0 - q.f0) (a.f1 - q.f1) (b.f0 - q.f0) (b.f1 - q.f1) = m at *
  -- m ≤ |u|², m ≤ |v|², m² = |u|² |v|², |v|² ≤ 2 m, |u|² ≤ 2 m
  have m0 : 0 < m := by omega
  have q1 : sq a q * sq b q ≥ m * sq b q := Int.mul_le_mul_of_nonneg_right (by omega) (by omega)
  have q2 : m * m ≤ m * sq b q := Int.mul_le_mul_of_nonneg_left (by omega) (by omega)
  have eqb : sq b q = m := by
    rcases Int.lt_or_eq_of_le (show m ≤ sq b q by omega) with g | g
    · have := Int.mul_lt_mul_of_pos_left g m0; omega
    · exact g.symm
  have eqa : sq a q = m := by
    have : (sq a q - m) * m = 0 := by rw [eqb] at lg; grind
    rcases Int.mul_eq_zero.mp this with g | g <;> omega
  omega

/-- The least point, by its first, then by its second number. -/
def lt2 (a b : S23) : Prop := a.f0 < b.f0 ∨ a.f0 = b.f0 ∧ a.f1 < b.f1
instance (a b : S23) : Decidable (lt2 a b) := by unfold lt2; exact inferInstance
def low (o p : S23) : S23 := if lt2 p o then p else o
theorem lt2_antisymm {a b : S23} (h1 : ¬ lt2 a b) (h2 : ¬ lt2 b a) : a = b := by
  unfold lt2 at *
  exact S23_ext (by omega) (by omega)
theorem low_least (t : List S23) : ∀ (s : List S23) (o : S23), o ∈ s → (∀ r ∈ s, ¬ lt2 r o) → t.foldl low o ∈ s ++ t ∧ ∀ r ∈ s ++ t, ¬ lt2 r (t.foldl low o) := by
  induction t with
  | nil => intro s o h1 h2; simpa using ⟨h1, h2⟩
  | cons p t ih =>
    intro s o h1 h2
    have := ih (s ++ [p]) (low o p) ?_ ?_
    · simpa using this
    · unfold low; split
      · simp
      · simp [h1]
    · intro r hr
      unfold low
      rcases List.mem_append.1 hr with hr | hr
      · have := h2 r hr
        split
        · rename_i hl; unfold lt2 at *; omega
        · exact this
      · rw [List.mem_singleton.1 hr]
        split
        · unfold lt2; omega
        · rename_i hl; exact hl
theorem Cor_first {l : List S23} {c : S23} (h : ∀ r ∈ l, ¬ lt2 r c) : Cor l c := by
  refine ⟨0, -1, by decide, fun p hp => ?_⟩
  have := h p hp
  unfold lt2 at this
  unfold HP cr dt
  omega

/-- What is without repetition in a list is not longer. -/
theorem nodup_len {α : Type} [DecidableEq α] : ∀ {s l : List α}, s.Nodup → (∀ x ∈ s, x ∈ l) → s.length ≤ l.length := by
  intro s
  induction s with
  | nil => intro l _ _; simp
  | cons a t ih =>
    intro l hn hs
    rw [List.nodup_cons] at hn
    have ha : a ∈ l := hs a (by simp)
    have := ih (l := l.erase a) hn.2 (fun x hx => by
      have : x ≠ a := by rintro rfl; exact hn.1 hx
      exact (List.mem_erase_of_ne this).2 (hs x (by simp [hx])))
    have e := List.length_erase_of_mem ha
    have p : 0 < l.length := List.length_pos_of_mem ha
    simp only [List.length_cons]
    omega

/-- The beginning of a walk around the hull. -/
structure Walk (l h : List S23) : Prop where
  ne : 0 < h.length
  nodup : h.Nodup
  sub : ∀ p ∈ h, p ∈ l
  cor : ∀ p ∈ h, Cor l p
  first : ∀ r ∈ l, ¬ lt2 r (h[0]'ne)
  chain : ∀ i (hi : i + 1 < h.length), nxt l h[i] = h[i + 1]
/-- The whole walk: it comes back to its first corner. -/
structure Hulled (l h : List S23) : Prop extends Walk l h where
  back : nxt l (h[h.length - 1]'(by omega)) = h[0]'ne

theorem Walk.len {l h : List S23} (w : Walk l h) : h.length ≤ l.length := nodup_len w.nodup w.sub
theorem Walk.one {l : List S23} {c : S23} (hc : c ∈ l) (h : ∀ r ∈ l, ¬ lt2 r c) : Walk l [c] :=
  ⟨by simp, by simp, by simpa using hc, by simpa using Cor_first h, by simpa using h, fun i hi => by simp at hi⟩
/-- The first corner that comes again is the first one. -/
theorem Walk.again {l h : List S23} {n : Nat} (w : Walk l h) (hn : h.length = n + 1) (hm : nxt l (h[n]'(by omega)) ∈ h) : nxt l (h[n]'(by omega)) = h[0]'(by omega) := by
  obtain ⟨j, hj, ej⟩ := List.getElem_of_mem hm
  cases j with
  | zero => rw [← ej]
  | succ j =>
    have cn := w.cor h[n] (List.getElem_mem _)
    rcases nxt_good cn with ⟨e, all⟩ | ⟨mq, hne, gd⟩
    · rw [e]; exact (all _ (w.sub _ (List.getElem_mem (l := h) (n := 0) (by omega)))).symm
    · have ch := w.chain j hj
      have cj := w.cor h[j] (List.getElem_mem _)
      have ne' : ∀ (a b : Nat) (ha : a < h.length) (hb : b < h.length), a ≠ b → h[a] ≠ h[b] := fun a b ha hb hab e => hab ((List.getElem_inj w.nodup).1 e)
      rcases nxt_good cj with ⟨e, all⟩ | ⟨mq', hne', gd'⟩
      · rw [ch] at e
        exact absurd e (ne' (j + 1) j hj (by omega) (by omega))
      · rw [ch, ej] at gd' hne'
        have := nxt_inj cn cj (w.sub _ (List.getElem_mem _)) (w.sub _ (List.getElem_mem _)) mq hne hne' gd gd'
        exact absurd this (ne' n j (by omega) (by omega) (by omega))
theorem Walk.more {l h : List S23} {n : Nat} (w : Walk l h) (hn : h.length = n + 1) (hm : nxt l (h[n]'(by omega)) ∉ h) : Walk l (h ++ [nxt l (h[n]'(by omega))]) := by
  have cn := w.cor h[n] (List.getElem_mem _)
  rcases nxt_good cn with ⟨e, _⟩ | ⟨mq, hne, gd⟩
  · rw [e] at hm; exact absurd (List.getElem_mem _) hm
  · refine ⟨by simp, ?_, ?_, ?_, ?_, ?_⟩
    · rw [List.nodup_append]
      exact ⟨w.nodup, by simp, fun a ha b hb e => by rw [List.mem_singleton.1 hb] at e; rw [e] at ha; exact hm ha⟩
    · intro p hp
      rcases List.mem_append.1 hp with hp | hp
      · exact w.sub p hp
      · rw [List.mem_singleton.1 hp]; exact mq
    · intro p hp
      rcases List.mem_append.1 hp with hp | hp
      · exact w.cor p hp
      · rw [List.mem_singleton.1 hp]; exact Cor_next hne gd
    · intro r hr
      rw [List.getElem_append_left (by omega)]
      exact w.first r hr
    · intro i hi
      simp only [List.length_append, List.length_singleton] at hi
      rw [List.getElem_append_left (by omega)]
      by_cases c : i + 1 < h.length
      · rw [List.getElem_append_left c]; exact w.chain i c
      · have : i = n := by omega
        subst this
        rw [List.getElem_append_right (by omega)]
        simp
end Go.Proofs.Ytmilejcbkpkplaa.PAll
