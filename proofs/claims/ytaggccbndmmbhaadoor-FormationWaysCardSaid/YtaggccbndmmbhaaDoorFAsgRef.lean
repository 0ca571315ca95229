/- The reference's Solve, over sets of used columns, for tables of at most 8 rows. -/
import Derived.Test.YtaggccbndmmbhaaDoorBase
import Derived.Test.YtaggccbndmmbhaaDoorPAllf71
import Derived.Test.YtaggccbndmmbhaaDoorFit
namespace Go.Proofs.YtaggccbndmmbhaaDoor.PAll
set_option linter.unusedVariables false
open Go Go.RowKit Go.Proofs.YtaggccbndmmbhaaDoorW.PrintWords Go.Proofs.YtaggccbndmmbhaaDoorW.PrintLast Go.Proofs.YtaggccbndmmbhaaDoorW.PrintMore Go.Proofs.YtaggccbndmmbhaaDoor.MathNum Go.Proofs.YtaggccbndmmbhaaDoor.EvWords

/-- How many columns are in a set. -/
def pop (s : Nat) : Nat := s % 2 + s / 2 % 2 + s / 4 % 2 + s / 8 % 2 + s / 16 % 2 + s / 32 % 2 + s / 64 % 2 + s / 128 % 2
def has (s j : Nat) : Bool := s / 2 ^ j % 2 == 1

theorem f_and : ∀ s : Nat, s < 256 → ∀ j : Nat, j < 8 → (Go.bits .and .i64 (s : Int) (shl .i64 1 (j : Int)) = 0 ↔ has s j = false) := by decide +kernel
theorem f_or : ∀ s : Nat, s < 256 → ∀ j : Nat, j < 8 → has s j = false → Go.bits .or .i64 (s : Int) (shl .i64 1 (j : Int)) = ((s + 2 ^ j : Nat) : Int) := by decide +kernel
theorem f_lt : ∀ n, n < 9 → ∀ s, s < 2 ^ n → ∀ j, j < n → has s j = false → s + 2 ^ j < 2 ^ n := by decide +kernel
theorem f_pop : ∀ s : Nat, s < 256 → ∀ j : Nat, j < 8 → has s j = false → pop (s + 2 ^ j) = pop s + 1 := by decide +kernel
theorem f_has : ∀ s : Nat, s < 256 → ∀ j : Nat, j < 8 → has s j = false → ∀ q, q < 8 → has (s + 2 ^ j) q = (has s q || q == j) := by decide +kernel
theorem f_free : ∀ n, n < 9 → ∀ s, s < 2 ^ n → s + 1 < 2 ^ n → pop s < n ∧ ∃ j, j < n ∧ has s j = false := by decide +kernel
theorem f_full : ∀ n, n < 9 → pop (2 ^ n - 1) = n ∧ ∀ j, j < n → has (2 ^ n - 1) j = true := by decide +kernel
theorem f_le : ∀ n, n < 9 → 2 ^ n ≤ 256 ∧ 1 ≤ 2 ^ n := by decide +kernel
theorem f_zero : ∀ j : Nat, j < 8 → has 0 j = false := by decide +kernel
set_option maxRecDepth 100000 in
theorem size_all : ∀ s : Nat, s < 256 → dancestudioref11_size.f 12 (s : Int) = some (pop s : Int) := by decide +kernel
theorem dancestudioref11_size.mono_l : ∀ k, (∀ y0 y1, LeO (dancestudioref11_size.l0 k y0 y1) (dancestudioref11_size.l0 (k + 1) y0 y1))
 | 0 => fun _ _ r h => by simp [dancestudioref11_size.l0] at h
 | k + 1 => by
  have ih0 := dancestudioref11_size.mono_l k
  ·
   intro y0 y1
   unfold dancestudioref11_size.l0
   repeat' first
   | (with_reducible exact ih0 _ _)
   | (with_reducible exact LeO.refl _)
   | (with_reducible exact LeO.none _)
   | (with_reducible refine LeO.ite ?_ ?_)
   | (with_reducible refine LeO.bind ?_ (fun _ => ?_))
   | exact ih0 _ _
   | exact LeO.none _
   | refine LeO.ite ?_ ?_
   | refine LeO.bind ?_ (fun _ => ?_)
theorem dancestudioref11_size.mono : ∀ a0 k, LeO (dancestudioref11_size.f k a0) (dancestudioref11_size.f (k + 1) a0) := by
 intro a0 k
 have ih0 := dancestudioref11_size.mono_l k
 unfold dancestudioref11_size.f
 repeat' first
   | (with_reducible exact ih0 _ _)
   | (with_reducible exact LeO.refl _)
   | (with_reducible exact LeO.none _)
   | (with_reducible refine LeO.ite ?_ ?_)
   | (with_reducible refine LeO.bind ?_ (fun _ => ?_))
   | exact ih0 _ _
   | exact LeO.none _
   | refine LeO.ite ?_ ?_
   | refine LeO.bind ?_ (fun _ => ?_)
theorem size_ev {s : Nat} (h : s < 256) : Ev (fun k => dancestudioref11_size.f k (s : Int)) (pop s : Int) := Ev.of (dancestudioref11_size.mono _) (size_all s h)
attribute [local irreducible] rd M rdOf pop has

/-- A completion: columns of the rows from i on, none of a set. -/
structure Cpl (n i s : Nat) (l : List Int) : Prop where
  len : l.length + i = n
  rng : ∀ p : Nat, p + i < n → 0 ≤ rd l p ∧ rd l p < n ∧ has s (rd l p).toNat = false
  inj : ∀ p q : Nat, p < q → q + i < n → rd l p ≠ rd l q
def fsum (c : List (List Int)) (n i : Nat) (l : List Int) : Int := sumTo (fun p => M c (((p + i : Nat) : Int) + 1) (rd l p + 1)) (n - i)
def MinF (c : List (List Int)) (n i s : Nat) (m : Int) : Prop := (∃ l, Cpl n i s l ∧ fsum c n i l = m) ∧ ∀ l, Cpl n i s l → m ≤ fsum c n i l
structure BestF (c : List (List Int)) (n i s : Nat) (l : List Int) (m : Int) : Prop where
  cpl : Cpl n i s l
  cost : fsum c n i l = m
  min : ∀ l', Cpl n i s l' → m ≤ fsum c n i l'
  lex : ∀ l', Cpl n i s l' → fsum c n i l' = m → ∀ a : Nat, a + i < n → (∀ p : Nat, p < a → rd l' p = rd l p) → rd l a ≤ rd l' a

section
variable {c : List (List Int)} {n i s : Nat}

theorem cpl_cons (hn : n < 9) (hs : s < 2 ^ n) (hi : i < n) {j : Nat} (hj : j < n) (hb : has s j = false) {l : List Int} (h : Cpl n (i + 1) (s + 2 ^ j) l) : Cpl n i s ((j : Int) :: l) := by
  have h256 := (f_le n hn).1
  have old : ∀ p : Nat, p + (i + 1) < n → 0 ≤ rd l p ∧ rd l p < n ∧ has s (rd l p).toNat = false ∧ rd l p ≠ j := by
    intro p hp
    have x := h.rng p hp
    have y := f_has s (by omega) j (by omega) hb (rd l p).toNat (by omega)
    rw [x.2.2] at y
    have z := y.symm
    rw [Bool.or_eq_false_iff] at z
    refine ⟨x.1, x.2.1, z.1, fun e => ?_⟩
    have z2 := z.2
    rw [e] at z2
    simp at z2
  refine ⟨by have := h.len; rw [List.length_cons]; omega, fun p hp => ?_, fun p q hpq hq => ?_⟩
  · by_cases e : p = 0
    · subst e
      show 0 ≤ rd ((j : Int) :: l) 0 ∧ rd ((j : Int) :: l) 0 < n ∧ has s (rd ((j : Int) :: l) 0).toNat = false
      rw [rd_cons0]
      exact ⟨by omega, by omega, hb⟩
    · have := old (p - 1) (by omega)
      rw [rd_cons (by omega), show (p : Int) - 1 = ((p - 1 : Nat) : Int) by omega]
      exact ⟨this.1, this.2.1, this.2.2.1⟩
  · by_cases e : p = 0
    · subst e
      show rd ((j : Int) :: l) 0 ≠ _
      rw [rd_cons0, rd_cons (by omega), show (q : Int) - 1 = ((q - 1 : Nat) : Int) by omega]
      exact (old (q - 1) (by omega)).2.2.2.symm
    · rw [rd_cons (by omega), rd_cons (by omega), show (q : Int) - 1 = ((q - 1 : Nat) : Int) by omega, show (p : Int) - 1 = ((p - 1 : Nat) : Int) by omega]
      exact h.inj (p - 1) (q - 1) (by omega) (by omega)
theorem fsum_cons (hi : i < n) {j : Nat} {l : List Int} : fsum c n i ((j : Int) :: l) = M c ((i : Int) + 1) ((j : Int) + 1) + fsum c n (i + 1) l := by
  unfold fsum
  rw [show n - i = (n - (i + 1)) + 1 by omega, sumTo_front]
  congr 1
  · show M c _ (rd ((j : Int) :: l) 0 + 1) = _
    rw [rd_cons0, Nat.zero_add]
  · refine sumTo_congr _ fun p hp => ?_
    rw [rd_cons (by omega), show (((p + 1 : Nat) : Int) - 1) = (p : Int) by omega, show p + 1 + i = p + (i + 1) by omega]
theorem cpl_uncons (hn : n < 9) (hs : s < 2 ^ n) (hi : i < n) {l : List Int} (h : Cpl n i s l) : ∃ (j : Nat) (l' : List Int), j < n ∧ has s j = false ∧ l = (j : Int) :: l' ∧ Cpl n (i + 1) (s + 2 ^ j) l' := by
  have h256 := (f_le n hn).1
  cases l with
  | nil => have := h.len; rw [List.length_nil] at this; omega
  | cons a l =>
    have x := h.rng 0 (by omega)
    have x' : 0 ≤ rd (a :: l) 0 ∧ rd (a :: l) 0 < n ∧ has s (rd (a :: l) 0).toNat = false := x
    rw [rd_cons0] at x'
    have sh : ∀ p : Nat, rd (a :: l) ((p + 1 : Nat) : Int) = rd l p := fun p => by rw [rd_cons (by omega), show ((p + 1 : Nat) : Int) - 1 = p by omega]
    refine ⟨a.toNat, l, by omega, x'.2.2, by rw [Int.toNat_of_nonneg x'.1], by have := h.len; rw [List.length_cons] at this; omega, fun p hp => ?_, fun p q hpq hq => ?_⟩
    · have y := h.rng (p + 1) (by omega)
      rw [sh p] at y
      refine ⟨y.1, y.2.1, ?_⟩
      rw [f_has s (by omega) a.toNat (by omega) x'.2.2 (rd l p).toNat (by omega), y.2.2]
      have := h.inj 0 (p + 1) (by omega) (by omega)
      rw [sh p] at this
      have this' : rd (a :: l) 0 ≠ rd l p := this
      rw [rd_cons0] at this'
      simp; omega
    · have := h.inj (p + 1) (q + 1) (by omega) (by omega)
      rwa [sh p, sh q] at this

theorem MinF.unique {m m' : Int} (h : MinF c n i s m) (h' : MinF c n i s m') : m = m' := by
  obtain ⟨l, a, e⟩ := h.1
  obtain ⟨l', a', e'⟩ := h'.1
  have := h.2 l' a'
  have := h'.2 l a
  omega
theorem MinF.rng (T : Tab c n) {m : Int} (h : MinF c n i s m) : 0 ≤ m ∧ m ≤ 17592186044416 := by
  obtain ⟨l, a, e⟩ := h.1
  have hn := T.le
  have b : ∀ d : Nat, d + i ≤ n → 0 ≤ sumTo (fun p => M c (((p + i : Nat) : Int) + 1) (rd l p + 1)) d ∧ sumTo (fun p => M c (((p + i : Nat) : Int) + 1) (rd l p + 1)) d ≤ d * 1099511627776 := by
    intro d
    induction d with
    | zero => intro _; simp [sumTo]
    | succ d ih =>
      intro hd
      have x := ih (by omega)
      have y := a.rng d (by omega)
      have m0 := T.lo (((d + i : Nat) : Int) + 1) (rd l d + 1) (by omega) (by omega) (by omega) (by omega)
      have m1 := T.hi (((d + i : Nat) : Int) + 1) (rd l d + 1) (by omega) (by omega) (by omega) (by omega)
      simp only [sumTo]
      omega
  have := a.len
  have := b (n - i) (by omega)
  unfold fsum at e
  omega
theorem BestF.minF {l : List Int} {m : Int} (h : BestF c n i s l m) : MinF c n i s m := ⟨⟨l, h.cpl, h.cost⟩, h.min⟩

/-- The least cost from a set on, from those of the greater sets. -/
theorem minF_step (hn : n < 9) (hs : s < 2 ^ n) (hi : i < n) {R : Nat → Int} (hR : ∀ j, j < n → has s j = false → MinF c n (i + 1) (s + 2 ^ j) (R j)) {j0 : Nat} (h0 : j0 < n) (hb : has s j0 = false)
    (hmin : ∀ j, j < n → has s j = false → M c ((i : Int) + 1) ((j0 : Int) + 1) + R j0 ≤ M c ((i : Int) + 1) ((j : Int) + 1) + R j) : MinF c n i s (M c ((i : Int) + 1) ((j0 : Int) + 1) + R j0) := by
  refine ⟨?_, fun l h => ?_⟩
  · obtain ⟨l, a, e⟩ := (hR j0 h0 hb).1
    exact ⟨(j0 : Int) :: l, cpl_cons hn hs hi h0 hb a, by rw [fsum_cons hi, e]⟩
  · obtain ⟨j, l', hj, hbj, rfl, h'⟩ := cpl_uncons hn hs hi h
    rw [fsum_cons hi]
    have := (hR j hj hbj).2 l' h'
    have := hmin j hj hbj
    omega

theorem bestF_cons (hn : n < 9) (hs : s < 2 ^ n) (hi : i < n) {j : Nat} (hj : j < n) (hb : has s j = false) {l : List Int} {m m' : Int} (hm : MinF c n i s m) (B : BestF c n (i + 1) (s + 2 ^ j) l m') (e : M c ((i : Int) + 1) ((j : Int) + 1) + m' = m)
    (hfirst : ∀ q, q < j → has s q = false → ∀ m'', MinF c n (i + 1) (s + 2 ^ q) m'' → M c ((i : Int) + 1) ((q : Int) + 1) + m'' ≠ m) : BestF c n i s ((j : Int) :: l) m := by
  refine ⟨cpl_cons hn hs hi hj hb B.cpl, by rw [fsum_cons hi, B.cost, e], hm.2, fun l' h he a ha hp => ?_⟩
  obtain ⟨q, r, hq, hbq, rfl, h'⟩ := cpl_uncons hn hs hi h
  rw [fsum_cons hi] at he
  have hge : j ≤ q := by
    apply Classical.byContradiction
    intro hlt
    refine hfirst q (by omega) hbq (fsum c n (i + 1) r) ⟨⟨r, h', rfl⟩, fun r' h'' => ?_⟩ he
    have := hm.2 _ (cpl_cons hn hs hi hq hbq h'')
    rw [fsum_cons hi] at this
    omega
  by_cases ea : a = 0
  · subst ea
    show rd ((j : Int) :: l) 0 ≤ rd ((q : Int) :: r) 0
    rw [rd_cons0, rd_cons0]; omega
  · have e0 : rd ((q : Int) :: r) 0 = rd ((j : Int) :: l) 0 := hp 0 (by omega)
    rw [rd_cons0, rd_cons0] at e0
    have eq : q = j := by omega
    subst eq
    rw [rd_cons (by omega), rd_cons (by omega), show (a : Int) - 1 = ((a - 1 : Nat) : Int) by omega]
    refine B.lex r h' (by omega) (a - 1) (by omega) (fun p hp' => ?_)
    have := hp (p + 1) (by omega)
    rwa [rd_cons (by omega), rd_cons (by omega), show ((p + 1 : Nat) : Int) - 1 = p by omega] at this
theorem bestF_full : BestF c n n s [] 0 := by
  have z : ∀ l', fsum c n n l' = 0 := fun l' => by unfold fsum; rw [Nat.sub_self]; rfl
  exact ⟨⟨by simp, fun p hp => by omega, fun p q _ hq => by omega⟩, z _, fun l' _ => by rw [z]; exact Int.le_refl _, fun l' _ _ a ha => by omega⟩
theorem best_of {l : List Int} {m : Int} (hn : n < 9) (B : BestF c n 0 0 l m) : Best c n l m := by
  have hto : ∀ l', Asg l' n → Cpl n 0 0 l' := by
    intro l' h
    have hl := h.1
    refine ⟨by omega, fun p hp => ?_, fun p q hpq hq => (h.2 q (by omega) (by omega)).2.2 p (by omega) (by omega)⟩
    have x := h.2 p (by omega) (by omega)
    exact ⟨x.1, x.2.1, f_zero _ (by omega)⟩
  have fs : ∀ l', fsum c n 0 l' = csum c l' n := fun l' => by unfold fsum; rw [csum_sum]; rfl
  refine ⟨⟨by have := B.cpl.len; omega, fun p a b => ?_⟩, by rw [← fs]; exact B.cost, fun l' h => by rw [← fs]; exact B.min l' (hto l' h), fun l' h e a ha hp => B.lex l' (hto l' h) (by rw [fs]; exact e) a (by omega) hp⟩
  obtain ⟨p, rfl⟩ := Int.eq_ofNat_of_zero_le a
  have x := B.cpl.rng p (by omega)
  refine ⟨x.1, x.2.1, fun q d e => ?_⟩
  obtain ⟨q, rfl⟩ := Int.eq_ofNat_of_zero_le d
  exact B.cpl.inj q p (by omega) (by omega)
end
end Go.Proofs.YtaggccbndmmbhaaDoor.PAll
