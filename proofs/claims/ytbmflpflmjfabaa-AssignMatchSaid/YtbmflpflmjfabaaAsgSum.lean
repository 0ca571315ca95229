/- Sums over the rows, and that the order of the columns does not matter to them. -/
import Derived.Test.YtbmflpflmjfabaaMathNum
import Derived.Test.YtbmflpflmjfabaaAsgCost
import Derived.Test.YtbmflpflmjfabaaAsgAdd
namespace Go.Proofs.Ytbmflpflmjfabaa.PAll
set_option linter.unusedVariables false
open Go Go.RowKit Go.Proofs.YtbmflpflmjfabaaW.PrintWords Go.Proofs.YtbmflpflmjfabaaW.PrintLast Go.Proofs.YtbmflpflmjfabaaW.PrintMore Go.Proofs.Ytbmflpflmjfabaa.MathNum Go.Proofs.Ytbmflpflmjfabaa.EvWords

def sumTo (h : Nat → Int) : Nat → Int
  | 0 => 0
  | n + 1 => sumTo h n + h n
theorem sumTo_congr {g h : Nat → Int} (n : Nat) (e : ∀ i, i < n → g i = h i) : sumTo g n = sumTo h n := by
  induction n with
  | zero => rfl
  | succ n ih => simp only [sumTo]; rw [ih (fun i hi => e i (by omega)), e n (by omega)]
theorem sumTo_le {g h : Nat → Int} (n : Nat) (e : ∀ i, i < n → g i ≤ h i) : sumTo g n ≤ sumTo h n := by
  induction n with
  | zero => exact Int.le_refl _
  | succ n ih => simp only [sumTo]; have := ih (fun i hi => e i (by omega)); have := e n (by omega); omega
theorem sumTo_add {g h : Nat → Int} (n : Nat) : sumTo (fun i => g i + h i) n = sumTo g n + sumTo h n := by
  induction n with
  | zero => rfl
  | succ n ih => simp only [sumTo]; rw [ih]; omega
/-- If sums are equal and each term of one is at most that of the other, the terms are equal. -/
theorem sumTo_tight {g h : Nat → Int} (n : Nat) (e : ∀ i, i < n → g i ≤ h i) (s : sumTo h n ≤ sumTo g n) : ∀ i, i < n → g i = h i := by
  induction n with
  | zero => intro i hi; omega
  | succ n ih =>
    intro i hi
    simp only [sumTo] at s
    have a := sumTo_le n (fun i hi => e i (by omega : i < n + 1))
    have b := e n (by omega)
    by_cases h : i = n
    · subst h; omega
    · exact ih (fun i hi => e i (by omega)) (by omega) i (by omega)
theorem sumTo_one {h : Nat → Int} {a : Int} {i0 : Nat} (n : Nat) (hi : i0 < n) : sumTo (fun i => if i = i0 then a else h i) n = sumTo h n - h i0 + a := by
  induction n with
  | zero => omega
  | succ n ih =>
    simp only [sumTo]
    by_cases e : n = i0
    · subst e
      rw [if_pos rfl, sumTo_congr n (h := h) (fun i hi => if_neg (by omega))]; omega
    · rw [if_neg e, ih (by omega)]; omega
theorem surj {n : Nat} {f : Nat → Nat} (h1 : ∀ a, a < n → f a < n) (h2 : ∀ a b, a < n → b < n → f a = f b → a = b) : ∀ j, j < n → ∃ i, i < n ∧ f i = j := by
  intro j hj
  apply Classical.byContradiction
  intro hno
  have hall : ∀ i, i < n → f i ≠ j := fun i a b => hno ⟨i, a, b⟩
  have := pigeon n (n - 1) (fun a => if f a < j then f a else f a - 1) (fun a ha => by
    have x := h1 a ha
    have y := hall a ha
    show (if f a < j then f a else f a - 1) < n - 1
    split <;> omega) (fun a b ha hb e => by
    have y := hall a ha
    have z := hall b hb
    have e' : (if f a < j then f a else f a - 1) = (if f b < j then f b else f b - 1) := e
    apply h2 a b ha hb
    split at e' <;> split at e' <;> omega)
  omega
theorem sumTo_perm (n : Nat) : ∀ (f : Nat → Nat) (g : Nat → Int), (∀ a, a < n → f a < n) → (∀ a b, a < n → b < n → f a = f b → a = b) → sumTo (fun i => g (f i)) n = sumTo g n := by
  induction n with
  | zero => intro _ _ _ _; rfl
  | succ n ih =>
    intro f g h1 h2
    obtain ⟨i0, a0, e0⟩ := surj h1 h2 n (by omega)
    by_cases hn : i0 = n
    · subst hn
      simp only [sumTo]
      rw [ih f g (fun a ha => by have := h1 a (by omega); have : f a ≠ i0 := fun e => by have := h2 a i0 (by omega) (by omega) (by omega); omega
                                 omega) (fun a b ha hb => h2 a b (by omega) (by omega)), e0]
    · have hv : f n < n := by
        have := h1 n (by omega)
        have : f n ≠ n := fun e => hn (h2 i0 n a0 (by omega) (by omega))
        omega
      have key := ih (fun i => if i = i0 then f n else f i) g (fun a ha => by
        show (if a = i0 then f n else f a) < n
        by_cases e : a = i0
        · rw [if_pos e]; exact hv
        · rw [if_neg e]
          have := h1 a (by omega)
          have : f a ≠ n := fun e2 => e (h2 a i0 (by omega) a0 (by omega))
          omega) (fun a b ha hb e => by
        have e' : (if a = i0 then f n else f a) = (if b = i0 then f n else f b) := e
        by_cases ea : a = i0 <;> by_cases eb : b = i0
        · omega
        · rw [if_pos ea, if_neg eb] at e'
          have := h2 n b (by omega) (by omega) e'; omega
        · rw [if_neg ea, if_pos eb] at e'
          have := h2 a n (by omega) (by omega) e'; omega
        · rw [if_neg ea, if_neg eb] at e'
          exact h2 a b (by omega) (by omega) e')
      have k2 : sumTo (fun i => g (if i = i0 then f n else f i)) n = sumTo (fun i => if i = i0 then g (f n) else g (f i)) n := sumTo_congr n (fun i hi => by by_cases e : i = i0 <;> simp [e])
      rw [k2, sumTo_one n (by omega), e0] at key
      simp only [sumTo]
      omega

theorem csum_sum (c : List (List Int)) (l : List Int) (n : Nat) : csum c l n = sumTo (fun p => M c ((p : Int) + 1) (rd l p + 1)) n := by
  induction n with
  | zero => rfl
  | succ n ih => simp only [sumTo, csum, ih]

/-- The columns of an assignment, as a function. -/
theorem Asg.fn {l : List Int} {n : Nat} (h : Asg l n) : (∀ a, a < n → (rd l (a : Int)).toNat < n) ∧ (∀ a b, a < n → b < n → (rd l (a : Int)).toNat = (rd l (b : Int)).toNat → a = b) := by
  refine ⟨fun a ha => by have := h.2 a (by omega) (by omega); omega, fun a b ha hb e => ?_⟩
  have x := h.2 a (by omega) (by omega)
  have y := h.2 b (by omega) (by omega)
  apply Classical.byContradiction
  intro hne
  by_cases hlt : a < b
  · exact y.2.2 a (by omega) (by omega) (by omega)
  · exact x.2.2 b (by omega) (by omega) (by omega)
theorem Asg.sum {l : List Int} {n : Nat} (h : Asg l n) (g : Int → Int) : sumTo (fun p => g (rd l (p : Int))) n = sumTo (fun p => g (p : Int)) n := by
  rw [← sumTo_perm n (fun a => (rd l (a : Int)).toNat) (fun p => g (p : Int)) h.fn.1 h.fn.2]
  exact sumTo_congr n (fun i hi => by have := h.2 i (by omega) (by omega); show _ = g (((rd l (i : Int)).toNat : Nat) : Int); rw [Int.toNat_of_nonneg this.1])
theorem Asg.surj {l : List Int} {n : Nat} (h : Asg l n) {j : Int} (h0 : 0 ≤ j) (h1 : j < n) : ∃ i : Nat, i < n ∧ rd l (i : Int) = j := by
  obtain ⟨i, a, e⟩ := PAll.surj h.fn.1 h.fn.2 j.toNat (by omega)
  have := h.2 i (by omega) (by omega)
  exact ⟨i, a, by omega⟩

theorem rd_ofFn {n : Nat} {f : Nat → Int} {i : Nat} (hi : i < n) : rd ((List.range n).map f) (i : Int) = f i := by
  rw [rd_nat _ (by simpa using hi)]; simp
/-- A list from a function. -/
theorem asg_of {n : Nat} {f : Nat → Int} (h1 : ∀ i, i < n → 0 ≤ f i ∧ f i < n) (h2 : ∀ i j, i < n → j < n → f i = f j → i = j) : Asg ((List.range n).map f) n := by
  refine ⟨by simp, fun p a b => ?_⟩
  obtain ⟨m, rfl⟩ := Int.eq_ofNat_of_zero_le a
  have hm : m < n := by omega
  rw [rd_ofFn hm]
  refine ⟨(h1 m hm).1, (h1 m hm).2, fun q c d => ?_⟩
  obtain ⟨q, rfl⟩ := Int.eq_ofNat_of_zero_le c
  rw [rd_ofFn (by omega)]
  intro e
  have := h2 q m (by omega) hm e; omega

/-- m is the least cost of an assignment. -/
def IsMin (c : List (List Int)) (m : Int) : Prop := (∃ l, Asg l c.length ∧ csum c l c.length = m) ∧ ∀ l, Asg l c.length → m ≤ csum c l c.length
theorem IsMin.unique {c : List (List Int)} {m m' : Int} (h : IsMin c m) (h' : IsMin c m') : m = m' := by
  obtain ⟨l, a, e⟩ := h.1
  obtain ⟨l', a', e'⟩ := h'.1
  have := h.2 l' a'
  have := h'.2 l a
  omega
end Go.Proofs.Ytbmflpflmjfabaa.PAll
