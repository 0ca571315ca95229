/- The first that is found; the first leaf of a tree that is searched in depth. -/
import Derived.Test.YtjppjppapdflmaaRehValidP
namespace Go.Proofs.Ytjppjppapdflmaa.PAll
set_option linter.unusedVariables false
set_option linter.unusedSectionVars false
set_option linter.unusedSimpArgs false
open Go Go.RowKit Go.Proofs.YtjppjppapdflmaaW.PrintWords Go.Proofs.YtjppjppapdflmaaW.PrintLast Go.Proofs.YtjppjppapdflmaaW.PrintMore Go.Proofs.Ytjppjppapdflmaa.MathNum Go.Proofs.Ytjppjppapdflmaa.EvWords

def ff {α : Type} (f : Nat → Option α) : Nat → Nat → Option α
 | 0, _ => none
 | m + 1, r => match f r with
   | some x => some x
   | none => ff f m (r + 1)
theorem ff_none {α : Type} {f : Nat → Option α} : ∀ {m r : Nat}, ff f m r = none ↔ ∀ j, r ≤ j → j < r + m → f j = none
 | 0, r => ⟨fun _ j h1 h2 => by omega, fun _ => rfl⟩
 | m + 1, r => by
  unfold ff
  cases h : f r with
  | some x => exact ⟨fun q => (by cases q), fun q => (by have := q r (Nat.le_refl _) (by omega); rw [h] at this; cases this)⟩
  | none =>
    refine (ff_none (m := m) (r := r + 1)).trans ⟨fun q j h1 h2 => ?_, fun q j h1 h2 => q j (by omega) (by omega)⟩
    by_cases e : j = r
    · rw [e]; exact h
    · exact q j (by omega) (by omega)
theorem ff_some {α : Type} {f : Nat → Option α} {x : α} : ∀ {m r : Nat}, ff f m r = some x → ∃ j, r ≤ j ∧ j < r + m ∧ f j = some x ∧ ∀ i, r ≤ i → i < j → f i = none
 | 0, r, h => by cases h
 | m + 1, r, h => by
  unfold ff at h
  cases h0 : f r with
  | some y => rw [h0] at h; exact ⟨r, Nat.le_refl _, by omega, h0.trans h, fun i h1 h2 => by omega⟩
  | none =>
    rw [h0] at h
    obtain ⟨j, h1, h2, h3, h4⟩ := ff_some (m := m) (r := r + 1) h
    refine ⟨j, by omega, by omega, h3, fun i q1 q2 => ?_⟩
    by_cases e : i = r
    · rw [e]; exact h0
    · exact h4 i (by omega) q2
theorem ff_congr {α : Type} {f g : Nat → Option α} : ∀ {m r : Nat}, (∀ j, r ≤ j → j < r + m → f j = g j) → ff f m r = ff g m r
 | 0, r, _ => rfl
 | m + 1, r, h => by
  unfold ff
  rw [h r (Nat.le_refl _) (by omega), ff_congr (m := m) (r := r + 1) (fun j h1 h2 => h j (by omega) (by omega))]
theorem ff_skip {α : Type} {f : Nat → Option α} : ∀ {d m r : Nat}, (∀ j, r ≤ j → j < r + d → f j = none) → ff f (d + m) r = ff f m (r + d)
 | 0, m, r, _ => by rw [Nat.zero_add, Nat.add_zero]
 | d + 1, m, r, h => by
  rw [show d + 1 + m = (d + m) + 1 by omega, show r + (d + 1) = r + 1 + d by omega]
  rw [ff, h r (Nat.le_refl _) (by omega)]
  exact ff_skip (d := d) (m := m) (r := r + 1) (fun j h1 h2 => h j (by omega) (by omega))
/-- Depth first: c candidates, each taken where ok says so. -/
def dfs (c : Nat) (ok : List Int → Nat → Bool) : Nat → List Int → Option (List Int)
 | 0, p => some p
 | d + 1, p => ff (fun r => if ok p r = true then dfs c ok d (p ++ [(r : Int)]) else none) c 0
/-- A way down from p to q. -/
inductive Way (c : Nat) (ok : List Int → Nat → Bool) : Nat → List Int → List Int → Prop
 | done (p : List Int) : Way c ok 0 p p
 | step (d : Nat) (p q : List Int) (r : Nat) (hr : r < c) (ho : ok p r = true) (h : Way c ok d (p ++ [(r : Int)]) q) : Way c ok (d + 1) p q
theorem dfs_way {c : Nat} {ok : List Int → Nat → Bool} : ∀ {d : Nat} {p q : List Int}, dfs c ok d p = some q → Way c ok d p q
 | 0, p, q, h => by
  unfold dfs at h
  injection h with h; subst h; exact .done p
 | d + 1, p, q, h => by
  unfold dfs at h
  obtain ⟨r, _, hr, h3, _⟩ := ff_some h
  by_cases ho : ok p r = true
  · rw [if_pos ho] at h3; exact .step d p q r (by omega) ho (dfs_way h3)
  · rw [if_neg ho] at h3; cases h3
theorem way_dfs {c : Nat} {ok : List Int → Nat → Bool} {d : Nat} {p q : List Int} (h : Way c ok d p q) : dfs c ok d p ≠ none := by
  induction h with
  | done p => unfold dfs; simp
  | step d p q r hr ho h ih =>
    unfold dfs
    intro k
    have := ff_none.1 k r (Nat.zero_le _) (by omega)
    rw [if_pos ho] at this
    exact ih this
theorem way_pre {c : Nat} {ok : List Int → Nat → Bool} {d : Nat} {p q : List Int} (h : Way c ok d p q) : p <+: q ∧ q.length = p.length + d := by
  induction h with
  | done p => exact ⟨List.prefix_refl _, rfl⟩
  | step d p q r hr ho h ih =>
    refine ⟨List.IsPrefix.trans (List.prefix_append _ _) ih.1, ?_⟩
    rw [ih.2, List.length_append, List.length_singleton]; omega
/-- What a way's steps were. -/
theorem way_at {c : Nat} {ok : List Int → Nat → Bool} {d : Nat} {p q : List Int} (h : Way c ok d p q) : ∀ k, p.length ≤ k → k < q.length → ∃ r : Nat, r < c ∧ rd q k = r ∧ ok (q.take k) r = true := by
  induction h with
  | done p => intro k h1 h2; omega
  | step d p q r hr ho h ih =>
    intro k h1 h2
    by_cases e : k = p.length
    · subst e
      obtain ⟨s, rfl⟩ := (way_pre h).1
      refine ⟨r, hr, ?_, ?_⟩
      · rw [rdI _ h2]; simp
      · rw [List.append_assoc, List.take_left' rfl]; exact ho
    · exact ih k (by rw [List.length_append, List.length_singleton]; omega) h2
theorem way_of {c : Nat} {ok : List Int → Nat → Bool} {q : List Int} (h : ∀ k, k < q.length → ∃ r : Nat, r < c ∧ rd q k = r ∧ ok (q.take k) r = true) : ∀ d j, j + d = q.length → Way c ok d (q.take j) q
 | 0, j, e => by
  obtain rfl : j = q.length := by omega
  rw [List.take_length]; exact .done q
 | d + 1, j, e => by
  obtain ⟨r, h1, h2, h3⟩ := h j (by omega)
  refine .step d _ _ r h1 h3 ?_
  have := way_of h d (j + 1) (by omega)
  rwa [List.take_succ_eq_append_getElem (show j < q.length by omega), ← rdI q (show j < q.length by omega), h2] at this
/-- The way that is found is the least, in the lexicographic order. -/
theorem dfs_least {c : Nat} {ok : List Int → Nat → Bool} : ∀ {d : Nat} {p q q' : List Int}, dfs c ok d p = some q → Way c ok d p q' → q = q' ∨ ∃ j, p.length ≤ j ∧ j < q.length ∧ rd q j < rd q' j ∧ q.take j = q'.take j
 | 0, p, q, q', h, w => by
  cases w
  unfold dfs at h
  injection h with h; exact .inl h.symm
 | d + 1, p, q, q', h, w => by
  unfold dfs at h
  obtain ⟨r, _, hr, h3, h4⟩ := ff_some h
  by_cases ho : ok p r = true
  · rw [if_pos ho] at h3
    cases w with
    | step _ _ _ r' hr' ho' w' =>
      have hn : ¬ r' < r := fun hlt => by
        have := h4 r' (Nat.zero_le _) hlt
        rw [if_pos ho'] at this
        exact way_dfs w' this
      by_cases e : r' = r
      · subst e
        refine (dfs_least h3 w').imp id ?_
        rintro ⟨j, h1, h2, h5, h6⟩
        rw [List.length_append, List.length_singleton] at h1
        exact ⟨j, by omega, h2, h5, h6⟩
      · obtain ⟨⟨s, e1⟩, l1⟩ := way_pre (dfs_way h3)
        obtain ⟨⟨s', e2⟩, l2⟩ := way_pre w'
        rw [List.length_append, List.length_singleton] at l1 l2
        refine .inr ⟨p.length, Nat.le_refl _, by omega, ?_, ?_⟩
        · rw [rdI q (by omega), rdI q' (by omega)]
          simp only [← e1, ← e2, List.append_assoc]
          simp; omega
        · rw [← e1, ← e2, List.append_assoc, List.append_assoc, List.take_left' rfl, List.take_left' rfl]
  · rw [if_neg ho] at h3; cases h3
/-- What is asked besides, of each step, and what a way down has anyhow, changes nothing. -/
theorem dfs_more {c : Nat} {ok ex : List Int → Nat → Bool} {n : Nat} (h : ∀ (d : Nat) (p : List Int) (r : Nat) (q : List Int), (p ++ [(r : Int)]).length + d = n → Way c ok d (p ++ [(r : Int)]) q → ex p r = true) : ∀ (d : Nat) (p : List Int), p.length + d = n → dfs c (fun p r => ok p r && ex p r) d p = dfs c ok d p
 | 0, p, _ => rfl
 | d + 1, p, hl => by
  unfold dfs
  refine ff_congr fun r _ hr => ?_
  have hl' : (p ++ [(r : Int)]).length + d = n := by rw [List.length_append, List.length_singleton]; omega
  cases ho : ok p r with
  | false => simp
  | true =>
    cases he : ex p r with
    | true => rw [Bool.and_self, if_pos rfl, if_pos rfl]; exact dfs_more h d _ hl'
    | false =>
      rw [if_pos rfl, if_neg (by simp)]
      cases hd : dfs c ok d (p ++ [(r : Int)]) with
      | none => rfl
      | some q => have := h d p r q hl' (dfs_way hd); rw [he] at this; cases this
def res (p : List Int) : Option (List Int) → List Int × Bool
 | some q => (q, true)
 | none => (p, false)
/-- A condition for all of k .. k + e - 1. -/
def allR (f : Nat → Bool) : Nat → Nat → Bool
 | _, 0 => true
 | k, e + 1 => f k && allR f (k + 1) e
theorem allR_iff {f : Nat → Bool} : ∀ {e k : Nat}, allR f k e = true ↔ ∀ j, k ≤ j → j < k + e → f j = true
 | 0, k => ⟨fun _ j h1 h2 => by omega, fun _ => rfl⟩
 | e + 1, k => by
  unfold allR
  rw [Bool.and_eq_true, allR_iff (e := e) (k := k + 1)]
  constructor
  · rintro ⟨h0, h⟩ j h1 h2
    by_cases q : j = k
    · rw [q]; exact h0
    · exact h j (by omega) (by omega)
  · intro h
    exact ⟨h k (Nat.le_refl _) (by omega), fun j h1 h2 => h j (by omega) (by omega)⟩
end Go.Proofs.Ytjppjppapdflmaa.PAll
