/- What a reading leaves over is an end of the parts. -/
import Derived.Test.YtimikhbnihedkaaDoorZLngParse2
namespace Go.Proofs.YtimikhbnihedkaaDoor.PAll
set_option linter.unusedVariables false
set_option linter.unusedSectionVars false
set_option linter.unusedSimpArgs false
open Go Go.RowKit Go.Proofs.YtimikhbnihedkaaDoorW.PrintWords Go.Proofs.YtimikhbnihedkaaDoorW.PrintLast Go.Proofs.YtimikhbnihedkaaDoorW.PrintMore Go.Proofs.YtimikhbnihedkaaDoor.MathNum Go.Proofs.YtimikhbnihedkaaDoor.EvWords

/-- What is left over is an end of the list. -/
theorem clN_suf {op : Int} {ts : List Bs} {y : Int × List Bs} (h : clN op ts = some y) : ∃ p, ts = p ++ y.2 ∧ [] ∉ p := by
  unfold clN at h
  by_cases h5 : op ≥ 5
  · rw [if_pos h5] at h
    match ts, h with
    | m :: t :: r, h =>
      simp only at h
      split at h
      · rename_i hc
        injection h with h; subst h
        obtain ⟨c1, c2, c3⟩ := hc
        cases r with
        | nil => cases c3
        | cons a r =>
          injection c3 with c3
          refine ⟨[m, t, a], rfl, ?_⟩
          subst c1 c3
          have : t ≠ [] := fun q => by rw [q] at c2; cases c2
          simp only [List.mem_cons, List.not_mem_nil, or_false, not_or]
          exact ⟨by decide, fun q => this q.symm, by decide⟩
      · cases h
  · rw [if_neg h5] at h
    split at h
    · rename_i hc
      injection h with h; subst h
      cases ts with
      | nil => cases hc
      | cons a r =>
        injection hc with hc; subst hc
        exact ⟨[[41]], rfl, by decide⟩
    · cases h
theorem pT_suf (n : Nat) : (∀ ts x, pT n ts = some x → ∃ p, ts = p ++ x.2 ∧ [] ∉ p) ∧ (∀ op ts x, pA n op ts = some x → ∃ p, ts = p ++ x.2 ∧ [] ∉ p) := by
  induction n with
  | zero => exact ⟨fun ts x h => by simp [pT] at h, fun op ts x h => by simp [pA] at h⟩
  | succ n ih =>
    constructor
    · intro ts x h
      cases ts with
      | nil => simp [pT] at h
      | cons t ts =>
        simp only [pT] at h
        split at h
        · rename_i ht
          have tne : t ≠ [] := fun q => by rw [q] at ht; cases ht
          split at h
          · rename_i h40
            split at h
            · cases h
            · obtain ⟨u, hu, h⟩ := Option.bind_eq_some_iff.1 h
              obtain ⟨y, hy, h⟩ := Option.bind_eq_some_iff.1 h
              injection h with h; subst h
              cases ts with
              | nil => cases h40
              | cons m ts =>
                injection h40 with h40; subst h40
                obtain ⟨p, hp, hpe⟩ := ih.2 _ _ _ hu
                obtain ⟨q, hq, hqe⟩ := clN_suf hy
                simp only [List.tail_cons] at hp
                refine ⟨t :: [40] :: (p ++ q), by rw [hp, hq]; simp, ?_⟩
                simp only [List.mem_cons, List.mem_append, not_or]
                exact ⟨fun q => tne q.symm, by decide, hpe, hqe⟩
          · injection h with h; subst h
            exact ⟨[t], rfl, by simp only [List.mem_singleton]; exact fun q => tne q.symm⟩
        · cases h
    · intro op ts x h
      simp only [pA] at h
      obtain ⟨u, hu, h⟩ := Option.bind_eq_some_iff.1 h
      obtain ⟨p, hp, hpe⟩ := ih.1 _ _ hu
      split at h
      · rename_i hc
        obtain ⟨y, hy, h⟩ := Option.bind_eq_some_iff.1 h
        injection h with h; subst h
        obtain ⟨q, hq, hqe⟩ := ih.2 _ _ _ hy
        cases hu2 : u.2 with
        | nil => rw [hu2] at hc; exact absurd hc.2 (by decide)
        | cons m r =>
          rw [hu2] at hq hc hp
          obtain ⟨_, hc2⟩ := hc
          injection hc2 with hc2; subst hc2
          simp only [List.tail_cons] at hq
          refine ⟨p ++ [44] :: q, by rw [hp, hq]; simp, ?_⟩
          simp only [List.mem_append, List.mem_cons, not_or]
          exact ⟨hpe, by decide, hqe⟩
      · injection h with h; subst h
        exact ⟨p, hp, hpe⟩
theorem pT_sub (n : Nat) (ts : List Bs) (x : (S43 × Fo) × List Bs) (h : pT n ts = some x) (he : [] ∉ ts) : [] ∉ x.2 := by
  obtain ⟨p, hp, _⟩ := (pT_suf n).1 ts x h
  exact fun q => he (by rw [hp]; exact List.mem_append_right _ q)
end Go.Proofs.YtimikhbnihedkaaDoor.PAll
