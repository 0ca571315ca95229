/- Check and Size of package match, in the seat of another chapter. -/
import Derived.Test.YtbmflpflmjfabaaPAllx0
import Derived.Test.YtbmflpflmjfabaaPAllf22
import Derived.Test.YtbmflpflmjfabaaPAllf28
import Derived.Test.YtbmflpflmjfabaaMMatGreat
namespace Go.Proofs.Ytbmflpflmjfabaa.PAll.Mat
set_option linter.unusedVariables false
open Go Go.RowKit Go.Proofs.YtbmflpflmjfabaaW.PrintWords Go.Proofs.YtbmflpflmjfabaaW.PrintLast Go.Proofs.YtbmflpflmjfabaaW.PrintMore Go.Proofs.Ytbmflpflmjfabaa.MathNum Go.Proofs.Ytbmflpflmjfabaa.EvWords


/-- The number of columns, by the first row. -/
def colsOf (l : List (List Bool)) : Nat := (rd_L3 l 0).length
theorem colsOf_nil {l : List (List Bool)} (h : l.length = 0) : colsOf l = 0 := by
  rw [List.eq_nil_of_length_eq_zero h]; rfl
/-- The error of a table. -/
def chk (l : List (List Bool)) : Int := if 24 < l.length ∨ 24 < colsOf l then 3 else if ∀ r, r < l.length → (rd_L3 l (r : Int)).length = colsOf l then 0 else 2
theorem chk_tab {l : List (List Bool)} (h : chk l = 0) : Tab l (colsOf l) := by
  unfold chk at h
  by_cases h1 : 24 < l.length ∨ 24 < colsOf l
  · rw [if_pos h1] at h; omega
  · rw [if_neg h1] at h
    by_cases h2 : ∀ r, r < l.length → (rd_L3 l (r : Int)).length = colsOf l
    · exact ⟨by omega, by omega, h2, colsOf_nil⟩
    · rw [if_neg h2] at h; omega
theorem tab_chk {l : List (List Bool)} {m : Nat} (h : Tab l m) : chk l = 0 ∧ colsOf l = m := by
  have hm : colsOf l = m := by
    by_cases hz : l.length = 0
    · rw [colsOf_nil hz, h.none hz]
    · exact h.wide 0 (by omega)
  refine ⟨?_, hm⟩
  unfold chk
  rw [if_neg (by have := h.rows; have := h.cols; omega), if_pos (by rw [hm]; exact h.wide)]
theorem chk_loop {l : List (List Bool)} (hl : l.length ≤ 24) {R : Int} (hy : (∀ r, r < l.length → (rd_L3 l (r : Int)).length = colsOf l) → R = 0) (hn : ¬ (∀ r, r < l.length → (rd_L3 l (r : Int)).length = colsOf l) → R = 2) (d : Nat) :
    ∀ i : Nat, i + d = l.length → (∀ r, r < i → (rd_L3 l (r : Int)).length = colsOf l) → Ev (fun k => match_Check.l0 k l l (l.length : Int) (i : Int)) R := by
  induction d with
  | zero =>
    intro i hi h
    rw [hy fun r hr => h r (by omega)]
    exact ev_step (fun k => by simp only [match_Check.l0] <;> exact rfl) (ev_neg (by omega) (ev_now _))
  | succ d ih =>
    intro i hi h
    refine ev_step (fun k => by simp only [match_Check.l0] <;> exact rfl) (ev_pos (by omega) (ev_pos (by omega) (ev_pos (by omega) (ev_pos (by omega) ?_))))
    by_cases hc : (rd_L3 l (i : Int)).length = colsOf l
    · refine ev_pos (by unfold colsOf at hc; omega) ?_
      rw [w64 (by omega) (by omega)]
      refine ih (i + 1) (by omega) (fun r hr => ?_)
      by_cases e : r = i
      · subst e; exact hc
      · exact h r (by omega)
    · rw [hn fun g => hc (g i (by omega))]
      exact ev_neg (by unfold colsOf at hc; omega) (ev_now _)
theorem check_ev (l : List (List Bool)) : Ev (fun k => match_Check.f k l) (chk l) := by
  simp only [match_Check.f]
  have full : Ev (fun k => match_Check.j0 k l true) 3 := ev_step (fun k => by simp only [match_Check.j0] <;> exact rfl) (ev_pos (show true = true from rfl) (ev_now _))
  have rest : ¬ (24 < l.length ∨ 24 < colsOf l) → Ev (fun k => match_Check.j0 k l false) (chk l) := by
    intro h
    refine ev_step (fun k => by simp only [match_Check.j0] <;> exact rfl) (ev_neg (by simp) ?_)
    refine chk_loop (by omega) (fun g => ?_) (fun g => ?_) l.length 0 (by omega) (fun r hr => by omega)
    · unfold chk; rw [if_neg h, if_pos g]
    · unfold chk; rw [if_neg h, if_neg g]
  by_cases h1 : 24 < l.length
  · rw [show chk l = 3 by unfold chk; rw [if_pos (Or.inl h1)]]
    exact ev_pos (by omega) full
  · refine ev_neg (by omega) ?_
    by_cases h2 : l.length = 0
    · refine ev_neg (by omega) (rest ?_)
      rw [colsOf_nil h2]; omega
    · refine ev_pos (by omega) (ev_pos (by omega) ?_)
      by_cases h3 : 24 < colsOf l
      · rw [show chk l = 3 by unfold chk; rw [if_pos (Or.inr h3)], show decide (((rd_L3 l 0).length : Int) > 24) = true from decide_eq_true (by unfold colsOf at h3; omega)]
        exact full
      · rw [show decide (((rd_L3 l 0).length : Int) > 24) = false from decide_eq_false (by unfold colsOf at h3; omega)]
        exact rest (by omega)
/-- No column is taken. -/
def free (l : List (List Bool)) : List Bool := List.replicate (colsOf l) false
theorem free_len (l : List (List Bool)) : (free l).length = colsOf l := by simp [free]
theorem chk_free {l : List (List Bool)} (h : chk l = 0) : Tab l (free l).length := by rw [free_len]; exact chk_tab h
theorem size_ok {l : List (List Bool)} (h : chk l = 0) : ∃ k : Nat, Ev (fun k => match_Size.f k l) ((k : Int), 0) ∧ IsNu l (free l) 0 k := by
  have T := chk_free h
  obtain ⟨o, S, e, hO⟩ := greatest_ev T (fr := 0) (Nat.zero_le _)
  refine ⟨_, ?_, hO.nu⟩
  have hc := T.cols
  simp only [match_Size.f]
  refine Ev.bind (check_ev l) (ev_pos h ?_)
  rw [columns_some T, free_len]
  simp only [Option.bind_some]
  rw [free_len] at hc
  refine ev_pos (by omega) (ev_pos (by omega) ?_)
  rw [Int.toNat_natCast]
  exact Ev.bind e (ev_now _)
theorem size_bad {l : List (List Bool)} (h : chk l ≠ 0) : Ev (fun k => match_Size.f k l) (0, chk l) := by
  simp only [match_Size.f]
  exact Ev.bind (check_ev l) (ev_neg h (ev_now _))
end Go.Proofs.Ytbmflpflmjfabaa.PAll.Mat
