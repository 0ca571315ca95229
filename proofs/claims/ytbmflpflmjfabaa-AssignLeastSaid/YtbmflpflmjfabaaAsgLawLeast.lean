/- AssignLeast: plain law. -/
import Derived.Test.YtbmflpflmjfabaaPAllx12
import Derived.Test.YtbmflpflmjfabaaAsgAwake
import Derived.Test.YtbmflpflmjfabaaAsgCost
import Derived.Test.YtbmflpflmjfabaaAsgSolve
import Derived.Test.YtbmflpflmjfabaaRowWords
namespace Go.Proofs.Ytbmflpflmjfabaa.PAll
set_option linter.unusedVariables false
open Go Go.RowKit Go.Proofs.YtbmflpflmjfabaaW.PrintWords Go.Proofs.YtbmflpflmjfabaaW.PrintLast Go.Proofs.YtbmflpflmjfabaaW.PrintMore Go.Proofs.Ytbmflpflmjfabaa.MathNum Go.Proofs.Ytbmflpflmjfabaa.EvWords Go.Proofs.Ytbmflpflmjfabaa.RowWords
attribute [local irreducible] rd M rdOf

theorem least_loop {c : List (List Int)} {l k : List Int} {m : Int} (hn : c.length ≤ 16) (B : Best c c.length k m) (ha : Asg l c.length) (d : Nat) : ∀ i : Nat, i + d = c.length → (csum c l c.length = m → ∀ p : Nat, p < i → rd l p = rd k p) →
    Ev (fun r => dancestudiolaw11_AssignLeast.l0 r l (csum c l c.length) k m (i : Int)) true := by
  have hl := ha.1
  have hk := B.asg.1
  induction d with
  | zero =>
    intro i hi hp
    refine ev_step (fun k => by simp only [dancestudiolaw11_AssignLeast.l0] <;> exact rfl) (ev_neg (by omega) ?_)
    exact ev_step (fun k => by simp only [dancestudiolaw11_AssignLeast.j2] <;> exact rfl) (ev_neg (by decide) (Ev.bind awake_ev (ev_now _)))
  | succ d ih =>
    intro i hi hp
    refine ev_step (fun k => by simp only [dancestudiolaw11_AssignLeast.l0] <;> exact rfl) (ev_pos (by omega) ?_)
    refine ev_step (fun k => by simp only [dancestudiolaw11_AssignLeast.j2] <;> exact rfl) ?_
    by_cases e : csum c l c.length = m
    · refine ev_pos (by simpa using e) (ev_pos (by omega) (ev_pos (by omega) (ev_pos (by omega) ?_)))
      have := B.lex l ha e i (by omega) (hp e)
      refine ev_neg (by omega) ?_
      by_cases g : rd l i > rd k i
      · exact ev_pos g (Ev.bind awake_ev (ev_now _))
      · refine ev_neg g ?_
        rw [w64 (by omega) (by omega)]
        exact ih (i + 1) (by omega) (fun _ p hp' => by
          by_cases eq : p = i
          · subst eq; omega
          · exact hp e p (by omega))
    · exact ev_neg (by simpa using e) (Ev.bind awake_ev (ev_now _))

theorem pure_AssignLeast (c : List (List Int)) (_ : c.length ≤ maxLen) (_ : ∀ r ∈ c, Held .i64 r) (l : List Int) (_ : Held .i64 l) : ∃ k, dancestudiolaw11_AssignLeast.f k c l = some true := by
  refine ev_some ?_
  simp only [dancestudiolaw11_AssignLeast.f]
  by_cases h : chk c = 0
  · by_cases ha : Asg l c.length
    · have hn := (tab_of h).le
      refine Ev.bind (cost_any h l _ (fun _ => rfl) (fun x => absurd ha x)) (ev_pos rfl ?_)
      obtain ⟨k, m, B, e⟩ := Solve_ev h
      have hl := ha.1
      have hk := B.asg.1
      refine Ev.bind e (ev_pos rfl (ev_pos (by show (k.length : Int) = l.length; omega) ?_))
      have hm := B.min l ha
      refine ev_step (fun k => by simp only [dancestudiolaw11_AssignLeast.j0] <;> exact rfl) (ev_neg (by simpa using hm) ?_)
      exact least_loop (by omega) B ha c.length 0 (by omega) (fun _ p hp => by omega)
    · refine Ev.bind (cost_any h l _ (fun x => absurd x ha) (fun _ => rfl)) (ev_neg (by decide) ?_)
      exact Ev.bind awake_ev (ev_now _)
  · refine Ev.bind (cost_bad c l h) (ev_neg h ?_)
    exact Ev.bind awake_ev (ev_now _)
end Go.Proofs.Ytbmflpflmjfabaa.PAll
