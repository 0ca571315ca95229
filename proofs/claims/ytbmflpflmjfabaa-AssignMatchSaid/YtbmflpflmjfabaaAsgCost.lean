/- Both costs of a list: the sum, where the list has each column once, or the error. -/
import Derived.Test.YtbmflpflmjfabaaPAllx0
import Derived.Test.YtbmflpflmjfabaaPAllf16
import Derived.Test.YtbmflpflmjfabaaPAllf21
import Derived.Test.YtbmflpflmjfabaaPAllf27
import Derived.Test.YtbmflpflmjfabaaMathNum
import Derived.Test.YtbmflpflmjfabaaEvWords
import Derived.Test.YtbmflpflmjfabaaAsgCheck
import Derived.Test.YtbmflpflmjfabaaAsgAdd
namespace Go.Proofs.Ytbmflpflmjfabaa.PAll
set_option linter.unusedVariables false
open Go Go.RowKit Go.Proofs.YtbmflpflmjfabaaW.PrintWords Go.Proofs.YtbmflpflmjfabaaW.PrintLast Go.Proofs.YtbmflpflmjfabaaW.PrintMore Go.Proofs.Ytbmflpflmjfabaa.MathNum Go.Proofs.Ytbmflpflmjfabaa.EvWords

/-- The first i numbers of a list are different columns. -/
def Pre (l : List Int) (n i : Int) : Prop := ∀ p, 0 ≤ p → p < i → 0 ≤ rd l p ∧ rd l p < n ∧ ∀ q, 0 ≤ q → q < p → rd l q ≠ rd l p
/-- A list has each column from 0 to n - 1 once. -/
def Asg (l : List Int) (n : Int) : Prop := (l.length : Int) = n ∧ Pre l n n
/-- What the first i rows cost. -/
def csum (c : List (List Int)) (l : List Int) : Nat → Int
  | 0 => 0
  | i + 1 => csum c l i + M c ((i : Int) + 1) (rd l i + 1)

theorem Pre.mono {l : List Int} {n i j : Int} (h : Pre l n i) (hj : j ≤ i) : Pre l n j := fun p a b => h p a (by omega)
theorem Pre.zero {l : List Int} {n : Int} : Pre l n 0 := fun p a b => by omega
theorem Pre.succ {l : List Int} {n i : Int} (h : Pre l n i) (h0 : 0 ≤ rd l i) (h1 : rd l i < n) (h2 : ∀ q, 0 ≤ q → q < i → rd l q ≠ rd l i) : Pre l n (i + 1) := by
  intro p a b
  by_cases e : p = i
  · subst e; exact ⟨h0, h1, h2⟩
  · exact h p a (by omega)
theorem csum_bound {c : List (List Int)} {n : Int} (T : Tab c n) {l : List Int} (i : Nat) (hi : (i : Int) ≤ n) (h : Pre l n i) : 0 ≤ csum c l i ∧ csum c l i ≤ i * 1099511627776 := by
  induction i with
  | zero => exact ⟨Int.le_refl _, by simp [csum]⟩
  | succ i ih =>
    have := ih (by omega) (h.mono (by omega))
    obtain ⟨a, b, _⟩ := h i (by omega) (by omega)
    have m0 := T.lo ((i : Int) + 1) (rd l i + 1) (by omega) (by omega) (by omega) (by omega)
    have m1 := T.hi ((i : Int) + 1) (rd l i + 1) (by omega) (by omega) (by omega) (by omega)
    simp only [csum]
    omega

theorem cell_M {c : List (List Int)} {i j : Int} : rd (rd_L1 c i) j = M c (i + 1) (j + 1) := by
  unfold M
  rw [show i + 1 - 1 = i by omega, show j + 1 - 1 = j by omega]
theorem Tab.row0 {c : List (List Int)} {n : Int} (T : Tab c n) {i : Int} (h0 : 0 ≤ i) (h1 : i < n) : ((rd_L1 c i).length : Int) = n := by
  have := T.row (i + 1) (by omega) (by omega)
  rwa [show i + 1 - 1 = i by omega] at this

theorem cost_loop {c : List (List Int)} {n : Int} (T : Tab c n) {l : List Int} (hl : (l.length : Int) = n) (R : Int × Int) (hR : Pre l n n → R = (csum c l n.toNat, 0)) (hN : ¬ Pre l n n → R = (0, 2)) (d : Nat) :
    ∀ (i : Nat) (U : List Bool), (i : Int) + d = n → (U.length : Int) = n → Pre l n i → (∀ v, 0 ≤ v → v < n → (rdOf false U v = true ↔ ∃ p, 0 ≤ p ∧ p < (i : Int) ∧ rd l p = v)) →
      Ev (fun k => assign_Cost.l0 k c U (csum c l i) l (l.length : Int) (i : Int)) R := by
  have hn := T.le
  have hc := T.len
  induction d with
  | zero =>
    intro i U hi _ hp _
    have e : (i : Int) = n := by omega
    rw [e] at hp
    rw [hR hp, show n.toNat = i by omega]
    exact ev_step (fun k => by simp only [assign_Cost.l0] <;> exact rfl) (ev_neg (by omega) (ev_now _))
  | succ d ih =>
    intro i U hi hU hp hs
    refine ev_step (fun k => by simp only [assign_Cost.l0] <;> exact rfl) ?_
    refine ev_pos (by omega) (ev_pos (by omega) (ev_pos (by omega) ?_))
    by_cases h0 : rd l i < 0
    · rw [hN (fun h => by have := h i (by omega) (by omega); omega)]
      exact ev_pos h0 (ev_now _)
    · refine ev_neg h0 ?_
      by_cases h1 : rd l i ≥ n
      · rw [hN (fun h => by have := h i (by omega) (by omega); omega)]
        exact ev_pos (by omega) (ev_now _)
      · refine ev_neg (by omega) (ev_pos (by omega) (ev_pos (by omega) ?_))
        by_cases h2 : rdOf false U (rd l i) = true
        · obtain ⟨p, a, b, e⟩ := (hs _ (by omega) (by omega)).1 h2
          rw [hN (fun h => (h i (by omega) (by omega)).2.2 p a b e)]
          exact ev_pos h2 (ev_now _)
        · have hr := T.row0 (i := (i : Int)) (by omega) (by omega)
          refine ev_neg h2 (ev_pos (by omega) (ev_pos (by omega) ?_))
          have hp' : Pre l n ((i : Int) + 1) := hp.succ (by omega) (by omega) (fun q a b e => h2 ((hs _ (by omega) (by omega)).2 ⟨q, a, b, e⟩))
          have b0 := csum_bound T (i + 1) (by omega) (by simpa using hp')
          have e1 : csum c l (i + 1) = csum c l i + rd (rd_L1 c i) (rd l i) := by rw [cell_M]; rfl
          have := ih (i + 1) (U.set (rd l i).toNat true) (by omega) (by rw [List.length_set]; exact hU) (by simpa using hp') (fun v a b => by
            rw [rdB_set (by omega) (by omega) a]
            by_cases e : v = rd l i
            · rw [if_pos e]
              exact ⟨fun _ => ⟨i, by omega, by omega, e.symm⟩, fun _ => rfl⟩
            · rw [if_neg e, hs v a b]
              constructor
              · rintro ⟨p, x, y, z⟩; exact ⟨p, x, by omega, z⟩
              · rintro ⟨p, x, y, z⟩; exact ⟨p, x, by have : p ≠ i := fun h => e (by rw [← z, h]); omega, z⟩)
          rw [w64 (n := csum c l i + _) (by omega) (by omega), w64 (by omega) (by omega), ← e1]
          simpa using this

theorem cost_any {c : List (List Int)} (h : chk c = 0) (l : List Int) (R : Int × Int) (hR : Asg l c.length → R = (csum c l c.length, 0)) (hN : ¬ Asg l c.length → R = (0, 2)) : Ev (fun k => assign_Cost.f k c l) R := by
  have T := tab_of h
  have hn := T.le
  simp only [assign_Cost.f]
  refine Ev.bind (check_ev c) (ev_pos h ?_)
  by_cases hl : (l.length : Int) = c.length
  · refine ev_pos hl (ev_pos (by omega) (ev_pos (by omega) ?_))
    exact cost_loop T hl R (fun hp => by rw [Int.toNat_natCast]; exact hR ⟨hl, hp⟩) (fun hp => hN fun h => hp h.2) c.length 0 _ (by omega) (by simp) Pre.zero (fun v a b => by
      rw [rdB_rep]
      exact ⟨(fun h => by cases h), (fun ⟨p, x, y, z⟩ => by omega)⟩)
  · rw [hN fun h => hl h.1]
    exact ev_neg hl (ev_now _)

theorem asg_l1 {l : List Int} {n : Int} (hn : n ≤ 16) (hl : (l.length : Int) = n) (i : Nat) (hi : (i : Int) < n) (R : Bool) (hy : (∀ q, 0 ≤ q → q < (i : Int) → rd l q ≠ rd l i) → Ev (fun k => dancestudioref11_Assignment.l0 k l n (wrap64 ((i : Int) + 1))) R)
    (hN : ¬ (∀ q, 0 ≤ q → q < (i : Int) → rd l q ≠ rd l i) → R = false) (d : Nat) : ∀ (j : Nat), j + d = i → (∀ q, 0 ≤ q → q < (j : Int) → rd l q ≠ rd l i) → Ev (fun k => dancestudioref11_Assignment.l1 k l n (i : Int) (j : Int)) R := by
  induction d with
  | zero =>
    intro j hj hq
    have : j = i := by omega
    subst this
    exact ev_step (fun k => by simp only [dancestudioref11_Assignment.l1] <;> exact rfl) (ev_neg (by omega) (hy hq))
  | succ d ih =>
    intro j hj hq
    refine ev_step (fun k => by simp only [dancestudioref11_Assignment.l1] <;> exact rfl) ?_
    refine ev_pos (by omega) (ev_pos (by omega) (ev_pos (by omega) (ev_pos (by omega) (ev_pos (by omega) ?_))))
    by_cases e : rd l j = rd l i
    · rw [hN fun h => h j (by omega) (by omega) e]
      exact ev_pos e (ev_now _)
    · refine ev_neg e ?_
      rw [w64 (by omega) (by omega)]
      have := ih (j + 1) (by omega) (fun q a b => by
        by_cases eq : q = j
        · subst eq; exact e
        · exact hq q a (by omega))
      simpa using this
theorem asg_l0 {l : List Int} {n : Int} (hn : n ≤ 16) (hl : (l.length : Int) = n) (R : Bool) (hR : Pre l n n → R = true) (hN : ¬ Pre l n n → R = false) (d : Nat) : ∀ (i : Nat), (i : Int) + d = n → Pre l n i → Ev (fun k => dancestudioref11_Assignment.l0 k l n (i : Int)) R := by
  induction d with
  | zero =>
    intro i hi hp
    have e : (i : Int) = n := by omega
    rw [e] at hp
    rw [hR hp]
    exact ev_step (fun k => by simp only [dancestudioref11_Assignment.l0] <;> exact rfl) (ev_neg (by omega) (ev_now _))
  | succ d ih =>
    intro i hi hp
    refine ev_step (fun k => by simp only [dancestudioref11_Assignment.l0] <;> exact rfl) ?_
    refine ev_pos (by omega) (ev_pos (by omega) (ev_pos (by omega) ?_))
    by_cases h0 : rd l i < 0
    · rw [hN fun h => by have := h i (by omega) (by omega); omega]
      exact ev_pos h0 (ev_step (fun k => by simp only [dancestudioref11_Assignment.j1] <;> exact rfl) (ev_pos (show true = true from rfl) (ev_now _)))
    · refine ev_neg h0 ?_
      refine ev_step (fun k => by simp only [dancestudioref11_Assignment.j1] <;> exact rfl) ?_
      by_cases h1 : rd l i ≥ n
      · rw [hN fun h => by have := h i (by omega) (by omega); omega]
        exact ev_pos (by simpa using h1) (ev_now _)
      · refine ev_neg (by simpa using h1) ?_
        have := asg_l1 hn hl i (by omega) R (fun hq => by
          rw [w64 (by omega) (by omega)]
          have := ih (i + 1) (by omega) (by simpa using hp.succ (by omega) (by omega) hq)
          simpa using this) (fun hq => hN fun h => hq (h i (by omega) (by omega)).2.2) i 0 (by omega) (fun q a b => by omega)
        simpa using this
theorem asg_any {l : List Int} {n : Int} (hn : n ≤ 16) (h0 : 0 ≤ n) (R : Bool) (hR : Asg l n → R = true) (hN : ¬ Asg l n → R = false) : Ev (fun k => dancestudioref11_Assignment.f k l n) R := by
  simp only [dancestudioref11_Assignment.f]
  by_cases hl : (l.length : Int) = n
  · refine ev_pos hl ?_
    have := asg_l0 hn hl R (fun hp => hR ⟨hl, hp⟩) (fun hp => hN fun h => hp h.2) n.toNat 0 (by omega) Pre.zero
    simpa using this
  · rw [hN fun h => hl h.1]
    exact ev_neg hl (ev_now _)

theorem rcost_loop {c : List (List Int)} {n : Int} (T : Tab c n) {l : List Int} (hl : (l.length : Int) = n) (hp : Pre l n n) (d : Nat) :
    ∀ (i : Nat), (i : Int) + d = n → Ev (fun k => dancestudioref11_Cost.l0 k c l (csum c l i) (i : Int)) (csum c l n.toNat, 0) := by
  have hn := T.le
  have hc := T.len
  induction d with
  | zero =>
    intro i hi
    have e : (i : Int) = n := by omega
    rw [show n.toNat = i by omega]
    exact ev_step (fun k => by simp only [dancestudioref11_Cost.l0] <;> exact rfl) (ev_neg (by omega) (ev_now _))
  | succ d ih =>
    intro i hi
    obtain ⟨h0, h1, _⟩ := hp i (by omega) (by omega)
    have hr := T.row0 (i := (i : Int)) (by omega) (by omega)
    refine ev_step (fun k => by simp only [dancestudioref11_Cost.l0] <;> exact rfl) ?_
    refine ev_pos (by omega) (ev_pos (by omega) (ev_pos (by omega) (ev_pos (by omega) (ev_pos (by omega) ?_))))
    have b0 := csum_bound T (i + 1) (by omega) (hp.mono (by omega))
    have e1 : csum c l (i + 1) = csum c l i + rd (rd_L1 c i) (rd l i) := by rw [cell_M]; rfl
    have := ih (i + 1) (by omega)
    rw [w64 (n := csum c l i + _) (by omega) (by omega), w64 (by omega) (by omega), ← e1]
    simpa using this
theorem rcost_any {c : List (List Int)} (h : chk c = 0) (l : List Int) (R : Int × Int) (hR : Asg l c.length → R = (csum c l c.length, 0)) (hN : ¬ Asg l c.length → R = (0, 2)) : Ev (fun k => dancestudioref11_Cost.f k c l) R := by
  have T := tab_of h
  have hn := T.le
  simp only [dancestudioref11_Cost.f]
  refine Ev.bind (rcheck_ev c) (ev_pos h ?_)
  by_cases ha : Asg l c.length
  · refine Ev.bind (asg_any (by omega) (by omega) true (fun _ => rfl) (fun h => absurd ha h)) (ev_pos rfl ?_)
    rw [hR ha]
    have := rcost_loop T ha.1 ha.2 c.length 0 (by omega)
    simpa [csum] using this
  · refine Ev.bind (asg_any (by omega) (by omega) false (fun h => absurd h ha) (fun _ => rfl)) (ev_neg (by decide) ?_)
    rw [hN ha]; exact ev_now _
end Go.Proofs.Ytbmflpflmjfabaa.PAll
