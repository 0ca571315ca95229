/- Valid: which lists are matchings. -/
import Derived.Test.YtaacihkhckpecaaPAllx0
import Derived.Test.YtaacihkhckpecaaPAllf20
import Derived.Test.YtaacihkhckpecaaMatCheck
namespace Go.Proofs.Ytaacihkhckpecaa.PAll
set_option linter.unusedVariables false
open Go Go.RowKit Go.Proofs.YtaacihkhckpecaaW.PrintWords Go.Proofs.YtaacihkhckpecaaW.PrintLast Go.Proofs.YtaacihkhckpecaaW.PrintMore Go.Proofs.Ytaacihkhckpecaa.MathNum Go.Proofs.Ytaacihkhckpecaa.EvWords

/-- The row i of a list has no column, or a permitted one that no row before has. -/
def Fits (l : List (List Bool)) (mm : List Int) (i : Nat) : Prop :=
  ow mm i = -1 ∨ 0 ≤ ow mm i ∧ ow mm i < colsOf l ∧ rdOf false (rd_L1 l (i : Int)) (ow mm i) = true ∧ ∀ j, j < i → ow mm j ≠ ow mm i
instance (l : List (List Bool)) (mm : List Int) (i : Nat) : Decidable (Fits l mm i) := by unfold Fits; exact inferInstance
def VM (l : List (List Bool)) (mm : List Int) : Prop := chk l = 0 ∧ mm.length = l.length ∧ ∀ i, i < l.length → Fits l mm i
instance (l : List (List Bool)) (mm : List Int) : Decidable (VM l mm) := by unfold VM; exact inferInstance
theorem valid_loop {l : List (List Bool)} (hc : chk l = 0) {mm : List Int} (hm : mm.length = l.length) {R : Bool} (hy : (∀ i, i < l.length → Fits l mm i) → R = true) (hn : ¬ (∀ i, i < l.length → Fits l mm i) → R = false) (d : Nat) :
    ∀ (i : Nat) (us : List Bool), i + d = l.length → us.length = colsOf l → (∀ j, j < i → Fits l mm j) → (∀ c, c < colsOf l → (sb us c ↔ ∃ j, j < i ∧ ow mm j = (c : Int))) → Ev (fun k => match_Valid.l0 k l us mm (mm.length : Int) (i : Int)) R := by
  have T := chk_tab hc
  have h1 := T.rows
  have h2 := T.cols
  induction d with
  | zero =>
    intro i us hi hu hp hs
    rw [hy fun j hj => hp j (by omega)]
    exact ev_step (fun k => by simp only [match_Valid.l0] <;> exact rfl) (ev_neg (by omega) (ev_now _))
  | succ d ih =>
    intro i us hi hu hp hs
    have hw := T.wide i (by omega)
    have bad : ¬ Fits l mm i → R = false := fun h => hn fun g => h (g i (by omega))
    refine ev_step (fun k => by simp only [match_Valid.l0] <;> exact rfl) (ev_pos (by omega) (ev_pos (by omega) (ev_pos (by omega) ?_)))
    by_cases c1 : ow mm i = -1
    · refine ev_pos c1 ?_
      rw [w64 (by omega) (by omega)]
      refine ih (i + 1) us (by omega) hu (fun j hj => ?_) (fun c hc' => ?_)
      · by_cases e : j = i
        · subst e; exact Or.inl c1
        · exact hp j (by omega)
      · rw [hs c hc']
        constructor
        · rintro ⟨j, g1, g2⟩; exact ⟨j, by omega, g2⟩
        · rintro ⟨j, g1, g2⟩
          by_cases e : j = i
          · subst e; omega
          · exact ⟨j, by omega, g2⟩
    · refine ev_neg c1 ?_
      by_cases c2 : ow mm i < 0
      · rw [bad fun h => by rcases h with h | h <;> omega]
        exact ev_pos c2 (ev_now _)
      · refine ev_neg c2 ?_
        by_cases c3 : ow mm i ≥ (us.length : Int)
        · rw [bad fun h => by rcases h with h | h <;> omega]
          exact ev_pos c3 (ev_now _)
        · refine ev_neg c3 (ev_pos (show 0 ≤ ow mm i by omega) (ev_pos (show ow mm i < (us.length : Int) by omega) ?_))
          have en : ((ow mm i).toNat : Int) = ow mm i := by omega
          have cl : (ow mm i).toNat < colsOf l := by omega
          have hs' := hs (ow mm i).toNat cl
          rw [en] at hs'
          have su : (rdOf false us (rd mm (i : Int)) = true) ↔ sb us (ow mm i).toNat := by unfold sb; rw [en]; rfl
          by_cases c4 : sb us (ow mm i).toNat
          · rw [bad fun h => by
              rcases h with h | h
              · omega
              · obtain ⟨j, g1, g2⟩ := hs'.1 c4; exact h.2.2.2 j g1 g2]
            exact ev_pos (su.2 c4) (ev_now _)
          · refine ev_neg (fun q => c4 (su.1 q)) (ev_pos (by omega) (ev_pos (show ow mm i < _ by omega) ?_))
            by_cases c5 : rdOf false (rd_L1 l (i : Int)) (ow mm i) = true
            · refine ev_pos c5 ?_
              rw [w64 (by omega) (by omega)]
              refine ih (i + 1) _ (by omega) (by simp [hu]) (fun j hj => ?_) (fun c hc' => ?_)
              · by_cases e : j = i
                · subst e; exact Or.inr ⟨by omega, by omega, c5, fun k hk hke => c4 (hs'.2 ⟨k, hk, hke⟩)⟩
                · exact hp j (by omega)
              · show sb (us.set (ow mm i).toNat true) c ↔ _
                rw [sb_set (by omega), hs c hc']
                constructor
                · rintro (e | ⟨j, g1, g2⟩)
                  · exact ⟨i, by omega, by omega⟩
                  · exact ⟨j, by omega, g2⟩
                · rintro ⟨j, g1, g2⟩
                  by_cases e : j = i
                  · subst e; exact Or.inl (by omega)
                  · exact Or.inr ⟨j, by omega, g2⟩
            · rw [bad fun h => by
                rcases h with h | h
                · omega
                · exact c5 h.2.2.1]
              exact ev_neg c5 (ev_now _)
theorem valid_ev (l : List (List Bool)) (mm : List Int) : Ev (fun k => match_Valid.f k l mm) (decide (VM l mm)) := by
  simp only [match_Valid.f]
  refine Ev.bind (check_ev l) ?_
  have no : Ev (fun k => match_Valid.j0 k l mm true) false := ev_step (fun k => by simp only [match_Valid.j0] <;> exact rfl) (ev_pos (show true = true from rfl) (ev_now _))
  by_cases hc : chk l = 0
  · refine ev_pos hc ?_
    by_cases hm : mm.length = l.length
    · rw [show ((mm.length : Int) != (l.length : Int)) = false by rw [hm]; simp]
      have T := chk_free hc
      have h2 := T.cols
      rw [free_len] at h2
      refine ev_step (fun k => by simp only [match_Valid.j0] <;> exact rfl) (ev_neg (by simp) ?_)
      rw [columns_some T, free_len]
      simp only [Option.bind_some]
      refine ev_pos (by omega) (ev_pos (by omega) ?_)
      rw [Int.toNat_natCast]
      refine valid_loop hc hm (fun h => decide_eq_true ⟨hc, hm, h⟩) (fun h => decide_eq_false fun g => h g.2.2) l.length 0 _ (by omega) (by simp) (fun j hj => by omega) (fun c hc' => ?_)
      exact ⟨fun h => absurd h sb_rep, fun ⟨j, hj, _⟩ => by omega⟩
    · rw [show ((mm.length : Int) != (l.length : Int)) = true by rw [bne_iff_ne]; omega, decide_eq_false fun h => hm h.2.1]
      exact no
  · rw [decide_eq_false fun h => hc h.1]
    exact ev_neg hc no
end Go.Proofs.Ytaacihkhckpecaa.PAll
