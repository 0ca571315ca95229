/- MatchValids: plain law. -/
import Derived.Test.YtaacihkhckpecaaPAllx0
import Derived.Test.YtaacihkhckpecaaPAllf6
import Derived.Test.YtaacihkhckpecaaMatValid
namespace Go.Proofs.Ytaacihkhckpecaa.PAll
set_option linter.unusedVariables false
open Go Go.RowKit Go.Proofs.YtaacihkhckpecaaW.PrintWords Go.Proofs.YtaacihkhckpecaaW.PrintLast Go.Proofs.YtaacihkhckpecaaW.PrintMore Go.Proofs.Ytaacihkhckpecaa.MathNum Go.Proofs.Ytaacihkhckpecaa.EvWords

theorem valids_out {l : List (List Bool)} {mm : List Int} {ok : Bool} (h : ok = decide (VM l mm)) (i : Int) : Ev (fun k => dancestudiolaw10_MatchValids.j2 k l mm ok i false) true :=
  ev_step (fun k => by simp only [dancestudiolaw10_MatchValids.j2] <;> exact rfl) (ev_neg (by simp) (Ev.bind (valid_ev l mm) (ev_pos (show (decide (VM l mm) == ok) = true by rw [h]; simp) (Ev.bind awake_ev (ev_now _)))))
theorem valids_no {l : List (List Bool)} {mm : List Int} (h : ¬ VM l mm) (i : Int) : Ev (fun k => dancestudiolaw10_MatchValids.l0 k l mm false i) true :=
  ev_step (fun k => by simp only [dancestudiolaw10_MatchValids.l0] <;> exact rfl) (ev_neg (by simp) (valids_out (decide_eq_false h).symm i))
/-- The inner loop: no row before has the column. -/
theorem valids_in {l : List (List Bool)} {mm : List Int} {i : Nat} (hi : i < mm.length) (hl : mm.length ≤ 24) (hy : (∀ j, j < i → ow mm j ≠ ow mm i) → Ev (fun k => dancestudiolaw10_MatchValids.l0 k l mm true (wrap64 ((i : Int) + 1))) true)
    (hn : ¬ (∀ j, j < i → ow mm j ≠ ow mm i) → Ev (fun k => dancestudiolaw10_MatchValids.l0 k l mm false (wrap64 ((i : Int) + 1))) true) (d : Nat) : ∀ j : Nat, j + d = i →
    ((∀ q, q < j → ow mm q ≠ ow mm i) → Ev (fun k => dancestudiolaw10_MatchValids.l1 k l mm true (i : Int) (j : Int)) true) ∧ (¬ (∀ q, q < i → ow mm q ≠ ow mm i) → Ev (fun k => dancestudiolaw10_MatchValids.l1 k l mm false (i : Int) (j : Int)) true) := by
  induction d with
  | zero =>
    intro j hj
    have : j = i := by omega
    subst this
    exact ⟨fun h => ev_step (fun k => by simp only [dancestudiolaw10_MatchValids.l1] <;> exact rfl) (ev_neg (by omega) (hy h)), fun h => ev_step (fun k => by simp only [dancestudiolaw10_MatchValids.l1] <;> exact rfl) (ev_neg (by omega) (hn h))⟩
  | succ d ih =>
    intro j hj
    obtain ⟨g1, g2⟩ := ih (j + 1) (by omega)
    have w : wrap64 ((j : Int) + 1) = ((j + 1 : Nat) : Int) := by rw [w64 (by omega) (by omega)]; rfl
    constructor
    · intro h
      refine ev_step (fun k => by simp only [dancestudiolaw10_MatchValids.l1] <;> exact rfl) (ev_pos (by omega) (ev_pos (show true = true from rfl) (ev_pos (by omega) (ev_pos (by omega) (ev_pos (by omega) (ev_pos (by omega) ?_))))))
      rw [w]
      by_cases e : ow mm j = ow mm i
      · rw [show ((rd mm (j : Int)) != (rd mm (i : Int))) = false by rw [show rd mm (j : Int) = rd mm (i : Int) from e]; simp]
        exact g2 fun q => q j (by omega) e
      · rw [show ((rd mm (j : Int)) != (rd mm (i : Int))) = true from bne_iff_ne.2 e]
        refine g1 fun q hq => ?_
        by_cases hqj : q = j
        · subst hqj; exact e
        · exact h q (by omega)
    · intro h
      refine ev_step (fun k => by simp only [dancestudiolaw10_MatchValids.l1] <;> exact rfl) (ev_pos (by omega) (ev_neg (by simp) ?_))
      rw [w]
      exact g2 h
theorem valids_loop {l : List (List Bool)} (hc : chk l = 0) {mm : List Int} (hm : mm.length = l.length) (d : Nat) : ∀ i : Nat, i + d = l.length → (∀ j, j < i → Fits l mm j) → Ev (fun k => dancestudiolaw10_MatchValids.l0 k l mm true (i : Int)) true := by
  have T := chk_tab hc
  have h1 := T.rows
  have h2 := T.cols
  induction d with
  | zero =>
    intro i hi hp
    refine ev_step (fun k => by simp only [dancestudiolaw10_MatchValids.l0] <;> exact rfl) (ev_pos (show true = true from rfl) ?_)
    rw [decide_eq_false (show ¬ ((i : Int) < (mm.length : Int)) by omega)]
    exact valids_out (decide_eq_true (show VM l mm from ⟨hc, hm, fun j hj => hp j (by omega)⟩)).symm _
  | succ d ih =>
    intro i hi hp
    have hw := T.wide i (by omega)
    have bad : ¬ Fits l mm i → ¬ VM l mm := fun h g => h (g.2.2 i (by omega))
    have more : Fits l mm i → Ev (fun k => dancestudiolaw10_MatchValids.l0 k l mm true (wrap64 ((i : Int) + 1))) true := fun h => by
      rw [w64 (by omega) (by omega)]
      refine ih (i + 1) (by omega) (fun j hj => ?_)
      by_cases e : j = i
      · subst e; exact h
      · exact hp j (by omega)
    refine ev_step (fun k => by simp only [dancestudiolaw10_MatchValids.l0] <;> exact rfl) (ev_pos (show true = true from rfl) ?_)
    rw [decide_eq_true (show (i : Int) < (mm.length : Int) by omega)]
    refine ev_step (fun k => by simp only [dancestudiolaw10_MatchValids.j2] <;> exact rfl) (ev_pos (show true = true from rfl) (ev_pos (by omega) (ev_pos (by omega) ?_)))
    by_cases c1 : ow mm i = -1
    · exact ev_pos c1 (more (Or.inl c1))
    · refine ev_neg c1 ?_
      have no : ¬ Fits l mm i → Ev (fun k => dancestudiolaw10_MatchValids.j3 k l mm false (i : Int)) true := fun h => by
        refine ev_step (fun k => by simp only [dancestudiolaw10_MatchValids.j3] <;> exact rfl) ?_
        have go : ∀ (d j : Nat), j + d = i → Ev (fun k => dancestudiolaw10_MatchValids.l1 k l mm false (i : Int) (j : Int)) true := by
          intro d
          induction d with
          | zero =>
            intro j hj
            exact ev_step (fun k => by simp only [dancestudiolaw10_MatchValids.l1] <;> exact rfl) (ev_neg (by omega) (valids_no (bad h) _))
          | succ d ihd =>
            intro j hj
            refine ev_step (fun k => by simp only [dancestudiolaw10_MatchValids.l1] <;> exact rfl) (ev_pos (by omega) (ev_neg (by simp) ?_))
            rw [w64 (by omega) (by omega)]
            exact ihd (j + 1) (by omega)
        exact go i 0 (by omega)
      by_cases c2 : ow mm i ≥ 0
      · refine ev_pos c2 (ev_pos (by omega) ?_)
        by_cases c3 : ow mm i < ((rd_L1 l (i : Int)).length : Int)
        · refine ev_pos c3 (ev_pos (show 0 ≤ ow mm i by omega) ?_)
          by_cases c4 : rdOf false (rd_L1 l (i : Int)) (ow mm i) = true
          · rw [show rdOf false (rd_L1 l (i : Int)) (rd mm (i : Int)) = true from c4]
            refine ev_step (fun k => by simp only [dancestudiolaw10_MatchValids.j3] <;> exact rfl) ?_
            exact (valids_in (i := i) (by omega) (by omega) (fun h => more (Or.inr ⟨by omega, by omega, c4, h⟩)) (fun h => valids_no (bad fun g => by
              rcases g with g | g
              · omega
              · exact h g.2.2.2) _) i 0 (by omega)).1 (fun q hq => by omega)
          · rw [show rdOf false (rd_L1 l (i : Int)) (rd mm (i : Int)) = false by rw [← Bool.not_eq_true]; exact c4]
            exact no fun h => by
              rcases h with h | h
              · omega
              · exact c4 h.2.2.1
        · exact ev_neg c3 (no fun h => by rcases h with h | h <;> omega)
      · exact ev_neg c2 (no fun h => by rcases h with h | h <;> omega)

theorem pure_MatchValids (l : List (List Bool)) (_ : l.length ≤ maxLen) (_ : ∀ r ∈ l, r.length ≤ maxLen) (mm : List Int) (_ : mm.length ≤ maxLen) (_ : ∀ x ∈ mm, (Lit.int .i64 x).wf = true) : ∃ k, dancestudiolaw10_MatchValids.f k l mm = some true := by
  refine ev_some ?_
  simp only [dancestudiolaw10_MatchValids.f]
  refine Ev.bind (check_ev l) ?_
  by_cases hc : chk l = 0
  · refine ev_pos hc ?_
    refine ev_step (fun k => by simp only [dancestudiolaw10_MatchValids.j0] <;> exact rfl) ?_
    by_cases hm : mm.length = l.length
    · rw [show ((mm.length : Int) == (l.length : Int)) = true by rw [hm]; simp]
      exact valids_loop hc hm l.length 0 (by omega) (fun j hj => by omega)
    · rw [show ((mm.length : Int) == (l.length : Int)) = false by rw [beq_eq_false_iff_ne]; omega]
      exact valids_no (fun h => hm h.2.1) _
  · refine ev_neg hc ?_
    refine ev_step (fun k => by simp only [dancestudiolaw10_MatchValids.j0] <;> exact rfl) ?_
    exact valids_no (fun h => hc h.1) _
end Go.Proofs.Ytaacihkhckpecaa.PAll
