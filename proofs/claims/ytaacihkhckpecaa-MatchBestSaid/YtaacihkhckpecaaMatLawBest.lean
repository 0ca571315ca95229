/- MatchBest: plain law. -/
import Derived.Test.YtaacihkhckpecaaPAllx0
import Derived.Test.YtaacihkhckpecaaPAllf7
import Derived.Test.YtaacihkhckpecaaMatPm
namespace Go.Proofs.Ytaacihkhckpecaa.PAll
set_option linter.unusedVariables false
open Go Go.RowKit Go.Proofs.YtaacihkhckpecaaW.PrintWords Go.Proofs.YtaacihkhckpecaaW.PrintLast Go.Proofs.YtaacihkhckpecaaW.PrintMore Go.Proofs.Ytaacihkhckpecaa.MathNum Go.Proofs.Ytaacihkhckpecaa.EvWords

theorem Greedy.len {l : List (List Bool)} {i : Nat} {tk : List Bool} {lf : Nat} {rest : List Int} (h : Greedy l i tk lf rest) : i + rest.length = l.length := by
  induction h with
  | done i tk lf hi hn => simpa using hi
  | pick i tk lf c rest hi hn hg hl h ih => simp only [List.length_cons]; omega
  | skip i tk lf rest hi hn hl h ih => simp only [List.length_cons]; omega
/-- What a matching of the greatest size has for a row is good for it. -/
theorem good_of {l : List (List Bool)} {tk : List Bool} {i lf c : Nat} {qs : List (Nat × Nat)} (hn : IsNu l tk i lf) (h : Mt l tk i ((i, c) :: qs)) (hl : qs.length + 1 = lf) : Good l tk i lf c := by
  obtain ⟨hE, m⟩ := h.uncons
  refine ⟨hE, ⟨⟨qs, m, by omega⟩, fun ps hp => ?_⟩, by omega⟩
  have := hn.2 _ (Mt.cons hE hp)
  simp at this; omega
theorem best_loop {l : List (List Bool)} {mm best : List Int} (hl : l.length ≤ 24) (hm : mm.length = l.length) (hb : best.length = l.length) (hge : ∀ j (h : j < mm.length), -1 ≤ mm[j]) {i : Nat} {tk : List Bool} {lf : Nat} {rest : List Int} (g : Greedy l i tk lf rest) :
    best.drop i = rest → Mt l tk i (pm i (mm.drop i)) → (pm i (mm.drop i)).length = lf → Ev (fun k => dancestudiolaw10_MatchBest.l0 k mm best (i : Int)) true := by
  induction g with
  | done i tk lf hi hn =>
    intro _ _ _
    exact ev_step (fun k => by simp only [dancestudiolaw10_MatchBest.l0] <;> exact rfl) (ev_neg (by omega) (Ev.bind awake_ev (ev_now _)))
  | pick i tk lf c rest hi hn hg hx h ih =>
    intro hd mt len
    have hib : i < best.length := by omega
    rw [List.drop_eq_getElem_cons hib, List.cons.injEq] at hd
    rw [List.drop_eq_getElem_cons (by omega)] at mt len
    have e1 : rd best (i : Int) = (c : Int) := (ow_get hib).trans hd.1
    have e2 : rd mm (i : Int) = mm[i]'(by omega) := ow_get (by omega)
    refine ev_step (fun k => by simp only [dancestudiolaw10_MatchBest.l0] <;> exact rfl) (ev_pos (by omega) (ev_pos (by omega) (ev_pos (by omega) ?_)))
    rw [e1, e2]
    unfold pm at mt len
    by_cases hmi : mm[i]'(by omega) = -1
    · rw [hmi]
      exact ev_neg (by omega) (ev_neg (by omega) (ev_pos rfl (Ev.bind awake_ev (ev_now _))))
    · rw [if_neg hmi] at mt len
      have hpos := hge i (by omega)
      by_cases hc : (c : Int) = mm[i]'(by omega)
      · refine ev_pos hc ?_
        rw [w64 (by omega) (by omega)]
        have ec : (mm[i]'(by omega)).toNat = c := by omega
        rw [ec] at mt
        refine ih hd.2 mt.uncons.2 (by simp at len; omega)
      · refine ev_neg hc (ev_neg (by omega) (ev_neg hmi ?_))
        have gd := good_of hn mt (by simpa using len)
        have := hx (mm[i]'(by omega)).toNat
        refine ev_pos ?_ (Ev.bind awake_ev (ev_now _))
        apply Int.not_le.mp
        intro le
        by_cases lt : (mm[i]'(by omega)).toNat < c
        · exact this lt gd
        · omega
  | skip i tk lf rest hi hn hx h ih =>
    intro hd mt len
    have hib : i < best.length := by omega
    rw [List.drop_eq_getElem_cons hib, List.cons.injEq] at hd
    rw [List.drop_eq_getElem_cons (by omega)] at mt len
    have e1 : rd best (i : Int) = -1 := (ow_get hib).trans hd.1
    have e2 : rd mm (i : Int) = mm[i]'(by omega) := ow_get (by omega)
    refine ev_step (fun k => by simp only [dancestudiolaw10_MatchBest.l0] <;> exact rfl) (ev_pos (by omega) (ev_pos (by omega) (ev_pos (by omega) ?_)))
    rw [e1, e2]
    unfold pm at mt len
    by_cases hmi : mm[i]'(by omega) = -1
    · rw [if_pos hmi] at mt len
      refine ev_pos hmi.symm ?_
      rw [w64 (by omega) (by omega)]
      exact ih hd.2 mt.up len
    · rw [if_neg hmi] at mt len
      exact absurd (good_of hn mt (by simpa using len)) (hx _)
theorem pure_MatchBest (l : List (List Bool)) (_ : l.length ≤ maxLen) (_ : ∀ r ∈ l, r.length ≤ maxLen) (mm : List Int) (_ : mm.length ≤ maxLen) (_ : ∀ x ∈ mm, (Lit.int .i64 x).wf = true) : ∃ k, dancestudiolaw10_MatchBest.f k l mm = some true := by
  refine ev_some ?_
  simp only [dancestudiolaw10_MatchBest.f]
  refine Ev.bind (valid_ev l mm) ?_
  by_cases hv : VM l mm
  · rw [decide_eq_true hv]
    refine ev_pos rfl ?_
    have hc := hv.1
    have T := chk_tab hc
    have h1 := T.rows
    obtain ⟨k, e, hk⟩ := size_ok hc
    obtain ⟨k', out, hk', g, e2⟩ := match_ok hc
    have := hk.uniq hk'
    subst this
    have lo := g.len
    have mt := VM_mt hv
    have up := hk.2 _ mt
    have hm := hv.2.1
    refine Ev.bind e (Ev.bind e2 (ev_pos rfl (ev_pos rfl (ev_pos (by simp only; omega) (Ev.bind (sizeOf_ev (by omega)) ?_)))))
    rw [decide_eq_false (show ¬ ((((pm 0 mm).length : Nat) : Int) > (k : Int)) by omega)]
    refine ev_step (fun k => by simp only [dancestudiolaw10_MatchBest.j0] <;> exact rfl) (ev_neg (by simp) (Ev.bind (sizeOf_ev (by omega)) ?_))
    by_cases lt : (((pm 0 mm).length : Nat) : Int) < (k : Int)
    · exact ev_pos lt (Ev.bind awake_ev (ev_now _))
    · refine ev_neg lt ?_
      exact best_loop h1 hm (by omega) (fun j hj => by
        have f := hv.2.2 j (by omega)
        unfold Fits at f
        rw [ow_get hj] at f
        rcases f with f | f <;> omega) g (by simp) (by simpa using mt) (by simp; omega)
  · rw [decide_eq_false hv]
    exact ev_neg (by simp) (Ev.bind awake_ev (ev_now _))
end Go.Proofs.Ytaacihkhckpecaa.PAll
