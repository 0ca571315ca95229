/- RehearseLeast. -/
import Derived.Test.YtjppjppapdflmaaPAllf15
import Derived.Test.YtjppjppapdflmaaPAllf6
import Derived.Test.YtjppjppapdflmaaRPg
import Derived.Test.YtjppjppapdflmaaRehSol
import Derived.Test.YtjppjppapdflmaaRehAwake
namespace Go.Proofs.Ytjppjppapdflmaa.PAll
set_option linter.unusedVariables false
set_option linter.unusedSectionVars false
set_option linter.unusedSimpArgs false
open Go Go.RowKit Go.Proofs.YtjppjppapdflmaaW.PrintWords Go.Proofs.YtjppjppapdflmaaW.PrintLast Go.Proofs.YtjppjppapdflmaaW.PrintMore Go.Proofs.Ytjppjppapdflmaa.MathNum Go.Proofs.Ytjppjppapdflmaa.EvWords

theorem awake_out3 : Ev (fun k => (dancestudiolaw50_awake.f k).bind fun t => some t) true := Ev.bind awake_ev (ev_now _)
theorem law_l1 {l p : List S48} (hl : l.length ≤ 10) (hp : p.length = l.length) : ∀ d i : Nat, i + d = l.length → ((∃ j, i ≤ j ∧ j < l.length ∧ rm p j < rm l j ∧ ∀ k, i ≤ k → k < j → rm p k = rm l k) ∨ ∀ k, i ≤ k → k < l.length → rm p k = rm l k) → Ev (fun k => dancestudiolaw50_RehearseLeast.l1 k l p (i : Int)) true
 | 0, i, hd, h => ev_step (fun k => by simp only [dancestudiolaw50_RehearseLeast.l1] <;> exact rfl) (ev_neg (by omega) awake_out3)
 | d + 1, i, hd, h => by
  refine ev_step (fun k => by simp only [dancestudiolaw50_RehearseLeast.l1] <;> exact rfl) (ev_pos (by omega) (ev_pos (by omega) (ev_pos (by omega) ?_)))
  rw [w64 (n := (i : Int) + 1) (by omega) (by omega)]
  by_cases e : rm p i = rm l i
  · refine ev_pos e (law_l1 hl hp d (i + 1) (by omega) ?_)
    rcases h with ⟨j, h1, h2, h3, h4⟩ | h
    · by_cases q : j = i
      · rw [q] at h3; omega
      · exact .inl ⟨j, by omega, h2, h3, fun k k1 k2 => h4 k (by omega) k2⟩
    · exact .inr fun k k1 k2 => h k (by omega) k2
  · refine ev_neg e (ev_pos (c := rm p i < rm l i) ?_ awake_out3)
    rcases h with ⟨j, h1, h2, h3, h4⟩ | h
    · by_cases q : j = i
      · rw [q] at h3; exact h3
      · exact absurd (h4 i (Nat.le_refl _) (by omega)) e
    · exact absurd (h i (Nat.le_refl _) (by omega)) e
theorem law_l0 {l p : List S48} (hl : l.length ≤ 10) (hp : p.length = l.length) : ∀ d i : Nat, i + d = l.length → ((∃ j, i ≤ j ∧ j < l.length ∧ st p j < st l j ∧ ∀ k, i ≤ k → k < j → st p k = st l k) ∨ ((∀ k, i ≤ k → k < l.length → st p k = st l k) ∧ Ev (fun k => dancestudiolaw50_RehearseLeast.l1 k l p 0) true)) → Ev (fun k => dancestudiolaw50_RehearseLeast.l0 k l p (i : Int)) true
 | 0, i, hd, h => by
  refine ev_step (fun k => by simp only [dancestudiolaw50_RehearseLeast.l0] <;> exact rfl) (ev_neg (by omega) ?_)
  rcases h with ⟨j, h1, h2, h3, h4⟩ | h
  · omega
  · exact h.2
 | d + 1, i, hd, h => by
  refine ev_step (fun k => by simp only [dancestudiolaw50_RehearseLeast.l0] <;> exact rfl) (ev_pos (by omega) (ev_pos (by omega) (ev_pos (by omega) ?_)))
  rw [w64 (n := (i : Int) + 1) (by omega) (by omega)]
  by_cases e : st p i = st l i
  · refine ev_pos e (law_l0 hl hp d (i + 1) (by omega) ?_)
    rcases h with ⟨j, h1, h2, h3, h4⟩ | ⟨h, h5⟩
    · by_cases q : j = i
      · rw [q] at h3; omega
      · exact .inl ⟨j, by omega, h2, h3, fun k k1 k2 => h4 k (by omega) k2⟩
    · exact .inr ⟨fun k k1 k2 => h k (by omega) k2, h5⟩
  · refine ev_neg e (ev_pos (c := st p i < st l i) ?_ awake_out3)
    rcases h with ⟨j, h1, h2, h3, h4⟩ | ⟨h, _⟩
    · by_cases q : j = i
      · rw [q] at h3; exact h3
      · exact absurd (h4 i (Nat.le_refl _) (by omega)) e
    · exact absurd (h i (Nat.le_refl _) (by omega)) e
theorem take_eq {q q' : List Int} {j k : Nat} (h : q.take j = q'.take j) (hk : k < j) (h1 : j ≤ q.length) (h2 : j ≤ q'.length) : rd q (k : Int) = rd q' k := by
  rw [← rd_take hk h1, ← rd_take hk h2, h]
/-- No plan that is as good is ahead of the plan that is found. -/
theorem least_loop {t : Tk} {l : List S48} (v : Vld t l) {e : Nat} {q out : List Int} (hq : slotsD t e = some q) (hr : roomsD t q = some out) (s : SolS t e q) (r : SolR t q out) (he : endU t l t.sc.length ≤ e) : Ev (fun k => dancestudiolaw50_RehearseLeast.l0 k l (mkS q out) 0) true := by
  have o := v.ok
  have hn := o.n
  have hl := v.len
  have hql := s.len
  obtain ⟨s', r'⟩ := valid_sol v he
  have w := way_ofSol o s' r'
  refine law_l0 (by omega) (by rw [mkS_len]; omega) l.length 0 (Nat.zero_add _) ?_
  rcases dfs_least hq w with h | ⟨j, _, h2, h3, h4⟩
  · -- the slots are the same
    refine .inr ⟨fun k _ hk => by rw [(st_mk (show k < q.length by omega)).1, h]; exact slotsOf_at (by omega), ?_⟩
    refine law_l1 (by omega) (by rw [mkS_len]; omega) l.length 0 (Nat.zero_add _) ?_
    have w2 := sol_way r'
    have w3 : Way t.ro.length (okR t q) q.length [] (roomsOf t l) := by rw [h]; exact w2
    have hol := r.len
    rcases dfs_least (show dfs t.ro.length (okR t q) q.length [] = some out from hr) w3 with h' | ⟨j, _, h2, h3, h4⟩
    · exact .inr fun k _ hk => by rw [(st_mk (show k < q.length by omega)).2.1, h']; exact roomsOf_at (by omega)
    · have hj : j < l.length := by omega
      refine .inl ⟨j, Nat.zero_le _, hj, ?_, fun k _ hk => ?_⟩
      · rw [(st_mk (show j < q.length by omega)).2.1, ← roomsOf_at (t := t) (show j < t.sc.length by omega)]; exact h3
      · rw [(st_mk (show k < q.length by omega)).2.1, ← roomsOf_at (t := t) (show k < t.sc.length by omega)]
        exact take_eq h4 hk (by omega) (by rw [roomsOf_len]; omega)
  · have hj : j < l.length := by omega
    refine .inl ⟨j, Nat.zero_le _, hj, ?_, fun k _ hk => ?_⟩
    · rw [(st_mk (show j < q.length by omega)).1, ← slotsOf_at (t := t) (show j < t.sc.length by omega)]; exact h3
    · rw [(st_mk (show k < q.length by omega)).1, ← slotsOf_at (t := t) (show k < t.sc.length by omega)]
      exact take_eq h4 hk (by omega) (by rw [slotsOf_len]; omega)
theorem hl_mk {q out : List Int} {t : Tk} {e : Nat} (he : (e : Int) ≤ 32) (s : SolS t e q) (o : Okt t) : Hl (mkS q out) := by
  intro x hx
  obtain ⟨i, hi, rfl⟩ := List.mem_iff_getElem.1 hx
  have hi' : i < t.sc.length := by rw [mkS_len, s.len] at hi; exact hi
  rw [mkS_get]
  have := s.slot i hi'
  have := o.ln i hi'
  show -9223372036854775808 ≤ rd q i ∧ rd q i ≤ 9223372036854775807
  omega
theorem law_j0 (t : Tk) (hc : Hc t) (l : List S48) (hw : Hl l) (b : Bool) : Ev (fun k => dancestudiolaw50_RehearseLeast.j0 k l b t.sc t.ro t.bu t.sl) true := by
  refine ev_step (fun k => by simp only [dancestudiolaw50_RehearseLeast.j0] <;> exact rfl) ?_
  cases b with
  | true => exact ev_pos (c := true = true) rfl awake_out3
  | false =>
    refine ev_neg (by simp) ?_
    unfold dancestudiolaw50_of.f
    refine ev_let (Ev.bind (Plan_ev t hc) (ev_let (Ev.bind (chk_ev t hc) (ev_let (Ev.bind (End_ev t hc l hw) ?_)))))
    by_cases h : chkT t = 0
    · have o := chk_ok.1 h
      have h32 := o.s2
      refine ev_pos h ?_
      rw [show planR t = planO t from if_pos h]
      rcases plan_cases o with ⟨hp, hno⟩ | ⟨e, q, out, hp, he, hq, hr, s, r, hleast, hend⟩
      · rw [hp]
        refine ev_neg (by simp) (ev_pos (by simp) (ev_pos rfl (ev_neg ?_ awake_out3)))
        intro hv
        unfold endS at hv
        by_cases q : validS t l = 0
        · exact hno l (valid_ok.1 q)
        · rw [if_neg q] at hv; exact q hv
      · rw [hp]
        have v := sol_valid o he s r
        have hwp := hl_mk (out := out) (by omega) s o
        have ev := End_ev t hc (mkS q out) hwp
        rw [show endS t (mkS q out) = ((e : Int), 0) by unfold endS; rw [if_pos (valid_ok.2 v), hend]] at ev
        have lv := Least_ev t hc
        rw [show leastR t = (leastT t, 0) from if_pos h] at lv
        have vv := Valid_ev t hc (mkS q out) hwp
        rw [valid_ok.2 v] at vv
        refine ev_pos rfl (ev_let (Ev.bind ev (ev_let (Ev.bind lv (ev_pos rfl (ev_pos rfl (ev_let (Ev.bind vv (ev_pos rfl (ev_neg (Int.not_lt.2 (least_le o s r)) (ev_neg (show ¬ (e : Int) > t.sl by omega) ?_)))))))))))
        rw [show (((mkS q out).length : Int) != (t.sc.length : Int)) = false by rw [mkS_len, s.len]; simp]
        refine ev_step (fun k => by simp only [dancestudiolaw50_RehearseLeast.j1] <;> exact rfl) (ev_neg (by simp) ?_)
        have j2t : ∀ x y : Int, Ev (fun k => dancestudiolaw50_RehearseLeast.j2 k l (mkS q out) x y true) true := fun x y =>
          ev_step (fun k => by simp only [dancestudiolaw50_RehearseLeast.j2] <;> exact rfl) (ev_pos (c := true = true) rfl awake_out3)
        by_cases hv : validS t l = 0
        · have vl := valid_ok.1 hv
          rw [show endS t l = (endU t l t.sc.length, 0) from if_pos hv]
          refine ev_pos rfl ?_
          by_cases hgt : endU t l t.sc.length > e
          · rw [show decide (endU t l t.sc.length > (e : Int)) = true from decide_eq_true hgt]; exact j2t _ _
          · rw [show decide (endU t l t.sc.length > (e : Int)) = false from decide_eq_false hgt]
            obtain ⟨e2, q2, out2, hp2, he2, _, _, s2, r2, hl2⟩ := plan_of_valid vl
            have hge : (e : Int) ≤ endU t l t.sc.length := by
              have hne := planE_of o s2 r2
              by_cases c : e ≤ e2
              · omega
              · exact absurd (hleast e2 (by omega)) hne
            refine ev_step (fun k => by simp only [dancestudiolaw50_RehearseLeast.j2] <;> exact rfl) (ev_neg (by simp) (ev_neg (by omega) ?_))
            rw [show ((l.length : Int) != ((mkS q out).length : Int)) = false by rw [mkS_len, s.len, vl.len]; simp]
            exact ev_step (fun k => by simp only [dancestudiolaw50_RehearseLeast.j3] <;> exact rfl) (ev_neg (by simp) (least_loop vl hq hr s r (by omega)))
        · rw [show endS t l = (0, validS t l) from if_neg hv]
          exact ev_neg hv (j2t _ _)
    · refine ev_neg h ?_
      rw [show planR t = ([], chkT t) from if_neg h]
      have hv : validS t l = chkT t := if_neg h
      rw [show endS t l = (0, chkT t) by unfold endS; rw [hv, if_neg h]]
      exact ev_pos rfl (ev_pos rfl (ev_pos rfl (ev_pos rfl awake_out3)))
theorem leasts_ev (t : Tk) (hc : Hc t) (l : List S48) (hw : Hl l) : Ev (fun k => dancestudiolaw50_RehearseLeast.f k t.sc t.ro t.bu t.sl l) true := by
  unfold dancestudiolaw50_RehearseLeast.f
  by_cases h : (t.sc.length : Int) > 5
  · exact ev_pos h (law_j0 t hc l hw _)
  · refine ev_neg h ?_
    by_cases h2 : t.sl > 6
    · exact ev_pos h2 (law_j0 t hc l hw _)
    · exact ev_neg h2 (law_j0 t hc l hw _)
theorem pure_RehearseLeast (t : Tk) (hs : t.sc.length ≤ maxLen ∧ Hc t) (_ : t.ro.length ≤ maxLen) (_ : t.bu.length ≤ maxLen) (_ : -9223372036854775808 ≤ t.sl ∧ t.sl ≤ 9223372036854775807) (l : List S48) (_ : l.length ≤ maxLen) (hl : Hl l) : ∃ k, dancestudiolaw50_RehearseLeast.f k t.sc t.ro t.bu t.sl l = some true :=
  ev_some (leasts_ev t hs.2 l hl)
end Go.Proofs.Ytjppjppapdflmaa.PAll
