/- MatchTurned: plain law. -/
import Derived.Test.YtaacihkhckpecaaPAllx0
import Derived.Test.YtaacihkhckpecaaPAllf9
import Derived.Test.YtaacihkhckpecaaMatCheck
namespace Go.Proofs.Ytaacihkhckpecaa.PAll
set_option linter.unusedVariables false
open Go Go.RowKit Go.Proofs.YtaacihkhckpecaaW.PrintWords Go.Proofs.YtaacihkhckpecaaW.PrintLast Go.Proofs.YtaacihkhckpecaaW.PrintMore Go.Proofs.Ytaacihkhckpecaa.MathNum Go.Proofs.Ytaacihkhckpecaa.EvWords

/-- The table with rows and columns exchanged, its first columns. -/
def colAt (l : List (List Bool)) (c n : Nat) : List Bool := (List.range n).map fun i : Nat => rdOf false (rd_L1 l (i : Int)) (c : Int)
def turned (l : List (List Bool)) (j : Nat) : List (List Bool) := (List.range j).map fun c : Nat => colAt l c l.length
theorem colAt_rd {l : List (List Bool)} {c n i : Nat} (h : i < n) : rdOf false (colAt l c n) (i : Int) = rdOf false (rd_L1 l (i : Int)) (c : Int) := by
  have hl : i < (colAt l c n).length := by simpa [colAt] using h
  have e : rdOf false (colAt l c n) (i : Int) = (colAt l c n)[i] := by
    unfold rdOf; rw [List.getD_eq_getElem?_getD, Int.toNat_natCast, List.getElem?_eq_getElem hl]; rfl
  rw [e]; simp [colAt]
theorem turned_rd {l : List (List Bool)} {j c : Nat} (h : c < j) : rd_L1 (turned l j) (c : Int) = colAt l c l.length := by
  have hl : c < (turned l j).length := by simpa [turned] using h
  have e : rd_L1 (turned l j) (c : Int) = (turned l j)[c] := by
    unfold rd_L1; rw [List.getD_eq_getElem?_getD, Int.toNat_natCast, List.getElem?_eq_getElem hl]; rfl
  rw [e]; simp [turned]
theorem turned_tab {l : List (List Bool)} {m : Nat} (T : Tab l m) (hn : l.length ≠ 0) : Tab (turned l m) (if m = 0 then 0 else l.length) := by
  have h1 := T.rows
  have h2 := T.cols
  refine ⟨by simpa [turned] using h2, by split <;> omega, fun r hr => ?_, fun h => ?_⟩
  · have hr' : r < m := by simpa [turned] using hr
    rw [turned_rd hr', if_neg (by omega)]; simp [colAt]
  · have : m = 0 := by simpa [turned] using h
    rw [if_pos this]
/-- Places exchanged. -/
theorem swap_mt {l l' : List (List Bool)} {tk tk' : List Bool} {ps : List (Nat × Nat)} (h : Mt l tk 0 ps) (g : ∀ r c, Ed l tk r c → Ed l' tk' c r) : Mt l' tk' 0 (ps.map fun p => (p.2, p.1)) := by
  refine ⟨?_, ?_, fun p hp => ?_⟩
  · rw [List.pairwise_map]; exact h.cols
  · rw [List.pairwise_map]; exact h.rows
  · obtain ⟨q, hq, rfl⟩ := List.mem_map.1 hp
    exact ⟨Nat.zero_le _, g _ _ (h.ok q hq).2⟩
theorem swap_nu {l l' : List (List Bool)} {tk tk' : List Bool} {k k' : Nat} (h : IsNu l tk 0 k) (h' : IsNu l' tk' 0 k') (g : ∀ r c, Ed l tk r c → Ed l' tk' c r) (g' : ∀ r c, Ed l' tk' r c → Ed l tk c r) : k' = k := by
  obtain ⟨⟨ps, m, e⟩, u⟩ := h
  obtain ⟨⟨ps', m', e'⟩, u'⟩ := h'
  have := u' _ (swap_mt m g)
  have := u _ (swap_mt m' g')
  simp at *
  omega
theorem free_no {l : List (List Bool)} {c : Nat} : ¬ sb (free l) c := fun g => by unfold free at g; exact sb_rep g

theorem turned_l1 {l : List (List Bool)} {m : Nat} (T : Tab l m) {c : Nat} (hc : c < m) {x3 : Int} {x5 : List (List Bool)} (h5 : x5.length ≤ 24) (h : Ev (fun k => dancestudiolaw10_MatchTurned.l0 k l x3 (x5 ++ [colAt l c l.length]) ((c + 1 : Nat) : Int)) true) (d : Nat) : ∀ i : Nat, i + d = l.length → Ev (fun k => dancestudiolaw10_MatchTurned.l1 k l x3 x5 (c : Int) (colAt l c i) (i : Int)) true := by
  have h1 := T.rows
  have h2 := T.cols
  induction d with
  | zero =>
    intro i hi
    have : i = l.length := by omega
    subst this
    refine ev_step (fun k => by simp only [dancestudiolaw10_MatchTurned.l1] <;> exact rfl) (ev_neg (by omega) (ev_pos (by omega) ?_))
    rw [w64 (by omega) (by omega)]; exact h
  | succ d ih =>
    intro i hi
    have hw := T.wide i (by omega)
    refine ev_step (fun k => by simp only [dancestudiolaw10_MatchTurned.l1] <;> exact rfl) (ev_pos (by omega) (ev_pos (by omega) (ev_neg (by omega) (ev_pos (by omega) (ev_pos (by omega) (ev_pos (by simp [colAt]; omega) ?_))))))
    rw [w64 (by omega) (by omega)]
    have e : colAt l c i ++ [rdOf false (rd_L1 l (i : Int)) (c : Int)] = colAt l c (i + 1) := by
      unfold colAt; rw [List.range_succ, List.map_append]; rfl
    rw [e]
    exact ih (i + 1) (by omega)
theorem turned_l0 {l : List (List Bool)} {m : Nat} (T : Tab l m) (hn : l.length ≠ 0) {k0 : Nat} (hk : IsNu l (free l) 0 k0) (d : Nat) : ∀ c : Nat, c + d = m → Ev (fun k => dancestudiolaw10_MatchTurned.l0 k l (k0 : Int) (turned l c) (c : Int)) true := by
  have h1 := T.rows
  have h2 := T.cols
  have hw : (rd_L1 l 0).length = m := T.wide 0 (by omega)
  have hco := (tab_chk T).2
  induction d with
  | zero =>
    intro c hc
    have : c = m := by omega
    subst this
    refine ev_step (fun k => by simp only [dancestudiolaw10_MatchTurned.l0] <;> exact rfl) (ev_pos (by omega) (ev_neg (by omega) ?_))
    obtain ⟨hc', hm'⟩ := tab_chk (turned_tab T hn)
    obtain ⟨k', e', n'⟩ := size_ok hc'
    have fl : (free (turned l c)).length = if c = 0 then 0 else l.length := by rw [free_len, hm']
    have tl : (turned l c).length = c := by simp [turned]
    have := swap_nu hk n' (fun r x ⟨g1, g2, g3, g4⟩ => by
      rw [free_len, hco] at g2
      refine ⟨by rw [tl]; exact g2, by rw [fl, if_neg (by omega)]; exact g1, ?_, free_no⟩
      rw [turned_rd g2, colAt_rd g1]; exact g3) (fun x r ⟨g1, g2, g3, g4⟩ => by
      rw [tl] at g1
      rw [fl, if_neg (by omega)] at g2
      rw [turned_rd g1, colAt_rd g2] at g3
      exact ⟨g2, by rw [free_len, hco]; exact g1, g3, free_no⟩)
    exact Ev.bind e' (ev_pos rfl (ev_pos (by omega) (Ev.bind awake_ev (ev_now _))))
  | succ d ih =>
    intro c hc
    refine ev_step (fun k => by simp only [dancestudiolaw10_MatchTurned.l0] <;> exact rfl) (ev_pos (by omega) (ev_pos (by omega) ?_))
    have e : turned l c ++ [colAt l c l.length] = turned l (c + 1) := by
      unfold turned; rw [List.range_succ, List.map_append]; rfl
    refine turned_l1 (c := c) (x5 := turned l c) T (by omega) (by simp [turned]; omega) ?_ l.length 0 (by omega)
    rw [e]; exact ih (c + 1) (by omega)
theorem pure_MatchTurned (l : List (List Bool)) (_ : l.length ≤ maxLen) (_ : ∀ r ∈ l, r.length ≤ maxLen) : ∃ k, dancestudiolaw10_MatchTurned.f k l = some true := by
  refine ev_some ?_
  simp only [dancestudiolaw10_MatchTurned.f]
  by_cases hc : chk l = 0
  · obtain ⟨k, e, hk⟩ := size_ok hc
    have T := chk_tab hc
    have h1 := T.rows
    have h2 := T.cols
    refine Ev.bind e (ev_pos rfl ?_)
    by_cases hn : l.length = 0
    · refine ev_pos (by omega) ?_
      have : k = 0 := by
        obtain ⟨⟨ps, mt, e⟩, _⟩ := hk
        cases ps with
        | nil => simpa using e.symm
        | cons p t => have := (mt.ok p (by simp)).2.1; omega
      exact ev_step (fun k => by simp only [dancestudiolaw10_MatchTurned.j0] <;> exact rfl) (ev_pos (show true = true from rfl) (ev_pos (show (0 : Int) = 0 from rfl) (ev_pos (by omega) (ev_pos (by omega) (Ev.bind awake_ev (ev_now _))))))
    · refine ev_neg (by omega) (ev_neg (by omega) (ev_pos (by omega) ?_))
      rw [decide_eq_false (show ¬ (((rd_L1 l 0).length : Int) > 24) by unfold colsOf at h2; omega)]
      refine ev_step (fun k => by simp only [dancestudiolaw10_MatchTurned.j0] <;> exact rfl) (ev_neg (by simp) ?_)
      exact turned_l0 T hn hk (colsOf l) 0 (by omega)
  · refine Ev.bind (size_bad hc) (ev_neg hc ?_)
    exact ev_step (fun k => by simp only [dancestudiolaw10_MatchTurned.j0] <;> exact rfl) (ev_pos (show true = true from rfl) (ev_neg hc (Ev.bind awake_ev (ev_now _))))
end Go.Proofs.Ytaacihkhckpecaa.PAll
