/- MatchMore: plain law. -/
import Derived.Test.YtaacihkhckpecaaPAllx0
import Derived.Test.YtaacihkhckpecaaPAllf8
import Derived.Test.YtaacihkhckpecaaMatCheck
namespace Go.Proofs.Ytaacihkhckpecaa.PAll
set_option linter.unusedVariables false
open Go Go.RowKit Go.Proofs.YtaacihkhckpecaaW.PrintWords Go.Proofs.YtaacihkhckpecaaW.PrintLast Go.Proofs.YtaacihkhckpecaaW.PrintMore Go.Proofs.Ytaacihkhckpecaa.MathNum Go.Proofs.Ytaacihkhckpecaa.EvWords

theorem rd_L1_get {l : List (List Bool)} {i : Nat} (h : i < l.length) : rd_L1 l (i : Int) = l[i] := by
  unfold rd_L1
  rw [List.getD_eq_getElem?_getD, Int.toNat_natCast, List.getElem?_eq_getElem h]; rfl
theorem rd_L1_set {l : List (List Bool)} {i j : Nat} {v : List Bool} (h : i < l.length) : rd_L1 (l.set i v) (j : Int) = if j = i then v else rd_L1 l (j : Int) := by
  unfold rd_L1
  rw [List.getD_eq_getElem?_getD, Int.toNat_natCast, List.getElem?_set, List.getD_eq_getElem?_getD]
  by_cases e : j = i
  · rw [if_pos e.symm, if_pos e, if_pos (by omega)]; rfl
  · rw [if_neg (by omega), if_neg e]
/-- Without one row a matching is shorter by one at most. -/
theorem drop_row (a : Nat) : ∀ ps : List (Nat × Nat), ps.Pairwise (fun x y => x.1 ≠ y.1) → ps.length ≤ (ps.filter fun p => decide (p.1 ≠ a)).length + 1 := by
  intro ps
  induction ps with
  | nil => intro _; simp
  | cons p t ih =>
    intro h
    rw [List.pairwise_cons] at h
    by_cases e : p.1 = a
    · rw [List.filter_cons_of_neg (by simpa using e)]
      have : t.filter (fun p => decide (p.1 ≠ a)) = t := List.filter_eq_self.2 fun q hq => by have := h.1 q hq; simp; omega
      rw [this]; simp
    · rw [List.filter_cons_of_pos (by simpa using e)]
      have := ih h.2
      simp only [List.length_cons]; omega
theorem Mt.filter {l : List (List Bool)} {tk : List Bool} {fr : Nat} {ps : List (Nat × Nat)} (h : Mt l tk fr ps) (q : Nat × Nat → Bool) : Mt l tk fr (ps.filter q) :=
  ⟨h.rows.filter q, h.cols.filter q, fun p hp => h.ok p (List.mem_filter.1 hp).1⟩
/-- One place more. -/
theorem nu_more {l l' : List (List Bool)} {tk : List Bool} {a b k k' : Nat} (h : IsNu l tk 0 k) (h' : IsNu l' tk 0 k') (sub : ∀ r c, Ed l tk r c → Ed l' tk r c) (sup : ∀ r c, Ed l' tk r c → Ed l tk r c ∨ r = a ∧ c = b) : k' = k ∨ k' = k + 1 ∧ ¬ Ed l tk a b := by
  obtain ⟨⟨ps, m, e⟩, u⟩ := h
  obtain ⟨⟨ps', m', e'⟩, u'⟩ := h'
  have up := u' ps ⟨m.rows, m.cols, fun p hp => ⟨(m.ok p hp).1, sub _ _ (m.ok p hp).2⟩⟩
  by_cases hE : Ed l tk a b
  · have := u ps' ⟨m'.rows, m'.cols, fun p hp => ⟨(m'.ok p hp).1, (sup _ _ (m'.ok p hp).2).elim id fun ⟨e1, e2⟩ => by rw [e1, e2]; exact hE⟩⟩
    omega
  · have f := m'.filter (fun p => decide (p.1 ≠ a))
    have := u _ ⟨f.rows, f.cols, fun p hp => ⟨(f.ok p hp).1, (sup _ _ (f.ok p hp).2).elim id fun ⟨e1, _⟩ => by
      have := (List.mem_filter.1 hp).2
      simp [e1] at this⟩⟩
    have := drop_row a ps' m'.rows
    by_cases e : k' = k
    · exact Or.inl e
    · exact Or.inr ⟨by omega, hE⟩

theorem more_loop {l : List (List Bool)} {m : Nat} (T : Tab l m) {a b : Nat} (ha : a < l.length) (hb : b < m) {k0 : Nat} (hk : IsNu l (free l) 0 k0) (d : Nat) : ∀ i : Nat, i + d = l.length → Ev (fun k => dancestudiolaw10_MatchMore.l0 k l (a : Int) (b : Int) (k0 : Int) (l.take i) (i : Int)) true := by
  have h1 := T.rows
  have h2 := T.cols
  have hco := (tab_chk T).2
  induction d with
  | zero =>
    intro i hi
    rw [List.take_of_length_le (by omega)]
    refine ev_step (fun k => by simp only [dancestudiolaw10_MatchMore.l0] <;> exact rfl) (ev_neg (by omega) (ev_pos (by omega) (ev_pos (by omega) (ev_pos (by omega) (ev_pos (by rw [T.wide a ha]; omega) ?_)))))
    rw [Int.toNat_natCast, Int.toNat_natCast]
    have lr := T.wide a ha
    have T' : Tab (l.set a ((rd_L1 l (a : Int)).set b true)) m := by
      refine ⟨by simpa using h1, h2, fun r hr => ?_, fun h => by rw [List.length_set] at h; omega⟩
      rw [List.length_set] at hr
      rw [rd_L1_set ha]
      by_cases e : r = a
      · rw [if_pos e, List.length_set, lr]
      · rw [if_neg e, T.wide r hr]
    obtain ⟨hc', hm'⟩ := tab_chk T'
    obtain ⟨k', e', n'⟩ := size_ok hc'
    have fe : free (l.set a ((rd_L1 l (a : Int)).set b true)) = free l := by unfold free; rw [hm', hco]
    rw [fe] at n'
    have cell : ∀ c : Nat, rdOf false ((rd_L1 l (a : Int)).set b true) (c : Int) = true ↔ c = b ∨ rdOf false (rd_L1 l (a : Int)) (c : Int) = true := fun c => sb_set (s := rd_L1 l (a : Int)) (c := b) (x := c) (by rw [lr]; exact hb)
    have sub : ∀ r c, Ed l (free l) r c → Ed (l.set a ((rd_L1 l (a : Int)).set b true)) (free l) r c := fun r c ⟨g1, g2, g3, g4⟩ => by
      refine ⟨by simpa using g1, g2, ?_, g4⟩
      rw [rd_L1_set ha]
      by_cases e : r = a
      · subst e; rw [if_pos rfl, cell]; exact Or.inr g3
      · rw [if_neg e]; exact g3
    have sup : ∀ r c, Ed (l.set a ((rd_L1 l (a : Int)).set b true)) (free l) r c → Ed l (free l) r c ∨ r = a ∧ c = b := fun r c ⟨g1, g2, g3, g4⟩ => by
      rw [List.length_set] at g1
      rw [rd_L1_set ha] at g3
      by_cases e : r = a
      · subst e
        rw [if_pos rfl, cell] at g3
        rcases g3 with g3 | g3
        · exact Or.inr ⟨rfl, g3⟩
        · exact Or.inl ⟨g1, g2, g3, g4⟩
      · rw [if_neg e] at g3; exact Or.inl ⟨g1, g2, g3, g4⟩
    refine Ev.bind e' (ev_pos rfl ?_)
    have small := hk.1
    have klt : k0 ≤ 24 := by
      obtain ⟨ps, mt, e⟩ := small
      have : (ps.map Prod.fst).Nodup := by show (ps.map Prod.fst).Pairwise (· ≠ ·); rw [List.pairwise_map]; exact mt.rows
      have := nodup_len (l := List.range l.length) this (fun x hx => by
        obtain ⟨p, hp, rfl⟩ := List.mem_map.1 hx
        exact List.mem_range.2 (mt.ok p hp).2.1)
      simp at this; omega
    rcases nu_more hk n' sub sup with e | ⟨e, hE⟩
    · exact ev_pos (by omega) (Ev.bind awake_ev (ev_now _))
    · refine ev_neg (by omega) ?_
      rw [w64 (by omega) (by omega)]
      refine ev_pos (by omega) (ev_pos (by omega) (ev_pos (by omega) (ev_neg (fun h => hE ⟨ha, by rw [free_len, hco]; exact hb, h, fun g => by unfold free at g; exact sb_rep g⟩) (Ev.bind awake_ev (ev_now _)))))
  | succ d ih =>
    intro i hi
    have hw := T.wide i (by omega)
    refine ev_step (fun k => by simp only [dancestudiolaw10_MatchMore.l0, Option.bind_some] <;> exact rfl) (ev_pos (by omega) (ev_pos (by omega) (ev_pos (by simp only [List.length_nil]; omega) (ev_pos (by simp; omega) ?_))))
    rw [w64 (by omega) (by omega), List.nil_append, rd_L1_get (by omega)]
    have := ih (i + 1) (by omega)
    rw [List.take_succ_eq_append_getElem (by omega)] at this
    exact this
theorem pure_MatchMore (l : List (List Bool)) (_ : l.length ≤ maxLen) (_ : ∀ r ∈ l, r.length ≤ maxLen) (row : Int) (_ : (Lit.int .i64 row).wf = true) (col : Int) (_ : (Lit.int .i64 col).wf = true) : ∃ k, dancestudiolaw10_MatchMore.f k l row col = some true := by
  refine ev_some ?_
  simp only [dancestudiolaw10_MatchMore.f]
  have out : ∀ n : Int, Ev (fun k => dancestudiolaw10_MatchMore.j0 k l row col n true) true := fun n => ev_step (fun k => by simp only [dancestudiolaw10_MatchMore.j0] <;> exact rfl) (ev_pos (show true = true from rfl) (Ev.bind awake_ev (ev_now _)))
  by_cases hc : chk l = 0
  · obtain ⟨k, e, hk⟩ := size_ok hc
    have T := chk_tab hc
    refine Ev.bind e (ev_pos rfl ?_)
    by_cases c1 : row < 0
    · exact ev_pos c1 (out _)
    · refine ev_neg c1 ?_
      by_cases c2 : row ≥ (l.length : Int)
      · exact ev_pos c2 (out _)
      · refine ev_neg c2 ?_
        by_cases c3 : col < 0
        · exact ev_pos c3 (out _)
        · refine ev_neg c3 (ev_pos (by omega) (ev_pos (by omega) ?_))
          obtain ⟨a, rfl⟩ := Int.eq_ofNat_of_zero_le (show 0 ≤ row by omega)
          obtain ⟨b, rfl⟩ := Int.eq_ofNat_of_zero_le (show 0 ≤ col by omega)
          have hw := T.wide a (by omega)
          by_cases c4 : ((b : Nat) : Int) ≥ ((rd_L1 l (a : Int)).length : Int)
          · rw [decide_eq_true c4]; exact out _
          · rw [decide_eq_false c4]
            refine ev_step (fun k => by simp only [dancestudiolaw10_MatchMore.j0] <;> exact rfl) (ev_neg (by simp) ?_)
            exact more_loop T (by omega) (by omega) hk l.length 0 (by omega)
  · exact Ev.bind (size_bad hc) (ev_neg hc (out _))
end Go.Proofs.Ytaacihkhckpecaa.PAll
