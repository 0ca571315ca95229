/- MatchCover: plain law. -/
import Derived.Test.YtaacihkhckpecaaPAllx0
import Derived.Test.YtaacihkhckpecaaPAllf5
import Derived.Test.YtaacihkhckpecaaPAllf22
import Derived.Test.YtaacihkhckpecaaPAllf23
import Derived.Test.YtaacihkhckpecaaMatPm
import Derived.Test.YtaacihkhckpecaaMatCover
namespace Go.Proofs.Ytaacihkhckpecaa.PAll
set_option linter.unusedVariables false
open Go Go.RowKit Go.Proofs.YtaacihkhckpecaaW.PrintWords Go.Proofs.YtaacihkhckpecaaW.PrintLast Go.Proofs.YtaacihkhckpecaaW.PrintMore Go.Proofs.Ytaacihkhckpecaa.MathNum Go.Proofs.Ytaacihkhckpecaa.EvWords

theorem Greedy.fits {l : List (List Bool)} {i : Nat} {tk : List Bool} {lf : Nat} {rest : List Int} (h : Greedy l i tk lf rest) : i + rest.length = l.length ∧ (pm i rest).length = lf ∧ ∀ j (h : j < rest.length), rest[j] = -1 ∨ ∃ c : Nat, rest[j] = (c : Int) ∧ Ed l tk (i + j) c ∧ ∀ q (hq : q < j), rest[q]'(by omega) ≠ (c : Int) := by
  induction h with
  | done i tk lf hi hn =>
    refine ⟨by simpa using hi, ?_, fun j h => by simp at h⟩
    obtain ⟨⟨ps, m, e⟩, _⟩ := hn
    cases ps with
    | nil => simpa [pm] using e
    | cons p ps => have := m.ok p (by simp); have := this.2.1; omega
  | pick i tk lf c rest hi hn hg hl h ih =>
    obtain ⟨h1, h2, h3⟩ := ih
    refine ⟨by simp; omega, ?_, fun j hj => ?_⟩
    · unfold pm
      rw [if_neg (by omega)]
      have := hg.2.2
      simp; omega
    · cases j with
      | zero => exact Or.inr ⟨c, by simp, by simpa using hg.1, fun q hq => by omega⟩
      | succ j =>
        simp only [List.getElem_cons_succ]
        rcases h3 j (by simpa using hj) with g | ⟨c', g1, g2, g3⟩
        · exact Or.inl g
        · obtain ⟨g4, g5⟩ := (Ed_set hg.1.2.1).1 g2
          refine Or.inr ⟨c', g1, by rw [show i + (j + 1) = i + 1 + j by omega]; exact g4, fun q hq => ?_⟩
          cases q with
          | zero => simp <;> omega
          | succ q => simpa using g3 q (by omega)
  | skip i tk lf rest hi hn hl h ih =>
    obtain ⟨h1, h2, h3⟩ := ih
    refine ⟨by simp; omega, ?_, fun j hj => ?_⟩
    · unfold pm
      rw [if_pos rfl]; exact h2
    · cases j with
      | zero => exact Or.inl (by simp)
      | succ j =>
        simp only [List.getElem_cons_succ]
        rcases h3 j (by simpa using hj) with g | ⟨c', g1, g2, g3⟩
        · exact Or.inl g
        · refine Or.inr ⟨c', g1, by rw [show i + (j + 1) = i + 1 + j by omega]; exact g2, fun q hq => ?_⟩
          cases q with
          | zero => simp <;> omega
          | succ q => simpa using g3 q (by omega)
theorem Greedy.vm {l : List (List Bool)} (hc : chk l = 0) {lf : Nat} {out : List Int} (h : Greedy l 0 (free l) lf out) : VM l out ∧ (pm 0 out).length = lf := by
  obtain ⟨h1, h2, h3⟩ := h.fits
  refine ⟨⟨hc, by omega, fun i hi => ?_⟩, h2⟩
  unfold Fits
  rw [ow_get (by omega)]
  rcases h3 i (by omega) with g | ⟨c, g1, g2, g3⟩
  · exact Or.inl g
  · rw [g1]
    refine Or.inr ⟨by omega, ?_, ?_, fun j hj => ?_⟩
    · have := g2.2.1
      rw [free_len] at this; omega
    · have := g2.2.2.1
      rw [Nat.zero_add] at this; exact this
    · rw [ow_get (by omega)]; exact g3 j hj
theorem has_loop {xs : List Int} (hx : xs.length ≤ 24) {x : Int} (d : Nat) : ∀ i : Nat, i + d = xs.length → (∀ j, j < i → ow xs j ≠ x) → Ev (fun k => dancestudiolaw10_has.l0 k xs x (i : Int)) (decide (x ∈ xs)) := by
  induction d with
  | zero =>
    intro i hi h
    rw [decide_eq_false]
    · exact ev_step (fun k => by simp only [dancestudiolaw10_has.l0] <;> exact rfl) (ev_neg (by omega) (ev_now _))
    · intro hm
      obtain ⟨j, hj, e⟩ := List.getElem_of_mem hm
      exact h j (by omega) (by rw [ow_get hj]; exact e)
  | succ d ih =>
    intro i hi h
    refine ev_step (fun k => by simp only [dancestudiolaw10_has.l0] <;> exact rfl) (ev_pos (by omega) (ev_pos (by omega) ?_))
    by_cases c : ow xs i = x
    · rw [decide_eq_true (by rw [← c, ow_get (by omega)]; exact List.getElem_mem _)]
      exact ev_pos c (ev_now _)
    · refine ev_neg c ?_
      rw [w64 (by omega) (by omega)]
      refine ih (i + 1) (by omega) fun j hj => ?_
      by_cases q : j = i
      · subst q; exact c
      · exact h j (by omega)
theorem has_ev {xs : List Int} (hx : xs.length ≤ 24) (x : Int) : Ev (fun k => dancestudiolaw10_has.f k xs x) (decide (x ∈ xs)) := by
  simp only [dancestudiolaw10_has.f]
  exact has_loop hx xs.length 0 (by omega) (fun j hj => by omega)
theorem asc_loop {xs : List Nat} (hx : xs.length ≤ 24) {n : Nat} (h1 : ∀ x ∈ xs, x < n) (h2 : xs.Pairwise (· < ·)) (d : Nat) : ∀ i : Nat, i + d = xs.length → Ev (fun k => dancestudiolaw10_ascends.l0 k (ints xs) (n : Int) (i : Int)) true := by
  induction d with
  | zero =>
    intro i hi
    exact ev_step (fun k => by simp only [dancestudiolaw10_ascends.l0] <;> exact rfl) (ev_neg (by rw [ints_len]; omega) (ev_now _))
  | succ d ih =>
    intro i hi
    have val : ∀ j (h : j < xs.length), rd (ints xs) (j : Int) = (xs[j] : Int) := fun j h => by
      have := ow_get (o := ints xs) (c := j) (by rw [ints_len]; exact h)
      unfold ow at this
      rw [this]; simp [ints]
    have lt := h1 _ (List.getElem_mem (show i < xs.length by omega))
    refine ev_step (fun k => by simp only [dancestudiolaw10_ascends.l0] <;> exact rfl) (ev_pos (by rw [ints_len]; omega) (ev_pos (by omega) ?_))
    rw [val i (by omega), w64 (n := (i : Int) + 1) (by omega) (by omega)]
    refine ev_neg (by omega) (ev_neg (by omega) ?_)
    by_cases hz : i = 0
    · exact ev_neg (by omega) (ih (i + 1) (by omega))
    · refine ev_pos (by omega) ?_
      rw [w64 (n := (i : Int) - 1) (by omega) (by omega), show (i : Int) - 1 = ((i - 1 : Nat) : Int) by omega, val (i - 1) (by omega)]
      have := List.pairwise_iff_getElem.1 h2 (i - 1) i (by omega) (by omega) (by omega)
      exact ev_pos (by omega) (ev_pos (by rw [ints_len]; omega) (ev_neg (by omega) (ih (i + 1) (by omega))))
theorem asc_ev {xs : List Nat} (hx : xs.length ≤ 24) {n : Nat} (h1 : ∀ x ∈ xs, x < n) (h2 : xs.Pairwise (· < ·)) : Ev (fun k => dancestudiolaw10_ascends.f k (ints xs) (n : Int)) true := by
  simp only [dancestudiolaw10_ascends.f]
  exact asc_loop hx h1 h2 xs.length 0 (by omega)
theorem lawcover_l1 {l : List (List Bool)} (T : Tab l (colsOf l)) {a b : List Int} (ha : a.length ≤ 24) (hb : b.length ≤ 24) {i : Nat} (hi : i < l.length) (hc : ∀ c, Ed l (free l) i c → (i : Int) ∈ a ∨ (c : Int) ∈ b)
    (h : Ev (fun k => dancestudiolaw10_MatchCover.l0 k l a b ((i + 1 : Nat) : Int)) true) (d : Nat) : ∀ j : Nat, j + d = colsOf l → Ev (fun k => dancestudiolaw10_MatchCover.l1 k l a b (i : Int) (j : Int)) true := by
  have hw := T.wide i hi
  have h1 := T.rows
  have h2 := T.cols
  induction d with
  | zero =>
    intro j hj
    refine ev_step (fun k => by simp only [dancestudiolaw10_MatchCover.l1] <;> exact rfl) (ev_pos (by omega) (ev_pos (by omega) (ev_neg (by omega) ?_)))
    rw [w64 (by omega) (by omega)]; exact h
  | succ d ih =>
    intro j hj
    refine ev_step (fun k => by simp only [dancestudiolaw10_MatchCover.l1] <;> exact rfl) (ev_pos (by omega) (ev_pos (by omega) (ev_pos (by omega) (ev_pos (by omega) ?_))))
    rw [w64 (n := (j : Int) + 1) (by omega) (by omega)]
    by_cases c1 : rdOf false (rd_L1 l (i : Int)) (j : Int) = true
    · have := hc j ⟨hi, by rw [free_len]; omega, c1, by unfold free; exact sb_rep⟩
      refine ev_pos c1 (Ev.bind (has_ev ha _) ?_)
      by_cases g : (i : Int) ∈ a
      · rw [decide_eq_true g]; exact ev_pos rfl (ih (j + 1) (by omega))
      · rw [decide_eq_false g]
        refine ev_neg (by simp) (Ev.bind (has_ev hb _) ?_)
        rw [decide_eq_true (this.resolve_left g)]
        exact ev_pos rfl (ih (j + 1) (by omega))
    · exact ev_neg c1 (ih (j + 1) (by omega))
theorem lawcover_l0 {l : List (List Bool)} (T : Tab l (colsOf l)) {a : List Int} {b : List Nat} (ha : a.length ≤ 24) (hb : b.length ≤ 24) (b1 : ∀ x ∈ b, x < colsOf l) (b2 : b.Pairwise (· < ·)) (hc : ∀ i c, Ed l (free l) i c → (i : Int) ∈ a ∨ (c : Int) ∈ ints b)
    (d : Nat) : ∀ i : Nat, i + d = l.length → Ev (fun k => dancestudiolaw10_MatchCover.l0 k l a (ints b) (i : Int)) true := by
  have h1 := T.rows
  induction d with
  | zero =>
    intro i hi
    exact ev_step (fun k => by simp only [dancestudiolaw10_MatchCover.l0] <;> exact rfl) (ev_neg (by omega) (Ev.bind awake_ev (ev_now _)))
  | succ d ih =>
    intro i hi
    have hw := T.wide i (by omega)
    refine ev_step (fun k => by simp only [dancestudiolaw10_MatchCover.l0] <;> exact rfl) (ev_pos (by omega) (ev_pos (by omega) ?_))
    rw [hw]
    exact Ev.bind (asc_ev hb b1 b2) (ev_pos rfl (lawcover_l1 T ha (by rw [ints_len]; exact hb) (by omega) (hc i) (ih (i + 1) (by omega)) (colsOf l) 0 (by omega)))
theorem pure_MatchCover (l : List (List Bool)) (_ : l.length ≤ maxLen) (_ : ∀ r ∈ l, r.length ≤ maxLen) : ∃ k, dancestudiolaw10_MatchCover.f k l = some true := by
  refine ev_some ?_
  simp only [dancestudiolaw10_MatchCover.f]
  by_cases hc : chk l = 0
  · have T := chk_tab hc
    have h1 := T.rows
    have h2 := T.cols
    obtain ⟨k, e, hk⟩ := size_ok hc
    obtain ⟨k', out, hk', g, e2⟩ := match_ok hc
    have := hk.uniq hk'
    subst this
    obtain ⟨a, b, o, S, e3, hO, hcov⟩ := cover_ok hc
    have cnt := hcov.count hO
    have := hO.nu.uniq hk
    obtain ⟨vm, sz⟩ := g.vm hc
    have lo := vm.2.1
    obtain ⟨mk, R, C, hmk, hR, rfl, rfl⟩ := hcov
    have la := marked_len false R l.length
    have lb := marked_len true C (free l).length
    have lb' := marked_len true C (free l).length
    rw [free_len] at lb
    have lr := ints_len (marked false R l.length)
    have lc := ints_len (marked true C (free l).length)
    refine Ev.bind e (Ev.bind e2 (Ev.bind e3 (Ev.bind (check_ev l) (ev_pos hc (ev_pos rfl (ev_pos rfl (ev_pos rfl ?_)))))))
    rw [decide_eq_false (show ¬ ((l.length : Int) > 24) by omega)]
    refine ev_step (fun k => by simp only [dancestudiolaw10_MatchCover.j0] <;> exact rfl) (ev_neg (by simp) (ev_pos (by omega) (Ev.bind (valid_ev l out) ?_)))
    rw [decide_eq_true vm]
    refine ev_pos rfl (Ev.bind (sizeOf_ev (by omega)) (ev_pos (by omega) ?_))
    rw [w64 (by have := free_len l; omega) (by have := free_len l; omega)]
    refine ev_pos (by omega) (Ev.bind (asc_ev (by omega) (fun x hx => (marked_mem.1 hx).1) (marked_lt _ _ _)) ?_)
    refine ev_step (fun k => by simp only [dancestudiolaw10_MatchCover.j1] <;> exact rfl) (ev_neg (by simp) ?_)
    refine lawcover_l0 T (by rw [ints_len]; omega) (by rw [free_len]; omega) (fun x hx => by have := (marked_mem.1 hx).1; rw [free_len] at this; exact this) (marked_lt _ _ _) (fun i c hE => ?_) l.length 0 (by omega)
    by_cases hs : sb R i
    · exact Or.inr (ints_mem.2 (marked_mem.2 ⟨hE.2.1, decide_eq_true ((hR.row i hE.1 hs).1 c hE)⟩))
    · exact Or.inl (ints_mem.2 (marked_mem.2 ⟨hE.1, decide_eq_false hs⟩))
  · refine Ev.bind (size_bad hc) (Ev.bind (match_bad hc) (Ev.bind (cover_bad hc) (Ev.bind (check_ev l) (ev_neg hc (ev_pos rfl (ev_pos rfl (ev_pos rfl (ev_pos rfl (ev_pos rfl (ev_pos rfl (ev_pos rfl (Ev.bind awake_ev (ev_now _)))))))))))))
end Go.Proofs.Ytaacihkhckpecaa.PAll
