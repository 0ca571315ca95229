/- The reference's Match: the same list. -/
import Derived.Test.YtaacihkhckpecaaPAllx0
import Derived.Test.YtaacihkhckpecaaPAllf3
import Derived.Test.YtaacihkhckpecaaPAllf4
import Derived.Test.YtaacihkhckpecaaPAllf17
import Derived.Test.YtaacihkhckpecaaPAllf18
import Derived.Test.YtaacihkhckpecaaMatRef
import Derived.Test.YtaacihkhckpecaaMatMatch
namespace Go.Proofs.Ytaacihkhckpecaa.PAll
set_option linter.unusedVariables false
open Go Go.RowKit Go.Proofs.YtaacihkhckpecaaW.PrintWords Go.Proofs.YtaacihkhckpecaaW.PrintLast Go.Proofs.YtaacihkhckpecaaW.PrintMore Go.Proofs.Ytaacihkhckpecaa.MathNum Go.Proofs.Ytaacihkhckpecaa.EvWords

theorem Us.set {tk : List Bool} {us : List Int} {c : Nat} (h : Us tk us) (hl : us.length < 24) (hc : c < tk.length) : Us (tk.set c true) (us ++ [(c : Int)]) := by
  refine ⟨by simp; omega, fun x hx => ?_⟩
  rw [List.length_set] at hx
  rw [sb_set hc, h.2 x hx]
  simp only [List.mem_append, List.mem_singleton, Int.ofNat_inj]
  exact Or.comm
section
variable {l : List (List Bool)} {m : Nat}
/-- A row: the columns from j on. -/
theorem rmatch_l1 (T : Tab l m) {i : Nat} (hi : i < l.length) {tk : List Bool} (ht : tk.length = m) {us : List Int} (hus : Us tk us) {lf : Nat} {want : Int} (hw : want = (us.length : Int) + (lf : Int)) (hn : IsNu l tk i lf) {out : List Int} (hl : us.length < 24) {R : List Int × Int}
    (hp : ∀ c, Good l tk i lf c → (∀ x, x < c → ¬ Good l tk i lf x) → Ev (fun k => dancestudioref10_Match.j2 k l want out us (i : Int) (c : Int) ((c + 1 : Nat) : Int) false) R)
    (hs : (∀ x, ¬ Good l tk i lf x) → Ev (fun k => dancestudioref10_Match.j2 k l want out us (i : Int) (-1) (m : Int) false) R) (d : Nat) : ∀ j : Nat, j + d = m → (∀ x, x < j → ¬ Good l tk i lf x) →
    Ev (fun k => dancestudioref10_Match.l1 k l want out us (i : Int) (-1) (j : Int)) R := by
  have hwd := T.wide i hi
  have h1 := T.rows
  have h2 := T.cols
  have small := nu_small hn
  have hcol := (tab_chk T).2
  induction d with
  | zero =>
    intro j hj hx
    have : j = m := by omega
    subst this
    refine ev_step (fun k => by simp only [dancestudioref10_Match.l1, rcols, Option.bind_some] <;> exact rfl) (ev_neg (by omega) (hs fun x g => hx x (by have := g.1.2.1; omega) g))
  | succ d ih =>
    intro j hj hx
    have no : ¬ Good l tk i lf j → Ev (fun k => dancestudioref10_Match.l1 k l want out us (i : Int) (-1) (wrap64 ((j : Int) + 1))) R := fun g => by
      rw [w64 (by omega) (by omega)]
      refine ih (j + 1) (by omega) (fun x hx' => ?_)
      by_cases e : x = j
      · subst e; exact g
      · exact hx x (by omega)
    refine ev_step (fun k => by simp only [dancestudioref10_Match.l1, rcols, Option.bind_some] <;> exact rfl) (ev_pos (by omega) ?_)
    rw [decide_eq_true (show (-1 : Int) < 0 by omega)]
    refine ev_step (fun k => by simp only [dancestudioref10_Match.j2] <;> exact rfl) (ev_pos (show true = true from rfl) (ev_pos (by omega) (ev_pos (by omega) (ev_pos (by omega) (ev_pos (by omega) ?_)))))
    by_cases c1 : rdOf false (rd_L1 l (i : Int)) (j : Int) = true
    · refine ev_pos c1 (Ev.bind (rhas_ev hus.1 _) ?_)
      by_cases c2 : sb tk j
      · rw [decide_eq_true ((hus.2 j (by omega)).1 c2)]
        exact ev_pos rfl (no fun g => g.1.2.2.2 c2)
      · rw [decide_eq_false fun g => c2 ((hus.2 j (by omega)).2 g)]
        refine ev_neg (by simp) ?_
        simp only [Option.bind_some, List.nil_append]
        refine ev_pos (by simp; omega) (ev_pos (by omega) ?_)
        have hE : Ed l tk i j := ⟨hi, by omega, c1, c2⟩
        obtain ⟨n, e, hnu⟩ := most_ev (l := l) (tk := tk.set j true) (by rw [List.length_set, ht]; exact T) (hus.set hl (by omega)) (fr := i + 1) (by omega)
        have sn := nu_small hnu
        rw [w64 (n := (i : Int) + 1) (by omega) (by omega)]
        refine Ev.bind e ?_
        rw [w64 (n := (us.length : Int) + 1) (by omega) (by omega), w64 (n := (us.length : Int) + 1 + (n : Int)) (by omega) (by omega)]
        by_cases c3 : (us.length : Int) + 1 + (n : Int) = want
        · have hg : Good l tk i lf j := ⟨hE, by rw [show lf - 1 = n by omega]; exact hnu, by omega⟩
          refine ev_pos c3 ?_
          rw [w64 (by omega) (by omega)]
          refine ev_step (fun k => by simp only [dancestudioref10_Match.l1, rcols, Option.bind_some] <;> exact rfl) ?_
          have := hp j hg hx
          by_cases e : (j : Int) + 1 < ((colsOf l : Nat) : Int)
          · refine ev_pos e ?_
            rw [decide_eq_false (show ¬ ((j : Int) < 0) by omega)]; exact this
          · exact ev_neg e this
        · exact ev_neg c3 (no fun g => c3 (by have := hnu.uniq g.2.1; have := g.2.2; omega))
    · exact ev_neg c1 (no fun g => c1 g.1.2.2.1)
theorem rmatch_l0 (T : Tab l m) {want : Int} {i : Nat} {tk : List Bool} {lf : Nat} {rest : List Int} (g : Greedy l i tk lf rest) : ∀ (us out : List Int), tk.length = m → Us tk us → us.length ≤ i → want = (us.length : Int) + (lf : Int) → out.length = i → Ev (fun k => dancestudioref10_Match.l0 k l want out us (i : Int)) (out ++ rest, 0) := by
  have h1 := T.rows
  have h2 := T.cols
  induction g with
  | done i tk lf hi hn =>
    intro us out ht hus hul hw ho
    rw [List.append_nil]
    exact ev_step (fun k => by simp only [dancestudioref10_Match.l0] <;> exact rfl) (ev_neg (by omega) (ev_now _))
  | pick i tk lf c rest hi hn hg hl h ih =>
    intro us out ht hus hul hw ho
    refine ev_step (fun k => by simp only [dancestudioref10_Match.l0] <;> exact rfl) (ev_pos (by omega) ?_)
    refine rmatch_l1 T hi ht hus hw hn (by omega) (fun c' hg' hl' => ?_) (fun no => absurd hg (no c)) m 0 (by omega) (fun x hx => by omega)
    have : c' = c := by
      rcases Nat.lt_trichotomy c' c with g | g | g
      · exact absurd hg' (hl c' g)
      · exact g
      · exact absurd hg (hl' c g)
    subst this
    have hc := hg.1.2.1
    refine ev_step (fun k => by simp only [dancestudioref10_Match.j2] <;> exact rfl) (ev_neg (by simp) (ev_pos (by omega) ?_))
    simp only [Option.bind_some]
    refine ev_pos (by omega) (ev_pos (by omega) ?_)
    rw [w64 (by omega) (by omega)]
    have := ih (us ++ [(c' : Int)]) (out ++ [(c' : Int)]) (by simpa using ht) (hus.set (by omega) hc) (by simp; omega) (by simp; have := hg.2.2; omega) (by simp [ho])
    rw [List.append_assoc] at this; exact this
  | skip i tk lf rest hi hn hl h ih =>
    intro us out ht hus hul hw ho
    refine ev_step (fun k => by simp only [dancestudioref10_Match.l0] <;> exact rfl) (ev_pos (by omega) ?_)
    refine rmatch_l1 T hi ht hus hw hn (by omega) (fun c' hg' hl' => absurd hg' (hl c')) (fun no => ?_) m 0 (by omega) (fun x hx => by omega)
    refine ev_step (fun k => by simp only [dancestudioref10_Match.j2] <;> exact rfl) (ev_neg (by simp) (ev_pos (by omega) ?_))
    simp only [Option.bind_some]
    refine ev_neg (by omega) ?_
    rw [w64 (by omega) (by omega)]
    have := ih us (out ++ [-1]) ht hus (by omega) hw (by simp [ho])
    rw [List.append_assoc] at this; exact this
theorem rints_loop {xs : List Int} (hx : xs.length ≤ 24) (d : Nat) : ∀ i : Nat, i + d = xs.length → Ev (fun k => dancestudioref10_Ints.l0 k xs xs (i : Int)) true := by
  induction d with
  | zero =>
    intro i hi
    exact ev_step (fun k => by simp only [dancestudioref10_Ints.l0] <;> exact rfl) (ev_neg (by omega) (ev_now _))
  | succ d ih =>
    intro i hi
    refine ev_step (fun k => by simp only [dancestudioref10_Ints.l0] <;> exact rfl) (ev_pos (by omega) (ev_pos (by omega) (ev_pos (by omega) (ev_pos (show rd xs (i : Int) = rd xs (i : Int) from rfl) ?_))))
    rw [w64 (by omega) (by omega)]
    exact ih (i + 1) (by omega)
theorem rints_ev {xs : List Int} (hx : xs.length ≤ 24) : Ev (fun k => dancestudioref10_Ints.f k xs xs) true := by
  simp only [dancestudioref10_Ints.f]
  exact ev_pos True.intro (rints_loop hx xs.length 0 (by omega))
end
theorem rmatch_bad {l : List (List Bool)} (h : chk l ≠ 0) : Ev (fun k => dancestudioref10_Match.f k l) ([], chk l) := by
  simp only [dancestudioref10_Match.f]
  exact Ev.bind (rsize_bad h) (ev_neg h (ev_now _))
theorem rmatch_ok {l : List (List Bool)} (h : chk l = 0) {k : Nat} {out : List Int} (g : Greedy l 0 (free l) k out) (hk : IsNu l (free l) 0 k) : Ev (fun k => dancestudioref10_Match.f k l) (out, 0) := by
  obtain ⟨n, e, hn⟩ := rsize_ok h
  have := hn.uniq hk
  subst this
  simp only [dancestudioref10_Match.f]
  have := rmatch_l0 (want := (n : Int)) (chk_tab h) g [] [] (free_len l) (us_nil l) (by simp) (by simp) rfl
  exact Ev.bind e (ev_pos rfl this)
theorem pure_MatchSizes (l : List (List Bool)) (_ : l.length ≤ maxLen) (_ : ∀ r ∈ l, r.length ≤ maxLen) : ∃ k, dancestudiolaw10_MatchSizes.f k l = some true := by
  refine ev_some ?_
  simp only [dancestudiolaw10_MatchSizes.f]
  by_cases hc : chk l = 0
  · obtain ⟨k, e, hk⟩ := size_ok hc
    obtain ⟨k', e2, hk'⟩ := rsize_ok hc
    have := hk'.uniq hk
    subst this
    exact Ev.bind e (Ev.bind e2 (Ev.bind (check_ev l) (Ev.bind (rcheck_ev l) (ev_pos rfl (ev_pos rfl (ev_pos rfl (Ev.bind awake_ev (ev_now _))))))))
  · exact Ev.bind (size_bad hc) (Ev.bind (rsize_bad hc) (Ev.bind (check_ev l) (Ev.bind (rcheck_ev l) (ev_pos rfl (ev_pos rfl (ev_pos rfl (Ev.bind awake_ev (ev_now _))))))))
theorem pure_MatchLeast (l : List (List Bool)) (_ : l.length ≤ maxLen) (_ : ∀ r ∈ l, r.length ≤ maxLen) : ∃ k, dancestudiolaw10_MatchLeast.f k l = some true := by
  refine ev_some ?_
  simp only [dancestudiolaw10_MatchLeast.f]
  have go : Ev (fun k => dancestudiolaw10_MatchLeast.j0 k l false) true := by
    refine ev_step (fun k => by simp only [dancestudiolaw10_MatchLeast.j0] <;> exact rfl) (ev_neg (by simp) ?_)
    by_cases hc : chk l = 0
    · obtain ⟨k', out, hk', g, e2⟩ := match_ok hc
      have T := (chk_tab hc).rows
      have len : out.length ≤ 24 := by
        have : ∀ {i tk lf rest}, Greedy l i tk lf rest → i + rest.length = l.length := by
          intro i tk lf rest h
          induction h with
          | done i tk lf hi hn => simpa using hi
          | pick i tk lf c rest hi hn hg hl h ih => simp only [List.length_cons]; omega
          | skip i tk lf rest hi hn hl h ih => simp only [List.length_cons]; omega
        have := this g
        omega
      exact Ev.bind e2 (Ev.bind (rmatch_ok hc g hk') (Ev.bind (rints_ev len) (ev_pos rfl (ev_pos rfl (Ev.bind awake_ev (ev_now _))))))
    · exact Ev.bind (match_bad hc) (Ev.bind (rmatch_bad hc) (Ev.bind (rints_ev (by simp)) (ev_pos rfl (ev_pos rfl (Ev.bind awake_ev (ev_now _))))))
  by_cases h : (l.length : Int) > 10
  · refine ev_pos h ?_
    by_cases h2 : (l.length : Int) ≤ 24
    · rw [decide_eq_true h2]
      exact ev_step (fun k => by simp only [dancestudiolaw10_MatchLeast.j0] <;> exact rfl) (ev_pos (show true = true from rfl) (Ev.bind awake_ev (ev_now _)))
    · rw [decide_eq_false h2]; exact go
  · exact ev_neg h go
end Go.Proofs.Ytaacihkhckpecaa.PAll
