/- FieldLines, FieldTexts: plain laws. -/
import Derived.Test.YtkcnfbhmjcbgoaaDoorPAllx0
import Derived.Test.YtkcnfbhmjcbgoaaDoorPAllf6
import Derived.Test.YtkcnfbhmjcbgoaaDoorPAllf7
import Derived.Test.YtkcnfbhmjcbgoaaDoorPAllf19
import Derived.Test.YtkcnfbhmjcbgoaaDoorFldLines
namespace Go.Proofs.YtkcnfbhmjcbgoaaDoor.PAll
set_option linter.unusedVariables false
open Go Go.RowKit Go.Proofs.YtkcnfbhmjcbgoaaDoorW.PrintWords Go.Proofs.YtkcnfbhmjcbgoaaDoorW.PrintLast Go.Proofs.YtkcnfbhmjcbgoaaDoorW.PrintMore Go.Proofs.YtkcnfbhmjcbgoaaDoor.MathNum Go.Proofs.YtkcnfbhmjcbgoaaDoor.EvWords

theorem segs_len : ∀ t : Bs, (segs t).length ≤ t.length
  | [] => Nat.le_refl _
  | c :: r => by
    have ih := segs_len r
    rw [segs]
    split
    · simp; omega
    · split
      · simp
      · rename_i s ss h
        rw [h] at ih
        simp only [List.length_cons] at ih ⊢
        omega
theorem goL_len : ∀ (ss : List Bs) (out : List (List Bs)), (goL out ss).1.length ≤ out.length + ss.length ∧ ((∀ r ∈ out, r.length ≤ 1024) → ∀ r ∈ (goL out ss).1, r.length ≤ 1024)
  | [], out => ⟨by rw [goL]; simp, fun h => by rw [goL]; exact h⟩
  | s :: ss, out => by
    rw [goL]
    by_cases h1 : s = [] ∨ s.head? = some 37
    · rw [if_pos h1]
      have := goL_len ss out
      exact ⟨by simp only [List.length_cons]; omega, this.2⟩
    · rw [if_neg h1]
      by_cases h2 : (splitV s).2 = 0
      · rw [if_pos h2]
        have := goL_len ss (out ++ [(splitV s).1])
        refine ⟨by have := this.1; simp only [List.length_append, List.length_cons, List.length_nil] at this ⊢; omega, fun h => this.2 fun r hr => ?_⟩
        rcases List.mem_append.1 hr with hr | hr
        · exact h r hr
        · rw [List.mem_singleton.1 hr]; exact split_len.1
      · rw [if_neg h2]; simp
theorem linesV_len (t : Bs) : (linesV t).1.length ≤ t.length ∧ ∀ r ∈ (linesV t).1, r.length ≤ 1024 := by
  unfold linesV
  split
  · have := goL_len (segs t) []
    have := segs_len t
    exact ⟨by simp at *; omega, (goL_len (segs t) []).2 (by simp)⟩
  · simp
theorem sameL_loop {a : List (List Bs)} (ha : a.length ≤ 10000) (hr : ∀ r ∈ a, r.length ≤ 1024) (d : Nat) : ∀ i : Nat, i + d = a.length → Ev (fun k => dancestudioref06_SameLines.l0 k (mkss a) (mkss a) (i : Int)) true := by
  induction d with
  | zero =>
    intro i hi
    exact ev_step (fun k => by simp only [dancestudioref06_SameLines.l0] <;> exact rfl) (ev_neg (by rw [mkss_len]; omega) (ev_now _))
  | succ d ih =>
    intro i hi
    have h : i < a.length := by omega
    have hrd : rd_L2 (mkss a) (i : Int) = mks a[i] := by
      unfold rd_L2
      rw [List.getD_eq_getElem?_getD, Int.toNat_natCast, List.getElem?_eq_getElem (by rw [mkss_len]; exact h)]
      simp [mkss]
    refine ev_step (fun k => by simp only [dancestudioref06_SameLines.l0] <;> exact rfl) (ev_pos (by rw [mkss_len]; omega) (ev_pos (by omega) (ev_pos (by rw [mkss_len]; omega) ?_)))
    rw [hrd, w64 (by omega) (by omega)]
    exact Ev.bind (same_ev (by rw [mks_len]; have := hr _ (List.getElem_mem h); omega)) (ev_pos (show true = true from rfl) (ih (i + 1) (by omega)))
theorem sameL_ev {a : List (List Bs)} (ha : a.length ≤ 10000) (hr : ∀ r ∈ a, r.length ≤ 1024) : Ev (fun k => dancestudioref06_SameLines.f k (mkss a) (mkss a)) true := by
  simp only [dancestudioref06_SameLines.f]
  exact ev_pos True.intro (sameL_loop ha hr a.length 0 (by omega))
theorem pure_FieldLines (a : ByteArray) : ∃ k, dancestudiolaw06_FieldLines.f k a = some true := by
  obtain ⟨t, rfl⟩ := ex_mk a
  refine ev_some ?_
  simp only [dancestudiolaw06_FieldLines.f]
  by_cases h : ((mkB t).size : Int) > 2500
  · exact ev_pos h (Ev.bind awake_ev (ev_now _))
  · have hl : t.length ≤ 2500 := by rw [size_mk] at h; omega
    have := linesV_len t
    exact ev_neg h (Ev.bind (lines_ev (by omega)) (Ev.bind (rlines_ev (by omega)) (Ev.bind (sameL_ev (a := (linesV t).1) (by omega) this.2) (ev_pos (show true = true from rfl) (ev_pos rfl (Ev.bind awake_ev (ev_now _)))))))
theorem linesV_app {s t : Bs} {A B : List (List Bs)} (hs : linesV s = (A, 0)) (ht : linesV t = (B, 0)) : linesV (s ++ t) = (A ++ B, 0) ∧ linesV ((s ++ [10, 37, 32, 110, 111, 110, 101, 10]) ++ t) = (A ++ B, 0) := by
  have es : endsOk s := Classical.byContradiction fun h => by
    unfold linesV at hs
    rw [if_neg h] at hs
    exact absurd (Prod.mk.inj hs).2 (by decide)
  have et : endsOk t := Classical.byContradiction fun h => by
    unfold linesV at ht
    rw [if_neg h] at ht
    exact absurd (Prod.mk.inj ht).2 (by decide)
  have gs : goL [] (segs s) = (A, 0) := by unfold linesV at hs; rwa [if_pos es] at hs
  have gt : goL [] (segs t) = (B, 0) := by unfold linesV at ht; rwa [if_pos et] at ht
  have gA : goL A (segs t) = (A ++ B, 0) := by rw [goL_out, gt]; rfl
  have em : endsOk [10, 37, 32, 110, 111, 110, 101, 10] := Or.inr rfl
  refine ⟨?_, ?_⟩
  · unfold linesV
    rw [if_pos (ends_app es et), segs_app _ s (Nat.le_refl _) es, goL_app _ _ _ _ gs]
    exact gA
  · unfold linesV
    rw [if_pos (ends_app (ends_app es em) et), List.append_assoc, segs_app _ s (Nat.le_refl _) es, goL_app _ _ _ _ gs, segs_app _ [10, 37, 32, 110, 111, 110, 101, 10] (Nat.le_refl _) em]
    have : segs [10, 37, 32, 110, 111, 110, 101, 10] = [[], [37, 32, 110, 111, 110, 101]] := by decide
    rw [this]
    simp only [List.cons_append, List.nil_append]
    rw [goL, if_pos (Or.inl rfl), goL, if_pos (show ([37, 32, 110, 111, 110, 101] : Bs) = [] ∨ ([37, 32, 110, 111, 110, 101] : Bs).head? = some 37 from Or.inr rfl)]
    exact gA
theorem pure_FieldTexts (a b : ByteArray) : ∃ k, dancestudiolaw06_FieldTexts.f k a b = some true := by
  obtain ⟨s, rfl⟩ := ex_mk a
  obtain ⟨t, rfl⟩ := ex_mk b
  refine ev_some ?_
  simp only [dancestudiolaw06_FieldTexts.f]
  have aw : Ev (fun k => dancestudiolaw06_FieldTexts.j0 k (mkB s) (mkB t) true) true := ev_step (fun k => by simp only [dancestudiolaw06_FieldTexts.j0] <;> exact rfl) (ev_pos (show true = true from rfl) (Ev.bind awake_ev (ev_now _)))
  by_cases h1 : ((mkB s).size : Int) > 1200
  · exact ev_pos h1 aw
  · refine ev_neg h1 ?_
    by_cases h2 : ((mkB t).size : Int) > 1200
    · rw [decide_eq_true h2]; exact aw
    · rw [decide_eq_false h2]
      have hl1 : s.length ≤ 1200 := by rw [size_mk] at h1; omega
      have hl2 : t.length ≤ 1200 := by rw [size_mk] at h2; omega
      refine ev_step (fun k => by simp only [dancestudiolaw06_FieldTexts.j0] <;> exact rfl) (ev_neg (by simp) (Ev.bind (lines_ev (t := s) (by omega)) (Ev.bind (lines_ev (t := t) (by omega)) ?_)))
      have bad : ∀ x : Bs, (linesV x).2 ≠ 0 → ((goB (linesV x)).1.length : Int) = 0 := by
        intro x hx
        rw [show (goB (linesV x)).1 = mkss (linesV x).1 from rfl, linesV_bad hx]; rfl
      have j1 : ∀ x : Bool, x = true → (linesV s).2 ≠ 0 ∨ (linesV t).2 ≠ 0 → Ev (fun k => dancestudiolaw06_FieldTexts.j1 k (mkB s) (mkB t) (goB (linesV s)).1 (goB (linesV s)).2 (goB (linesV t)).1 (goB (linesV t)).2 x) true := by
        intro x hx hor
        subst hx
        refine ev_step (fun k => by simp only [dancestudiolaw06_FieldTexts.j1] <;> exact rfl) (ev_pos (show true = true from rfl) ?_)
        have fin := Ev.bind awake_ev (ev_now true)
        by_cases hs0 : (linesV s).2 = 0
        · have ht0 : (linesV t).2 ≠ 0 := hor.resolve_left fun e => e hs0
          exact ev_pos hs0 (ev_neg ht0 (ev_pos (bad t ht0) (Ev.bind awake_ev (ev_now _))))
        · refine ev_neg hs0 (ev_pos (bad s hs0) ?_)
          by_cases ht0 : (linesV t).2 = 0
          · exact ev_pos ht0 (Ev.bind awake_ev (ev_now _))
          · exact ev_neg ht0 (ev_pos (bad t ht0) (Ev.bind awake_ev (ev_now _)))
      by_cases hs0 : (linesV s).2 = 0
      · refine ev_pos hs0 ?_
        by_cases ht0 : (linesV t).2 = 0
        · have hx : ((goB (linesV t)).2 != 0) = false := by rw [bne_eq_false_iff_eq]; exact ht0
          rw [hx]
          have ks := linesV_len s
          have kt := linesV_len t
          have es : linesV s = ((linesV s).1, 0) := Prod.ext rfl hs0
          have et : linesV t = ((linesV t).1, 0) := Prod.ext rfl ht0
          obtain ⟨hc, hd⟩ := linesV_app es et
          have gs : (goB (linesV s)).1 = mkss (linesV s).1 := rfl
          have gt : (goB (linesV t)).1 = mkss (linesV t).1 := rfl
          rw [gs, gt]
          refine ev_step (fun k => by simp only [dancestudiolaw06_FieldTexts.j1] <;> exact rfl) (ev_neg (by simp) (ev_pos (by rw [size_mk, size_mk]; omega) ?_))
          rw [show (⟨#[10, 37, 32, 110, 111, 110, 101, 10]⟩ : ByteArray) = mkB [10, 37, 32, 110, 111, 110, 101, 10] from rfl, mk_append, mk_append, mk_append]
          refine Ev.bind (lines_ev (by simp only [List.length_append]; omega)) (ev_pos (by rw [size_mk]; omega) (ev_pos (by rw [size_mk, size_mk]; simp only [List.length_append, List.length_cons, List.length_nil]; omega) (Ev.bind (lines_ev (by simp only [List.length_append, List.length_cons, List.length_nil]; omega)) ?_)))
          rw [hc, hd]
          have hab : (linesV s).1.length + (linesV t).1.length ≤ 2400 := by omega
          have same := sameL_ev (a := (linesV s).1 ++ (linesV t).1) (by rw [List.length_append]; omega) (fun r hr => by
            rcases List.mem_append.1 hr with hr | hr
            · exact ks.2 r hr
            · exact kt.2 r hr)
          refine ev_pos rfl (ev_pos rfl (ev_let (ev_pos (by rw [mkss_len, List.length_nil]; omega) (ev_let (ev_pos (by rw [List.nil_append, mkss_len, mkss_len]; omega) ?_)))))
          have e1 : ([] ++ mkss (linesV s).1) ++ mkss (linesV t).1 = mkss ((linesV s).1 ++ (linesV t).1) := by simp [mkss]
          rw [e1]
          exact Ev.bind same (ev_pos (show true = true from rfl) (Ev.bind same (ev_pos (show true = true from rfl) (Ev.bind awake_ev (ev_now _)))))
        · have hx : ((goB (linesV t)).2 != 0) = true := by rw [bne_iff_ne]; exact ht0
          rw [hx]
          exact j1 true rfl (Or.inr ht0)
      · exact ev_neg hs0 (j1 true rfl (Or.inl hs0))
end Go.Proofs.YtkcnfbhmjcbgoaaDoor.PAll
