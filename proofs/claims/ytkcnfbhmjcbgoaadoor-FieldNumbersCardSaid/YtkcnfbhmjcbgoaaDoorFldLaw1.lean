/- FieldJoins, FieldSplits, FieldRoundTrip: plain laws. -/
import Derived.Test.YtkcnfbhmjcbgoaaDoorPAllx0
import Derived.Test.YtkcnfbhmjcbgoaaDoorPAllf3
import Derived.Test.YtkcnfbhmjcbgoaaDoorPAllf4
import Derived.Test.YtkcnfbhmjcbgoaaDoorPAllf5
import Derived.Test.YtkcnfbhmjcbgoaaDoorPAllf11
import Derived.Test.YtkcnfbhmjcbgoaaDoorFldRef
namespace Go.Proofs.YtkcnfbhmjcbgoaaDoor.PAll
set_option linter.unusedVariables false
open Go Go.RowKit Go.Proofs.YtkcnfbhmjcbgoaaDoorW.PrintWords Go.Proofs.YtkcnfbhmjcbgoaaDoorW.PrintLast Go.Proofs.YtkcnfbhmjcbgoaaDoorW.PrintMore Go.Proofs.YtkcnfbhmjcbgoaaDoor.MathNum Go.Proofs.YtkcnfbhmjcbgoaaDoor.EvWords

set_option maxRecDepth 100000 in
theorem awake_ev : Ev (fun k => dancestudiolaw06_awake.f k) true := Ev.of dancestudiolaw06_awake.mono (k := 60) (by decide +kernel)

theorem pure_FieldJoins (l : List ByteArray) (hl : l.length ≤ 8796093022208) : ∃ k, dancestudiolaw06_FieldJoins.f k l = some true := by
  obtain ⟨L, rfl⟩ := ex_mks l
  rw [mks_len] at hl
  refine ev_some ?_
  simp only [dancestudiolaw06_FieldJoins.f]
  obtain ⟨b, h1, h2⟩ := few_ev (l := L) (by omega)
  refine Ev.bind h1 ?_
  cases b with
  | false => exact ev_neg (by simp) (Ev.bind awake_ev (ev_now _))
  | true =>
    obtain ⟨h16, h300⟩ := h2 rfl
    have hs : ∀ x ∈ L, x.length < 4294967281 := fun x hx => by have := h300 x hx; omega
    exact ev_pos (show true = true from rfl) (Ev.bind (join_ev (by omega) hs) (Ev.bind (rjoin_ev (by omega) hs) (ev_pos rfl (ev_pos rfl (Ev.bind awake_ev (ev_now _))))))
theorem split_len {l : Bs} : (splitV l).1.length ≤ 1024 ∧ ∀ x ∈ (splitV l).1, x.length ≤ 1024 := by
  by_cases h : (splitV l).2 = 0
  · have hok : splitV l = ((splitV l).1, 0) := Prod.ext rfl h
    obtain ⟨g1, g2, g3⟩ := splitV_ok.1 hok
    have ht := toks_of (splitV l).1 l.length (by rw [g2]; exact Nat.le_refl _)
    rw [g2] at ht
    obtain ⟨a, b⟩ := toks_more _ _ ht
    exact ⟨by omega, fun x hx => by have := b x hx; omega⟩
  · rw [splitV_bad h]; simp
theorem pure_FieldSplits (a : ByteArray) : ∃ k, dancestudiolaw06_FieldSplits.f k a = some true := by
  obtain ⟨l, rfl⟩ := ex_mk a
  refine ev_some ?_
  simp only [dancestudiolaw06_FieldSplits.f]
  by_cases h : ((mkB l).size : Int) > 1100
  · exact ev_pos h (Ev.bind awake_ev (ev_now _))
  · have := (split_len (l := l)).1
    exact ev_neg h (Ev.bind (split_ev l) (Ev.bind (rsplit_ev l) (Ev.bind (same_ev (by unfold splitB; rw [mks_len]; omega)) (ev_pos (show true = true from rfl) (ev_pos rfl (Ev.bind awake_ev (ev_now _)))))))
theorem pure_FieldRoundTrip (l : List ByteArray) (hl : l.length ≤ 8796093022208) (a : ByteArray) : ∃ k, dancestudiolaw06_FieldRoundTrip.f k l a = some true := by
  obtain ⟨L, rfl⟩ := ex_mks l
  obtain ⟨s, rfl⟩ := ex_mk a
  rw [mks_len] at hl
  refine ev_some ?_
  simp only [dancestudiolaw06_FieldRoundTrip.f]
  obtain ⟨b, h1, h2⟩ := few_ev (l := L) (by omega)
  refine Ev.bind h1 ?_
  have aw : Ev (fun k => dancestudiolaw06_FieldRoundTrip.j0 k (mks L) (mkB s) true) true := ev_step (fun k => by simp only [dancestudiolaw06_FieldRoundTrip.j0] <;> exact rfl) (ev_pos (show true = true from rfl) (Ev.bind awake_ev (ev_now _)))
  have j2 : Ev (fun k => dancestudiolaw06_FieldRoundTrip.j2 k (mkB s)) true := by
    refine ev_step (fun k => by simp only [dancestudiolaw06_FieldRoundTrip.j2] <;> exact rfl) (Ev.bind (split_ev s) ?_)
    by_cases h0 : (splitV s).2 = 0
    · have hok : splitV s = ((splitV s).1, 0) := Prod.ext rfl h0
      obtain ⟨g1, g2, g3⟩ := splitV_ok.1 hok
      have hj : joinB (splitV s).1 = (mkB s, 0) := joinB_ok.2 ⟨g1, g2, g3⟩
      have hsl := split_len (l := s)
      refine ev_pos h0 (Ev.bind (join_ev (l := (splitV s).1) (by omega) (fun x hx => by have := hsl.2 x hx; omega)) ?_)
      rw [hj]
      exact ev_pos rfl (ev_pos rfl (Ev.bind awake_ev (ev_now _)))
    · refine ev_neg h0 ?_
      have : (splitB s).1 = [] := by unfold splitB; rw [splitV_bad h0]; rfl
      rw [this]
      exact ev_pos rfl (Ev.bind awake_ev (ev_now _))
  cases b with
  | false => exact ev_neg (by simp) aw
  | true =>
    refine ev_pos (show true = true from rfl) ?_
    by_cases hbig : ((mkB s).size : Int) > 1100
    · rw [decide_eq_true hbig]; exact aw
    · rw [decide_eq_false hbig]
      obtain ⟨h16, h300⟩ := h2 rfl
      have hs : ∀ x ∈ L, x.length < 4294967281 := fun x hx => by have := h300 x hx; omega
      refine ev_step (fun k => by simp only [dancestudiolaw06_FieldRoundTrip.j0] <;> exact rfl) (ev_neg (by simp) (Ev.bind (join_ev (by omega) hs) ?_))
      by_cases h0 : (joinB L).2 = 0
      · refine ev_pos h0 (ev_step (fun k => by simp only [dancestudiolaw06_FieldRoundTrip.j1] <;> exact rfl) (ev_neg (by simp) (ev_pos h0 ?_)))
        obtain ⟨t, ht⟩ := ex_mk (joinB L).1
        have hj : joinB L = (mkB t, 0) := Prod.ext ht h0
        have hsp : splitV t = (L, 0) := splitV_ok.2 (joinB_ok.1 hj)
        rw [ht]
        refine Ev.bind (split_ev t) ?_
        have : splitB t = (mks L, 0) := by unfold splitB; rw [hsp]
        rw [this]
        exact ev_pos rfl (Ev.bind (same_ev (by rw [mks_len]; omega)) (ev_pos (show true = true from rfl) j2))
      · have hb := joinB_bad h0
        refine ev_neg h0 (ev_step (fun k => by simp only [dancestudiolaw06_FieldRoundTrip.j1] <;> exact rfl) (ev_neg ?_ (ev_neg h0 j2)))
        rw [hb]; simp [toList_mk]
end Go.Proofs.YtkcnfbhmjcbgoaaDoor.PAll
