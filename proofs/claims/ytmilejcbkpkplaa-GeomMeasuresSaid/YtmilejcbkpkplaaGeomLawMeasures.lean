/- GeomMeasures: plain law. -/
import Derived.Test.YtmilejcbkpkplaaPAllx0
import Derived.Test.YtmilejcbkpkplaaPAllf3
import Derived.Test.YtmilejcbkpkplaaPAllf11
import Derived.Test.YtmilejcbkpkplaaPAllf12
import Derived.Test.YtmilejcbkpkplaaPAllf13
import Derived.Test.YtmilejcbkpkplaaPAllf14
import Derived.Test.YtmilejcbkpkplaaGeomBase
namespace Go.Proofs.Ytmilejcbkpkplaa.PAll
set_option linter.unusedVariables false
open Go Go.RowKit Go.Proofs.YtmilejcbkpkplaaW.PrintWords Go.Proofs.YtmilejcbkpkplaaW.PrintLast Go.Proofs.YtmilejcbkpkplaaW.PrintMore Go.Proofs.Ytmilejcbkpkplaa.MathNum Go.Proofs.Ytmilejcbkpkplaa.EvWords

theorem dist2_ev (a b c d : Int) : ∃ R, Ev (fun k => geom_Dist2.f k a b c d) R ∧ dancestudioref03_Dist2.f a b c d = some R := by
  have v := valid_ev (ps := [(⟨a, b⟩ : S23), (⟨c, d⟩ : S23)]) (rs := []) (by simp) (by simp)
  by_cases h : (cOk a ∧ cOk b) ∧ (cOk c ∧ cOk d)
  · refine ⟨((a - c) * (a - c) + (b - d) * (b - d), 0), ?_, ?_⟩
    · simp only [geom_Dist2.f]
      refine Ev.bind v (ev_pos (by simpa [pOk] using h) ?_)
      have := h.1.1; have := h.1.2; have := h.2.1; have := h.2.2
      rw [minus_ok h.1.1 h.1.2 h.2.1 h.2.2]
      unfold cOk at *
      simp only [Option.bind_some]
      rw [dot_ok (by omega) (by omega) (by omega) (by omega)]
      exact ev_now _
    · unfold dancestudioref03_Dist2.f
      rw [rValid, rValid, square_ok h.1.1 h.1.2 h.2.1 h.2.2]
      simp [h]
  · refine ⟨(0, 1), ?_, ?_⟩
    · simp only [geom_Dist2.f]
      exact Ev.bind v (ev_neg (by simpa [pOk] using h) (ev_now _))
    · unfold dancestudioref03_Dist2.f
      rw [rValid, rValid]
      by_cases h1 : cOk a ∧ cOk b
      · have h2 : ¬ (cOk c ∧ cOk d) := fun x => h ⟨h1, x⟩
        simp [h1, h2]
      · simp [h1]
theorem cross_ev (a b c d e f : Int) : ∃ R, Ev (fun k => geom_Cross.f k a b c d e f) R ∧ dancestudioref03_Cross.f a b c d e f = some R := by
  have v := valid_ev (ps := [(⟨a, b⟩ : S23), (⟨c, d⟩ : S23), (⟨e, f⟩ : S23)]) (rs := []) (by simp) (by simp)
  by_cases h : (cOk a ∧ cOk b) ∧ (cOk c ∧ cOk d) ∧ (cOk e ∧ cOk f)
  · refine ⟨((c - a) * (f - b) - (d - b) * (e - a), 0), ?_, ?_⟩
    · simp only [geom_Cross.f]
      refine Ev.bind v (ev_pos (by simpa [pOk] using h) ?_)
      rw [minus_ok h.2.1.1 h.2.1.2 h.1.1 h.1.2, minus_ok h.2.2.1 h.2.2.2 h.1.1 h.1.2]
      unfold cOk at *
      simp only [Option.bind_some]
      rw [cross_ok (by omega) (by omega) (by omega) (by omega)]
      exact ev_now _
    · unfold dancestudioref03_Cross.f
      rw [rValid, rValid, rValid, rcross_ok h.1.1 h.1.2 h.2.1.1 h.2.1.2 h.2.2.1 h.2.2.2]
      simp [h]
  · refine ⟨(0, 1), ?_, ?_⟩
    · simp only [geom_Cross.f]
      exact Ev.bind v (ev_neg (by simpa [pOk] using h) (ev_now _))
    · unfold dancestudioref03_Cross.f
      rw [rValid, rValid, rValid]
      by_cases h1 : cOk a ∧ cOk b
      · by_cases h2 : cOk c ∧ cOk d
        · have h3 : ¬ (cOk e ∧ cOk f) := fun x => h ⟨h1, h2, x⟩
          simp [h1, h2, h3]
        · simp [h1, h2]
      · simp [h1]
theorem pure_GeomMeasures (a : Int) (_ : (Lit.int .i64 a).wf = true) (b : Int) (_ : (Lit.int .i64 b).wf = true) (c : Int) (_ : (Lit.int .i64 c).wf = true) (d : Int) (_ : (Lit.int .i64 d).wf = true) (e : Int) (_ : (Lit.int .i64 e).wf = true) (f : Int) (_ : (Lit.int .i64 f).wf = true) :
    ∃ k, dancestudiolaw03_GeomMeasures.f k a b c d e f = some true := by
  refine ev_some ?_
  obtain ⟨R, e1, r1⟩ := dist2_ev c d e f
  obtain ⟨Q, e2, r2⟩ := cross_ev a b c d e f
  simp only [dancestudiolaw03_GeomMeasures.f, r1, r2, Option.bind_some]
  exact Ev.bind e1 (Ev.bind e2 (ev_pos rfl (ev_pos rfl (ev_pos rfl (ev_pos rfl (Ev.bind awake_ev (ev_now _)))))))
end Go.Proofs.Ytmilejcbkpkplaa.PAll
