/- Lengths are as specified (plain). -/
import Derived.Test.YtimikhbnihedkaaDoorLngLong
import Derived.Test.YtimikhbnihedkaaDoorMC3
import Derived.Test.YtimikhbnihedkaaDoorPAllf6
namespace Go.Proofs.YtimikhbnihedkaaDoor.PAll
set_option linter.unusedVariables false
open Go Go.RowKit Go.Proofs.YtimikhbnihedkaaDoorW.PrintWords Go.Proofs.YtimikhbnihedkaaDoorW.PrintLast Go.Proofs.YtimikhbnihedkaaDoorW.PrintMore Go.Proofs.YtimikhbnihedkaaDoor.MathNum Go.Proofs.YtimikhbnihedkaaDoor.EvWords
theorem pure_LangLengths (l : List S43) (_ : l.length ≤ maxLen) (_ : ∀ a ∈ l, True) (nms : List ByteArray) (_ : nms.length ≤ 8796093022208) (len : List Int) (_ : len.length ≤ maxLen) (_ : ∀ z ∈ len, (Lit.int .i64 z).wf = true) : ∃ k, dancestudiolaw35_LangLengths.f k l nms len = some true := by
  apply Ev.rounds
  unfold dancestudiolaw35_LangLengths.f
  have out : ∀ b : Bool, b = true → Ev (fun k => dancestudiolaw35_LangLengths.j0 k l nms len b) true := fun b hb =>
    ev_step (fun k => by simp only [dancestudiolaw35_LangLengths.j0] <;> exact rfl) (ev_pos hb awake_out)
  obtain ⟨b, _, hb⟩ := short_ev l
  refine Ev.bind hb (ev_ite (fun h => ?_) (fun h => out true rfl))
  refine ev_ite (fun h2 => out true rfl) (fun h2 => ?_)
  by_cases h3 : (len.length : Int) > 20
  · exact out _ (decide_eq_true h3)
  · obtain ⟨v, p, r⟩ := len_ev nms len (by omega) l
    refine ev_step (fun k => by simp only [dancestudiolaw35_LangLengths.j0] <;> exact rfl) (ev_neg (by rw [decide_eq_true_iff]; exact h3) (Ev.bind p (Ev.bind r ?_)))
    exact ev_pos (by first | trivial | rfl) (ev_pos (by first | trivial | rfl) awake_out)
end Go.Proofs.YtimikhbnihedkaaDoor.PAll
