/- Check, Print and Names are as specified (plain). -/
import Derived.Test.YtimikhbnihedkaaDoorMC3
import Derived.Test.YtimikhbnihedkaaDoorLngTextR
import Derived.Test.YtimikhbnihedkaaDoorLngNames
import Derived.Test.YtimikhbnihedkaaDoorPAllf3
namespace Go.Proofs.YtimikhbnihedkaaDoor.PAll
set_option linter.unusedVariables false
set_option linter.unusedSectionVars false
set_option linter.unusedSimpArgs false
open Go Go.RowKit Go.Proofs.YtimikhbnihedkaaDoorW.PrintWords Go.Proofs.YtimikhbnihedkaaDoorW.PrintLast Go.Proofs.YtimikhbnihedkaaDoorW.PrintMore Go.Proofs.YtimikhbnihedkaaDoor.MathNum Go.Proofs.YtimikhbnihedkaaDoor.EvWords

theorem namesT_len : ∀ (l : List S43) (acc : List ByteArray), (namesT l acc).length ≤ acc.length + l.length
 | [], acc => Nat.le_refl _
 | s :: l, acc => by
  have h1 := namesT_len l acc
  have h2 := namesT_len l (acc ++ [s.f1])
  rw [List.length_append, List.length_singleton] at h2
  simp only [namesT, List.length_cons]
  (repeat' split) <;> omega
theorem nmsE_len (l : List S43) : (nmsE l).1.length ≤ 64 := by
  unfold nmsE
  by_cases h : chkE l = 0
  · rw [if_pos h]
    have h1 := namesT_len l []
    have h2 := (chkE_len h).2
    simp only [List.length_nil] at h1
    exact Nat.le_trans h1 (by omega)
  · rw [if_neg h]; simp
theorem pure_LangChecks (l : List S43) (_ : l.length ≤ maxLen) (_ : ∀ a ∈ l, True) : ∃ k, dancestudiolaw35_LangChecks.f k l = some true := by
  apply Ev.rounds
  unfold dancestudiolaw35_LangChecks.f
  obtain ⟨b, _, hb⟩ := short_ev l
  refine Ev.bind hb (ev_ite (fun h => ?_) (fun h => awake_out))
  obtain ⟨v, p, r⟩ := print_ev l
  refine Ev.bind p (Ev.bind r (Ev.bind (pnms_ev l) (Ev.bind (rnms_ev l) (Ev.bind (pchk_ev l) (Ev.bind (rchk_ev l) ?_)))))
  exact ev_pos (by first | trivial | rfl) (ev_pos (by first | trivial | rfl) (ev_pos (by first | trivial | rfl) (Ev.bind (words_ev _ (Nat.le_trans (nmsE_len l) (by decide))) (ev_pos (by first | trivial | rfl) (ev_pos (by first | trivial | rfl) awake_out)))))
end Go.Proofs.YtimikhbnihedkaaDoor.PAll
