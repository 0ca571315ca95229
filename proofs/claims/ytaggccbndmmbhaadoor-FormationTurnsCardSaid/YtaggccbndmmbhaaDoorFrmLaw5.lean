/- FormationTurns: plain law. -/
import Derived.Test.YtaggccbndmmbhaaDoorBase
import Derived.Test.YtaggccbndmmbhaaDoorPAllf7
import Derived.Test.YtaggccbndmmbhaaDoorFrmTurn
import Derived.Test.YtaggccbndmmbhaaDoorChk
namespace Go.Proofs.YtaggccbndmmbhaaDoor.PAll
set_option linter.unusedVariables false
open Go Go.RowKit Go.Proofs.YtaggccbndmmbhaaDoorW.PrintWords Go.Proofs.YtaggccbndmmbhaaDoorW.PrintLast Go.Proofs.YtaggccbndmmbhaaDoorW.PrintMore Go.Proofs.YtaggccbndmmbhaaDoor.MathNum Go.Proofs.YtaggccbndmmbhaaDoor.EvWords
theorem turns_j1 (l : Bs) (p : List S52) (q : Int) :
    Ev (fun k => dancestudiolaw45_FormationTurns.j1 k q (chgF mirP l p).2.2 false (mkB l) p (chgF mirP l p).1 (chgF mirP l p).2.1 (chgF (rotP q) l p).1 (chgF (rotP q) l p).2.1) true := by
  refine ev_step (fun k => by simp only [dancestudiolaw45_FormationTurns.j1] <;> exact rfl) (ev_neg (by simp) ?_)
  obtain ⟨t1, t2, t3⟩ := tmod4 q
  by_cases h : chkF l p = 0
  · obtain ⟨h1, h2, h3, _⟩ := chkF_ok h
    have e1 : ∀ g, chgF g l p = (mkB l, p.map g, 0) := fun g => by unfold chgF; rw [if_pos h]
    simp only [e1]
    refine ev_pos (by simp) ?_
    have m := mirror_ev l (p.map mirP)
    have r := rotate_ev l (p.map (rotP q)) (wrap64 (4 - Int.tmod q 4))
    have em : chgF mirP l (p.map mirP) = (mkB l, p, 0) := by unfold chgF; rw [if_pos (chk_mir h), mir_mir]
    have er : chgF (rotP (wrap64 (4 - Int.tmod q 4))) l (p.map (rotP q)) = (mkB l, p, 0) := by
      unfold chgF; rw [if_pos (chk_rot q h), w64 (by omega) (by omega), rot_rot _ _ (by omega)]
    rw [em] at m
    rw [er] at r
    refine Ev.bind m (Ev.bind r (ev_pos rfl (ev_pos rfl (Ev.bind (same_ev (mkB l) p h2) (ev_pos (c := true = true) rfl (Ev.bind (same_ev (mkB l) p h2) (ev_pos (c := true = true) rfl awake_out)))))))
  · have e1 : ∀ g, chgF g l p = (⟨#[]⟩, [], chkF l p) := fun g => by unfold chgF; rw [if_neg h]
    simp only [e1]
    exact ev_neg h awake_out
theorem pure_FormationTurns (s : ByteArray) (p : List S52) (q : Int) (hq : (Lit.int .i64 q).wf = true) : ∃ k, dancestudiolaw45_FormationTurns.f k s p q = some true := by
  refine ev_some (g := fun k => dancestudiolaw45_FormationTurns.f k s p q) ?_
  obtain ⟨l, rfl⟩ := ex_mk s
  have out : Ev (fun k => dancestudiolaw45_FormationTurns.j0 k q true (mkB l) p) true :=
    ev_step (fun k => by simp only [dancestudiolaw45_FormationTurns.j0] <;> exact rfl) (ev_pos (c := true = true) rfl awake_out)
  unfold dancestudiolaw45_FormationTurns.f
  by_cases h1 : (p.length : Int) > 30
  · exact ev_pos h1 out
  refine ev_neg h1 ?_
  by_cases h2 : ((mkB l).size : Int) > 60
  · rw [decide_eq_true h2]; exact out
  rw [decide_eq_false h2]
  refine ev_step (fun k => by simp only [dancestudiolaw45_FormationTurns.j0] <;> exact rfl) (ev_neg (by simp) ?_)
  have hlen : ∀ g, (chgF g l p).2.1.length ≤ 16 := fun g => by
    unfold chgF
    by_cases h : chkF l p = 0
    · rw [if_pos h]; have := (chkF_ok h).2.1; simpa using this
    · rw [if_neg h]; simp
  refine Ev.bind (mirror_ev l p) (Ev.bind (rmirror_ev l p) (Ev.bind (rotate_ev l p q) (Ev.bind (rrotate_ev l p q) (Ev.bind (same_ev _ _ (hlen _)) (ev_pos (c := true = true) rfl (ev_pos rfl (Ev.bind (same_ev _ _ (hlen _)) (ev_pos (c := true = true) rfl ?_))))))))
  have e : ((chgF (rotP q) l p).2.2 != (chgF (rotP q) l p).2.2) = false := by simp
  simp only [e]
  exact turns_j1 l p q
end Go.Proofs.YtaggccbndmmbhaaDoor.PAll
