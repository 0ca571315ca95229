/- FormationFits: plain law. -/
import Derived.Test.YtaggccbndmmbhaaDoorBase
import Derived.Test.YtaggccbndmmbhaaDoorPAllf4
import Derived.Test.YtaggccbndmmbhaaDoorPAllf14
import Derived.Test.YtaggccbndmmbhaaDoorPAllf16
import Derived.Test.YtaggccbndmmbhaaDoorFit
import Derived.Test.YtaggccbndmmbhaaDoorFAsgRSolve
import Derived.Test.YtaggccbndmmbhaaDoorChk
namespace Go.Proofs.YtaggccbndmmbhaaDoor.PAll
set_option linter.unusedVariables false
open Go Go.RowKit Go.Proofs.YtaggccbndmmbhaaDoorW.PrintWords Go.Proofs.YtaggccbndmmbhaaDoorW.PrintLast Go.Proofs.YtaggccbndmmbhaaDoorW.PrintMore Go.Proofs.YtaggccbndmmbhaaDoor.MathNum Go.Proofs.YtaggccbndmmbhaaDoor.EvWords
theorem rfit_bad {s : ByteArray} {p q : List S52} (hp : p.length ≤ 16) (hq : q.length = p.length) (rp : ∀ a ∈ p, inR a) (rq : ¬ ∀ a ∈ q, inR a) (d : Nat) : ∀ i : Nat, i + d = q.length → (∀ j (h : j < q.length), j < i → inR q[j]) →
    Ev (fun k => dancestudioref45_Fit.l0 k q (tbl (q.take i) p) (i : Int) s p) (([] : List Int), 0, 1) := by
  induction d with
  | zero =>
    intro i hi h
    exact absurd (all_mem.1 fun j hj => h j hj (by omega)) rq
  | succ d ih =>
    intro i hi h
    have hlt : i < q.length := by omega
    refine ev_step (fun k => by simp only [dancestudioref45_Fit.l0] <;> exact rfl) (ev_pos (by omega) (ev_pos (by omega) ?_))
    simp only [rdT q hlt, rvalid_ev, Option.bind_some]
    by_cases ra : inR q[i]
    · refine ev_pos (decide_eq_true ra) ?_
      have inner : ∀ e j : Nat, j + e = p.length → Ev (fun k => dancestudioref45_Fit.l1 k q (tbl (q.take i) p) (i : Int) ((p.take j).map (d2 q[i])) (j : Int) s p) (([] : List Int), 0, 1) := by
        intro e
        induction e with
        | zero =>
          intro j hj
          refine ev_step (fun k => by simp only [dancestudioref45_Fit.l1] <;> exact rfl) (ev_neg (by omega) (ev_pos (by rw [tbl_len, List.length_take]; omega) ?_))
          rw [w64 (by omega) (by omega), List.take_of_length_le (show p.length ≤ j by omega), take_tbl q p hlt]
          refine ih (i + 1) (by omega) fun j hj hji => ?_
          by_cases e : j = i
          · subst e; exact ra
          · exact h j hj (by omega)
        | succ e ihe =>
          intro j hj
          have hjl : j < p.length := by omega
          refine ev_step (fun k => by simp only [dancestudioref45_Fit.l1] <;> exact rfl) (ev_pos (by omega) (ev_pos (by omega) (ev_pos (by omega) (ev_pos (by omega) ?_))))
          simp only [rdT q hlt, rdT p hjl, rdist_ok ra (rp p[j] (List.getElem_mem hjl)), Option.bind_some]
          refine ev_pos (by rw [List.length_map, List.length_take]; omega) ?_
          rw [w64 (by omega) (by omega), take_mapI p hjl]
          exact ihe (j + 1) (by omega)
      exact inner p.length 0 (by omega)
    · exact ev_neg (fun z => ra (of_decide_eq_true z)) (ev_now _)
theorem rfit_ev {l : Bs} {p q : List S52} {R : List Int × Int × Int} (h8 : p.length ≤ 8 ∨ p.length > 16) (h : FitR l p q R) : Ev (fun k => dancestudioref45_Fit.f k (mkB l) p q) R := by
  unfold dancestudioref45_Fit.f
  rcases h with ⟨a, e⟩ | ⟨a, b, e⟩ | ⟨a, b, c, e⟩ | ⟨a, b, c, e, B⟩
  · subst e; exact Ev.bind (rcheck_ev l p) (ev_neg a (ev_now _))
  · subst e
    have c0 := rcheck_ev l p
    rw [a] at c0
    exact Ev.bind c0 (ev_pos rfl (ev_neg (by omega) (ev_now _)))
  · subst e
    have c0 := rcheck_ev l p
    rw [a] at c0
    obtain ⟨h1, h2, h3, _⟩ := chkF_ok a
    exact Ev.bind c0 (ev_pos rfl (ev_pos (by omega) (rfit_bad h2 b (all_mem.1 h3) c q.length 0 (by omega) fun j _ hj => by omega)))
  · have c0 := rcheck_ev l p
    rw [a] at c0
    obtain ⟨h1, h2, h3, _⟩ := chkF_ok a
    obtain ⟨s, m, z⟩ := R
    subst e
    have r := rSolve_ev (tbl_chk b h2 (all_mem.1 h3) c) (by rw [tbl_len]; omega) (l := s) (m := m) (by rw [tbl_len, b]; exact B)
    exact Ev.bind c0 (ev_pos rfl (ev_pos (by omega) (rfit_l0 h2 b (all_mem.1 h3) c r q.length 0 (by omega))))
/-- Few places, or too many. -/
theorem few_ev (l : Bs) (p : List S52) : dancestudiolaw45_few.f (mkB l) p = some (decide (l.length ≤ 60 ∧ (p.length ≤ 6 ∨ 16 < p.length ∧ p.length ≤ 30))) := by
  unfold dancestudiolaw45_few.f
  rw [size_mk]
  by_cases h1 : (l.length : Int) ≤ 60
  · rw [if_pos h1]
    by_cases h2 : (p.length : Int) ≤ 6
    · rw [if_pos h2]; simp; omega
    · rw [if_neg h2]
      by_cases h3 : (p.length : Int) > 16
      · rw [if_pos h3]; congr 1; exact decide_eq_decide.2 (by omega)
      · rw [if_neg h3]; simp; omega
  · rw [if_neg h1]; simp; omega
theorem pure_FormationFits (s : ByteArray) (p q : List S52) (hn : q.length ≤ maxLen) (_ : ∀ a ∈ q, True) : ∃ k, dancestudiolaw45_FormationFits.f k s p q = some true := by
  refine ev_some (g := fun k => dancestudiolaw45_FormationFits.f k s p q) ?_
  obtain ⟨l, rfl⟩ := ex_mk s
  have out : Ev (fun k => dancestudiolaw45_FormationFits.j0 k q true (mkB l) p) true :=
    ev_step (fun k => by simp only [dancestudiolaw45_FormationFits.j0] <;> exact rfl) (ev_pos (c := true = true) rfl awake_out)
  unfold dancestudiolaw45_FormationFits.f
  rw [few_ev]
  simp only [Option.bind_some]
  by_cases hf : l.length ≤ 60 ∧ (p.length ≤ 6 ∨ 16 < p.length ∧ p.length ≤ 30)
  · refine ev_pos (decide_eq_true hf) ?_
    by_cases h30 : (q.length : Int) > 30
    · rw [decide_eq_true h30]; exact out
    rw [decide_eq_false h30]
    obtain ⟨R, hR, e⟩ := fit_ev l p q hn
    refine ev_step (fun k => by simp only [dancestudiolaw45_FormationFits.j0] <;> exact rfl) (ev_neg (by simp) ?_)
    exact Ev.bind e (Ev.bind (rfit_ev (by omega) hR) (Ev.bind (ints_ev _ hR.len) (ev_pos (c := true = true) rfl (ev_pos rfl (ev_pos rfl awake_out)))))
  · exact ev_neg (fun z => hf (of_decide_eq_true z)) out
end Go.Proofs.YtaggccbndmmbhaaDoor.PAll
