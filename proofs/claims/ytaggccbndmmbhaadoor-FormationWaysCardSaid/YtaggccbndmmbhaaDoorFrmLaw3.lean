/- FormationWays: plain law. -/
import Derived.Test.YtaggccbndmmbhaaDoorBase
import Derived.Test.YtaggccbndmmbhaaDoorPAllf5
import Derived.Test.YtaggccbndmmbhaaDoorPAllf19
import Derived.Test.YtaggccbndmmbhaaDoorPAllf20
import Derived.Test.YtaggccbndmmbhaaDoorFrmWays
import Derived.Test.YtaggccbndmmbhaaDoorFrmLaw2
namespace Go.Proofs.YtaggccbndmmbhaaDoor.PAll
set_option linter.unusedVariables false
open Go Go.RowKit Go.Proofs.YtaggccbndmmbhaaDoorW.PrintWords Go.Proofs.YtaggccbndmmbhaaDoorW.PrintLast Go.Proofs.YtaggccbndmmbhaaDoorW.PrintMore Go.Proofs.YtaggccbndmmbhaaDoor.MathNum Go.Proofs.YtaggccbndmmbhaaDoor.EvWords
theorem rways_l0 {S : ByteArray} {p q : List S52} {s : List Int} (x : Int) (hp : p.length ≤ 16) (hq : q.length = p.length) (ha : Asg s p.length) (d : Nat) : ∀ i : Nat, i + d = p.length →
    Ev (fun k => dancestudioref45_Ways.l0 k q x s (waysN q p s x i) (i : Int) S p) (waysN q p s x p.length, 0) := by
  have hl := ha.1
  induction d with
  | zero =>
    intro i hi
    obtain rfl : i = p.length := by omega
    exact ev_step (fun k => by simp only [dancestudioref45_Ways.l0] <;> exact rfl) (ev_neg (by omega) (ev_now _))
  | succ d ih =>
    intro i hi
    obtain ⟨r1, r2, _⟩ := ha.2 (i : Int) (by omega) (by omega)
    refine ev_step (fun k => by simp only [dancestudioref45_Ways.l0] <;> exact rfl) (ev_pos (by omega) (ev_pos (by omega) (ev_pos (by omega) (ev_pos r1 (ev_pos r2 (ev_pos (by rw [waysN_len]; omega) ?_))))))
    rw [w64 (by omega) (by omega)]
    have := ih (i + 1) (by omega)
    rw [← waysN_succ] at this
    exact this
theorem rways_ev {l : Bs} {p q : List S52} {R : List Int × Int × Int} (x : Int) (h8 : p.length ≤ 8 ∨ p.length > 16) (hR : FitR l p q R) : Ev (fun k => dancestudioref45_Ways.f k (mkB l) p q x) (waysV p q x R) := by
  unfold dancestudioref45_Ways.f
  refine Ev.bind (rfit_ev h8 hR) ?_
  unfold waysV
  by_cases h0 : R.2.2 = 0
  · rw [if_pos h0]
    refine ev_pos h0 ?_
    obtain ⟨a, b, c, B⟩ := hR.ok h0
    have hp := (chkF_ok a).2.1
    rw [rRadius]
    simp only [Option.bind_some]
    by_cases h1 : rOk x
    · unfold rOk at h1
      rw [if_neg (by omega)]
      exact ev_pos (decide_eq_true h1) (rways_l0 x hp b B.asg p.length 0 (by omega))
    · have h2 := h1
      unfold rOk at h2
      rw [if_pos (by omega)]
      exact ev_neg (fun z => h1 (of_decide_eq_true z)) (ev_now _)
  · rw [if_neg h0]; exact ev_neg h0 (ev_now _)
theorem motions_ev (a : List S55) (ha : a.length ≤ 16) : Ev (fun k => dancestudioref45_Motions.f k a a) true := by
  unfold dancestudioref45_Motions.f
  refine ev_pos rfl ?_
  have go : ∀ d i : Nat, i + d = a.length → Ev (fun k => dancestudioref45_Motions.l0 k a a (i : Int)) true := by
    intro d
    induction d with
    | zero => intro i hi; exact ev_step (fun k => by simp only [dancestudioref45_Motions.l0] <;> exact rfl) (ev_neg (by omega) (ev_now _))
    | succ d ih =>
      intro i hi
      refine ev_step (fun k => by simp only [dancestudioref45_Motions.l0] <;> exact rfl) (ev_pos (by omega) (ev_pos (by omega) (ev_pos (by omega) (ev_neg (by simp) ?_))))
      rw [w64 (by omega) (by omega)]
      exact ih (i + 1) (by omega)
  exact go a.length 0 (by omega)
theorem pure_FormationWays (s : ByteArray) (p q : List S52) (hn : q.length ≤ maxLen) (_ : ∀ a ∈ q, True) (x : Int) (_ : (Lit.int .i64 x).wf = true) : ∃ k, dancestudiolaw45_FormationWays.f k s p q x = some true := by
  refine ev_some (g := fun k => dancestudiolaw45_FormationWays.f k s p q x) ?_
  obtain ⟨l, rfl⟩ := ex_mk s
  have out : Ev (fun k => dancestudiolaw45_FormationWays.j0 k q x true (mkB l) p) true :=
    ev_step (fun k => by simp only [dancestudiolaw45_FormationWays.j0] <;> exact rfl) (ev_pos (c := true = true) rfl awake_out)
  unfold dancestudiolaw45_FormationWays.f
  rw [few_ev]
  simp only [Option.bind_some]
  by_cases hf : l.length ≤ 60 ∧ (p.length ≤ 6 ∨ 16 < p.length ∧ p.length ≤ 30)
  · refine ev_pos (decide_eq_true hf) ?_
    by_cases h30 : (q.length : Int) > 30
    · rw [decide_eq_true h30]; exact out
    rw [decide_eq_false h30]
    obtain ⟨R, hR, e⟩ := fit_ev l p q hn
    refine ev_step (fun k => by simp only [dancestudiolaw45_FormationWays.j0] <;> exact rfl) (ev_neg (by simp) ?_)
    exact Ev.bind (ways_ev x hR e) (Ev.bind (rways_ev x (by omega) hR) (Ev.bind (motions_ev _ (waysV_len hR)) (ev_pos (c := true = true) rfl (ev_pos rfl awake_out))))
  · exact ev_neg (fun z => hf (of_decide_eq_true z)) out
end Go.Proofs.YtaggccbndmmbhaaDoor.PAll
