/- Ways: what the formation's answers. -/
import Derived.Test.YtaggccbndmmbhaaDoorBase
import Derived.Test.YtaggccbndmmbhaaDoorPAllf15
import Derived.Test.YtaggccbndmmbhaaDoorPAllf18
import Derived.Test.YtaggccbndmmbhaaDoorFit
namespace Go.Proofs.YtaggccbndmmbhaaDoor.PAll
set_option linter.unusedVariables false
open Go Go.RowKit Go.Proofs.YtaggccbndmmbhaaDoorW.PrintWords Go.Proofs.YtaggccbndmmbhaaDoorW.PrintLast Go.Proofs.YtaggccbndmmbhaaDoorW.PrintMore Go.Proofs.YtaggccbndmmbhaaDoor.MathNum Go.Proofs.YtaggccbndmmbhaaDoor.EvWords
def wayAt (q p : List S52) (s : List Int) (x : Int) (i : Nat) : S55 := ⟨⟨(rd_T52 q (i : Int)).f0, (rd_T52 q (i : Int)).f1⟩, ⟨(rd_T52 p (rd s (i : Int))).f0, (rd_T52 p (rd s (i : Int))).f1⟩, x⟩
def waysN (q p : List S52) (s : List Int) (x : Int) (n : Nat) : List S55 := (List.range n).map (wayAt q p s x)
theorem waysN_succ (q p : List S52) (s : List Int) (x : Int) (n : Nat) : waysN q p s x n ++ [wayAt q p s x n] = waysN q p s x (n + 1) := by
  unfold waysN; rw [List.range_succ, List.map_append]; rfl
theorem waysN_len (q p : List S52) (s : List Int) (x : Int) (n : Nat) : (waysN q p s x n).length = n := by unfold waysN; simp
theorem ways_l0 {S : ByteArray} {p q : List S52} {s : List Int} (x : Int) (hp : p.length ≤ 16) (hq : q.length = p.length) (ha : Asg s p.length) (d : Nat) : ∀ i : Nat, i + d = p.length →
    Ev (fun k => formation_Ways.l0 k q x (waysN q p s x i) s (s.length : Int) (i : Int) S p) (waysN q p s x p.length, 0) := by
  have hl := ha.1
  induction d with
  | zero =>
    intro i hi
    obtain rfl : i = p.length := by omega
    exact ev_step (fun k => by simp only [formation_Ways.l0] <;> exact rfl) (ev_neg (by omega) (ev_now _))
  | succ d ih =>
    intro i hi
    obtain ⟨r1, r2, _⟩ := ha.2 (i : Int) (by omega) (by omega)
    refine ev_step (fun k => by simp only [formation_Ways.l0] <;> exact rfl) (ev_pos (by omega) (ev_pos (by omega) (ev_pos (by omega) (ev_pos (by omega) (ev_pos r1 (ev_pos r2 (ev_pos (by rw [waysN_len]; omega) ?_)))))))
    rw [w64 (by omega) (by omega)]
    have := ih (i + 1) (by omega)
    rw [← waysN_succ] at this
    exact this
/-- What Ways answers where Fit answers R. -/
def waysV (p q : List S52) (x : Int) (R : List Int × Int × Int) : List S55 × Int := if R.2.2 = 0 then (if x < 0 ∨ x > 32768 then ([], 1) else (waysN q p R.1 x p.length, 0)) else ([], R.2.2)
theorem FitR.ok {l : Bs} {p q : List S52} {R : List Int × Int × Int} (h : FitR l p q R) (h0 : R.2.2 = 0) : chkF l p = 0 ∧ q.length = p.length ∧ (∀ a ∈ q, inR a) ∧ Best (tbl q p) p.length R.1 R.2.1 := by
  rcases h with ⟨a, e⟩ | ⟨a, b, e⟩ | ⟨a, b, c, e⟩ | ⟨a, b, c, e, B⟩
  · subst e; exact absurd h0 a
  · subst e; simp at h0
  · subst e; simp at h0
  · exact ⟨a, b, c, B⟩
theorem ways_ev {l : Bs} {p q : List S52} {R : List Int × Int × Int} (x : Int) (hR : FitR l p q R) (eR : Ev (fun k => formation_Fit.f k (mkB l) p q) R) : Ev (fun k => formation_Ways.f k (mkB l) p q x) (waysV p q x R) := by
  unfold formation_Ways.f
  refine Ev.bind eR ?_
  unfold waysV
  by_cases h0 : R.2.2 = 0
  · rw [if_pos h0]
    refine ev_pos h0 ?_
    obtain ⟨a, b, c, B⟩ := hR.ok h0
    have hp := (chkF_ok a).2.1
    have bad : Ev (fun k => formation_Ways.j0 k q x R.1 true (mkB l) p) (([] : List S55), 1) := ev_step (fun k => by simp only [formation_Ways.j0] <;> exact rfl) (ev_pos (c := true = true) rfl (ev_now _))
    by_cases h1 : x < 0
    · rw [if_pos (Or.inl h1)]; exact ev_pos h1 bad
    · refine ev_neg h1 ?_
      by_cases h2 : x > 32768
      · rw [if_pos (Or.inr h2), decide_eq_true h2]; exact bad
      · rw [if_neg (by omega), decide_eq_false h2]
        exact ev_step (fun k => by simp only [formation_Ways.j0] <;> exact rfl) (ev_neg (by simp) (ways_l0 x hp b B.asg p.length 0 (by omega)))
  · rw [if_neg h0]; exact ev_neg h0 (ev_now _)
theorem waysV_len {l : Bs} {p q : List S52} {R : List Int × Int × Int} {x : Int} (hR : FitR l p q R) : (waysV p q x R).1.length ≤ 16 := by
  unfold waysV
  by_cases h0 : R.2.2 = 0
  · rw [if_pos h0]
    have hp := (chkF_ok (hR.ok h0).1).2.1
    split
    · simp
    · rw [waysN_len]; exact hp
  · rw [if_neg h0]; simp
end Go.Proofs.YtaggccbndmmbhaaDoor.PAll
