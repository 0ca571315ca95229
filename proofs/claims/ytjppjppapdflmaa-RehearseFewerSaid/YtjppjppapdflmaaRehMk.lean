/- Sessions out of slots and rooms. -/
import Derived.Test.YtjppjppapdflmaaRehPlan
namespace Go.Proofs.Ytjppjppapdflmaa.PAll
set_option linter.unusedVariables false
set_option linter.unusedSectionVars false
set_option linter.unusedSimpArgs false
open Go Go.RowKit Go.Proofs.YtjppjppapdflmaaW.PrintWords Go.Proofs.YtjppjppapdflmaaW.PrintLast Go.Proofs.YtjppjppapdflmaaW.PrintMore Go.Proofs.Ytjppjppapdflmaa.MathNum Go.Proofs.Ytjppjppapdflmaa.EvWords

/-- Sessions with slots p and, as far as they go, rooms out. -/
def mkS (p out : List Int) : List S48 := (List.range p.length).map fun (j : Nat) => ⟨(j : Int), rd out (j : Int), rd p (j : Int)⟩
theorem mkS_len {p out : List Int} : (mkS p out).length = p.length := by unfold mkS; rw [List.length_map, List.length_range]
theorem mkS_at {p out : List Int} {j : Nat} (h : j < p.length) : rd_T48 (mkS p out) (j : Int) = ⟨(j : Int), rd out (j : Int), rd p (j : Int)⟩ := by
  rw [rd48 _ (show j < (mkS p out).length by rw [mkS_len]; exact h)]
  unfold mkS
  rw [List.getElem_map, List.getElem_range]
theorem mkS_get {p out : List Int} {j : Nat} (h : j < (mkS p out).length) : (mkS p out)[j] = ⟨(j : Int), rd out (j : Int), rd p (j : Int)⟩ := by
  rw [← rd48 _ h, mkS_at (by rw [mkS_len] at h; exact h)]
theorem rd_out {l : List Int} {j : Nat} (h : l.length ≤ j) : rd l (j : Int) = 0 := by
  unfold rd
  rw [List.getD_eq_getElem?_getD, Int.toNat_natCast, List.getElem?_eq_none h]; rfl
theorem mkS_set {p out : List Int} {r : Int} (h : out.length < p.length) : (mkS p out).set out.length ⟨(out.length : Int), r, rd p (out.length : Int)⟩ = mkS p (out ++ [r]) := by
  apply List.ext_getElem
  · rw [List.length_set, mkS_len, mkS_len]
  · intro j h1 h2
    rw [List.getElem_set, mkS_get, mkS_get]
    have hj : j < p.length := by rw [mkS_len] at h2; exact h2
    by_cases e : out.length = j
    · subst e; rw [if_pos rfl, rd_last]
    · rw [if_neg e]
      by_cases q : j < out.length
      · rw [rd_app q]
      · rw [rd_out (show out.length ≤ j by omega), rd_out (show (out ++ [r]).length ≤ j by rw [len1]; omega)]
theorem mkS_app {p : List Int} {a : Int} : mkS p [] ++ [⟨(p.length : Int), 0, a⟩] = mkS (p ++ [a]) [] := by
  apply List.ext_getElem
  · rw [List.length_append, mkS_len, mkS_len, len1]; rfl
  · intro j h1 h2
    have hj : j < p.length + 1 := by rw [mkS_len, len1] at h2; exact h2
    by_cases e : j < p.length
    · rw [List.getElem_append_left (show j < (mkS p []).length by rw [mkS_len]; exact e), mkS_get, mkS_get, rd_app e]
    · have e : j = p.length := by omega
      subst e
      rw [List.getElem_append_right (show (mkS p []).length ≤ p.length by rw [mkS_len]; exact Nat.le_refl _), mkS_get, rd_last, rd_out (show ([] : List Int).length ≤ p.length by simp)]
      simp
/-- What a search of the reference answers. -/
def resS (f : List Int → List S48) : Option (List Int) → List S48 × Bool
 | some q => (f q, true)
 | none => ([], false)
section
variable {t : Tk} (o : Okt t) (hc : Hc t)
include o hc
/-- The plan that has slots q. -/
def planS (t : Tk) (q : List Int) : List S48 := mkS q ((roomsD t q).getD [])
end
end Go.Proofs.Ytjppjppapdflmaa.PAll
