/- Names: the program and the reference answer alike. -/
import Derived.Test.YtimikhbnihedkaaDoorMC0
import Derived.Test.YtimikhbnihedkaaDoorMC1
import Derived.Test.YtimikhbnihedkaaDoorPAllf15
namespace Go.Proofs.YtimikhbnihedkaaDoor.PAll
set_option linter.unusedVariables false
set_option linter.unusedSectionVars false
set_option linter.unusedSimpArgs false
open Go Go.RowKit Go.Proofs.YtimikhbnihedkaaDoorW.PrintWords Go.Proofs.YtimikhbnihedkaaDoorW.PrintLast Go.Proofs.YtimikhbnihedkaaDoorW.PrintMore Go.Proofs.YtimikhbnihedkaaDoor.MathNum Go.Proofs.YtimikhbnihedkaaDoor.EvWords

def idxI : List ByteArray → ByteArray → Nat → Int
 | [], _, _ => -1
 | y :: l, x, i => if x.toList = y.toList then (i : Int) else idxI l x (i + 1)
theorem rdS (l : List ByteArray) {i : Nat} (h : i < l.length) : rdOf ByteArray.empty l (i : Int) = l[i] := by
  unfold rdOf; rw [Int.toNat_natCast, List.getD_eq_getElem?_getD, List.getElem?_eq_getElem h]; rfl
section
variable (l : List ByteArray) (x : ByteArray) (hn : l.length < 4611686018427387904)
include hn
theorem pidx_l0 (d : Nat) : ∀ i : Nat, i + d = l.length → Ev (fun k => slices_Index_string_string.l0 k l x (l.length : Int) (i : Int)) (idxI (l.drop i) x i) := by
  induction d with
  | zero =>
    intro i hi
    rw [List.drop_eq_nil_of_le (by omega)]
    exact ev_step (fun k => by simp only [slices_Index_string_string.l0] <;> exact rfl) (ev_neg (by omega) (ev_now _))
  | succ d ih =>
    intro i hi
    have hlt : i < l.length := by omega
    rw [List.drop_eq_getElem_cons hlt]
    refine ev_step (fun k => by simp only [slices_Index_string_string.l0] <;> exact rfl) (ev_pos (by omega) (ev_pos (by omega) (ev_pos (by omega) ?_)))
    rw [rdS l hlt]
    refine ev_ite (fun h => ?_) (fun h => ?_)
    · exact ev_eq (ev_now _) (by simp only [idxI, if_pos h])
    · rw [w64 (by omega) (by omega)]
      exact ev_eq (ih (i + 1) (by omega)) (by simp only [idxI, if_neg h])
theorem ridx_l0 (d : Nat) : ∀ i : Nat, i + d = l.length → Ev (fun k => dancestudioref35_index.l0 k l x (i : Int)) (idxI (l.drop i) x i) := by
  induction d with
  | zero =>
    intro i hi
    rw [List.drop_eq_nil_of_le (by omega)]
    exact ev_step (fun k => by simp only [dancestudioref35_index.l0] <;> exact rfl) (ev_neg (by omega) (ev_now _))
  | succ d ih =>
    intro i hi
    have hlt : i < l.length := by omega
    rw [List.drop_eq_getElem_cons hlt]
    refine ev_step (fun k => by simp only [dancestudioref35_index.l0] <;> exact rfl) (ev_pos (by omega) (ev_pos (by omega) ?_))
    rw [rdS l hlt]
    refine ev_ite (fun h => ?_) (fun h => ?_)
    · exact ev_eq (ev_now _) (by simp only [idxI, if_pos h.symm])
    · rw [w64 (by omega) (by omega)]
      exact ev_eq (ih (i + 1) (by omega)) (by simp only [idxI]; rw [if_neg (fun h2 => h (Eq.symm h2))])
theorem pidx_ev : Ev (fun k => slices_Index_string_string.f k l x) (idxI l x 0) := pidx_l0 l x hn l.length 0 (by omega)
theorem ridx_ev : Ev (fun k => dancestudioref35_index.f k l x) (idxI l x 0) := ridx_l0 l x hn l.length 0 (by omega)
theorem pcont_ev : Ev (fun k => slices_Contains_string_string.f k l x) (decide (idxI l x 0 ≥ 0)) := by
  unfold slices_Contains_string_string.f
  exact Ev.bind (pidx_ev l x hn) (ev_now _)
end
def namesT : List S43 → List ByteArray → List ByteArray
 | [], acc => acc
 | s :: l, acc => if s.f0 = 1 then (if idxI acc s.f1 0 ≥ 0 then namesT l acc else namesT l (acc ++ [s.f1])) else namesT l acc
section
variable (l : List S43) (hn : l.length ≤ 64)
include hn
theorem pnames_l0 (d : Nat) : ∀ (i : Nat) (acc : List ByteArray), i + d = l.length → acc.length ≤ i → Ev (fun k => lang_Names.l0 k acc l (l.length : Int) (i : Int)) (namesT (l.drop i) acc, (0 : Int)) := by
  induction d with
  | zero =>
    intro i acc hi ha
    rw [List.drop_eq_nil_of_le (by omega)]
    exact ev_step (fun k => by simp only [lang_Names.l0] <;> exact rfl) (ev_neg (by omega) (ev_now _))
  | succ d ih =>
    intro i acc hi ha
    have hlt : i < l.length := by omega
    rw [List.drop_eq_getElem_cons hlt, ← rd43 l hlt]
    refine ev_step (fun k => by simp only [lang_Names.l0] <;> exact rfl) (ev_pos (by omega) (ev_pos (by omega) (ev_pos (by omega) ?_)))
    rw [w64 (by omega) (by omega)]
    refine ev_ite (fun h => ?_) (fun h => ?_)
    · refine Ev.bind (pcont_ev acc _ (by omega)) ?_
      refine ev_ite (fun h1 => ?_) (fun h1 => ?_)
      · exact ev_eq (ih (i + 1) acc (by omega) (by omega)) (by simp only [namesT, if_pos h, if_pos (of_decide_eq_true h1)])
      · refine ev_pos (by omega) ?_
        exact ev_eq (ih (i + 1) _ (by omega) (by rw [List.length_append]; simp; omega)) (by simp only [namesT, if_pos h]; rw [if_neg (fun h2 => h1 (decide_eq_true h2))])
    · exact ev_eq (ih (i + 1) acc (by omega) (by omega)) (by simp only [namesT, if_neg h])
theorem rnames_l0 (d : Nat) : ∀ (i : Nat) (acc : List ByteArray), i + d = l.length → acc.length ≤ i → Ev (fun k => dancestudioref35_Names.l0 k l acc (i : Int)) (namesT (l.drop i) acc, (0 : Int)) := by
  induction d with
  | zero =>
    intro i acc hi ha
    rw [List.drop_eq_nil_of_le (by omega)]
    exact ev_step (fun k => by simp only [dancestudioref35_Names.l0] <;> exact rfl) (ev_neg (by omega) (ev_now _))
  | succ d ih =>
    intro i acc hi ha
    have hlt : i < l.length := by omega
    rw [List.drop_eq_getElem_cons hlt, ← rd43 l hlt]
    refine ev_step (fun k => by simp only [dancestudioref35_Names.l0] <;> exact rfl) (ev_pos (by omega) (ev_pos (by omega) ?_))
    rw [w64 (by omega) (by omega)]
    refine ev_ite (fun h => ?_) (fun h => ?_)
    · refine Ev.bind (ridx_ev acc _ (by omega)) ?_
      refine ev_ite (fun h1 => ?_) (fun h1 => ?_)
      · refine ev_pos (by omega) ?_
        exact ev_eq (ih (i + 1) _ (by omega) (by rw [List.length_append]; simp; omega)) (by simp only [namesT, if_pos h]; rw [if_neg (by omega)])
      · exact ev_eq (ih (i + 1) acc (by omega) (by omega)) (by simp only [namesT, if_pos h]; rw [if_pos (by omega)])
    · exact ev_eq (ih (i + 1) acc (by omega) (by omega)) (by simp only [namesT, if_neg h])
end
theorem chkE_len {l : List S43} (h : chkE l = 0) : 1 ≤ l.length ∧ l.length ≤ 64 := by
  unfold chkE at h
  by_cases h0 : (l.length : Int) = 0
  · rw [if_pos h0] at h; exact absurd h (by decide)
  rw [if_neg h0] at h
  by_cases h1 : (l.length : Int) > 64
  · rw [if_pos h1] at h; exact absurd h (by decide)
  omega
noncomputable def nmsE (l : List S43) : List ByteArray × Int := if chkE l = 0 then (namesT l [], 0) else ([], chkE l)
theorem pnms_ev (l : List S43) : Ev (fun k => lang_Names.f k l) (nmsE l) := by
  unfold lang_Names.f
  refine Ev.bind (pchk_ev l) ?_
  refine ev_ite (fun h => ?_) (fun h => ?_)
  · exact ev_eq (pnames_l0 l (chkE_len h).2 l.length 0 [] (by omega) (by simp)) (by unfold nmsE; rw [if_pos h]; rfl)
  · exact ev_eq (ev_now _) (by unfold nmsE; rw [if_neg h])
theorem rnms_ev (l : List S43) : Ev (fun k => dancestudioref35_Names.f k l) (nmsE l) := by
  unfold dancestudioref35_Names.f
  refine Ev.bind (rchk_ev l) ?_
  refine ev_ite (fun h => ?_) (fun h => ?_)
  · exact ev_eq (rnames_l0 l (chkE_len h).2 l.length 0 [] (by omega) (by simp)) (by unfold nmsE; rw [if_pos h]; rfl)
  · exact ev_eq (ev_now _) (by unfold nmsE; rw [if_neg h])
end Go.Proofs.YtimikhbnihedkaaDoor.PAll
