/- FormationClashes: plain law. -/
import Derived.Test.YtaggccbndmmbhaaDoorBase
import Derived.Test.YtaggccbndmmbhaaDoorPAllf6
import Derived.Test.YtaggccbndmmbhaaDoorPAllf21
import Derived.Test.YtaggccbndmmbhaaDoorPAllf22
import Derived.Test.YtaggccbndmmbhaaDoorChk
import Derived.Test.YtaggccbndmmbhaaDoorFGeomTouchRef
namespace Go.Proofs.YtaggccbndmmbhaaDoor.PAll
set_option linter.unusedVariables false
open Go Go.RowKit Go.Proofs.YtaggccbndmmbhaaDoorW.PrintWords Go.Proofs.YtaggccbndmmbhaaDoorW.PrintLast Go.Proofs.YtaggccbndmmbhaaDoorW.PrintMore Go.Proofs.YtaggccbndmmbhaaDoor.MathNum Go.Proofs.YtaggccbndmmbhaaDoor.EvWords
def tV (a b : S55) : Bool × Int := touchV a.f0.f0 a.f0.f1 a.f1.f0 a.f1.f1 a.f2 b.f0.f0 b.f0.f1 b.f1.f0 b.f1.f1 b.f2
def moK (a : S55) : Prop := mOk a.f0.f0 a.f0.f1 a.f1.f0 a.f1.f1 a.f2
instance (a : S55) : Decidable (moK a) := by unfold moK; exact inferInstance
theorem rdM (l : List S55) {i : Nat} (h : i < l.length) : rd_T55 l (i : Int) = l[i] := by
  unfold rd_T55
  rw [List.getD_eq_getElem?_getD, Int.toNat_natCast, List.getElem?_eq_getElem h]; rfl
theorem tV_self (a : S55) : (tV a a).2 = if moK a then 0 else 1 := by
  by_cases h : moK a
  · rw [if_pos h]; unfold tV touchV; have h' : mOk a.f0.f0 a.f0.f1 a.f1.f0 a.f1.f1 a.f2 := h; rw [if_pos ⟨h', h'⟩]
  · rw [if_neg h]; unfold tV touchV; have h' : ¬ mOk a.f0.f0 a.f0.f1 a.f1.f0 a.f1.f1 a.f2 := h; rw [if_neg (fun x => h' x.1)]
section
variable (l : List S55) (hn : l.length ≤ 16)
include hn
/-- From the pair (a, b) on. -/
theorem pairs_ev (e : Nat) : ∀ a : Nat, a + e = l.length → ∃ R, Ev (fun k => formation_Clash.l1 k l (-1) (-1) (l.length : Int) (a : Int)) R ∧ Ev (fun k => dancestudioref45_Clash.l1 k l (a : Int)) R := by
  induction e with
  | zero =>
    intro a ha
    exact ⟨(-1, -1, 0), ev_step (fun k => by simp only [formation_Clash.l1] <;> exact rfl) (ev_neg (by omega) (ev_now _)), ev_step (fun k => by simp only [dancestudioref45_Clash.l1] <;> exact rfl) (ev_neg (by omega) (ev_now _))⟩
  | succ e ih =>
    intro a ha
    have hla : a < l.length := by omega
    have l2 : ∀ f b : Nat, b + f = l.length → ∃ R, Ev (fun k => formation_Clash.l2 k l (-1) (-1) (a : Int) (b : Int) (l.length : Int) (a : Int)) R ∧ Ev (fun k => dancestudioref45_Clash.l2 k l (a : Int) (b : Int)) R := by
      intro f
      induction f with
      | zero =>
        intro b hb
        obtain ⟨R, e1, e2⟩ := ih (a + 1) (by omega)
        refine ⟨R, ev_step (fun k => by simp only [formation_Clash.l2] <;> exact rfl) (ev_neg (by omega) ?_), ev_step (fun k => by simp only [dancestudioref45_Clash.l2] <;> exact rfl) (ev_neg (by omega) ?_)⟩
        · rw [w64 (by omega) (by omega)]; exact e1
        · rw [w64 (by omega) (by omega)]; exact e2
      | succ f ihf =>
        intro b hb
        have hlb : b < l.length := by omega
        obtain ⟨R, e1, e2⟩ := ihf (b + 1) (by omega)
        by_cases ht : (tV l[a] l[b]).1 = true
        · refine ⟨((a : Int), (b : Int), 0), ev_step (fun k => by simp only [formation_Clash.l2] <;> exact rfl) (ev_pos (by omega) (ev_pos (by omega) (ev_pos (by omega) (ev_pos (by omega) ?_)))), ev_step (fun k => by simp only [dancestudioref45_Clash.l2] <;> exact rfl) (ev_pos (by omega) (ev_pos (by omega) (ev_pos (by omega) (ev_pos (by omega) ?_))))⟩
          · simp only [rdM l hla, rdM l hlb]; exact Ev.bind (touch_ev _ _ _ _ _ _ _ _ _ _) (ev_pos ht (ev_now _))
          · simp only [rdM l hla, rdM l hlb]; exact Ev.bind (rtouch_ev _ _ _ _ _ _ _ _ _ _) (ev_pos ht (ev_now _))
        · refine ⟨R, ev_step (fun k => by simp only [formation_Clash.l2] <;> exact rfl) (ev_pos (by omega) (ev_pos (by omega) (ev_pos (by omega) (ev_pos (by omega) ?_)))), ev_step (fun k => by simp only [dancestudioref45_Clash.l2] <;> exact rfl) (ev_pos (by omega) (ev_pos (by omega) (ev_pos (by omega) (ev_pos (by omega) ?_))))⟩
          · simp only [rdM l hla, rdM l hlb]; refine Ev.bind (touch_ev _ _ _ _ _ _ _ _ _ _) (ev_neg ht ?_); rw [w64 (by omega) (by omega)]; exact e1
          · simp only [rdM l hla, rdM l hlb]; refine Ev.bind (rtouch_ev _ _ _ _ _ _ _ _ _ _) (ev_neg ht ?_); rw [w64 (by omega) (by omega)]; exact e2
    obtain ⟨R, e1, e2⟩ := l2 (e) (a + 1) (by omega)
    refine ⟨R, ev_step (fun k => by simp only [formation_Clash.l1] <;> exact rfl) (ev_pos (by omega) ?_), ev_step (fun k => by simp only [dancestudioref45_Clash.l1] <;> exact rfl) (ev_pos (by omega) ?_)⟩
    · rw [w64 (by omega) (by omega)]; exact e1
    · rw [w64 (by omega) (by omega)]; exact e2
theorem clash_l0 (d : Nat) : ∀ i : Nat, i + d = l.length → ∃ R, Ev (fun k => formation_Clash.l0 k l l (l.length : Int) (i : Int)) R ∧ Ev (fun k => dancestudioref45_Clash.l0 k l (i : Int)) R := by
  induction d with
  | zero =>
    intro i hi
    obtain ⟨R, e1, e2⟩ := pairs_ev l hn l.length 0 (by omega)
    exact ⟨R, ev_step (fun k => by simp only [formation_Clash.l0] <;> exact rfl) (ev_neg (by omega) e1), ev_step (fun k => by simp only [dancestudioref45_Clash.l0] <;> exact rfl) (ev_neg (by omega) e2)⟩
  | succ d ih =>
    intro i hi
    have hli : i < l.length := by omega
    obtain ⟨R, e1, e2⟩ := ih (i + 1) (by omega)
    have next : Ev (fun k => formation_Clash.l0 k l l (l.length : Int) (wrap64 ((i : Int) + 1))) R := by rw [w64 (by omega) (by omega)]; exact e1
    have rnext : Ev (fun k => dancestudioref45_Clash.l0 k l (wrap64 ((i : Int) + 1))) R := by rw [w64 (by omega) (by omega)]; exact e2
    have ts := tV_self l[i]
    have rstep : ∀ {R' : Int × Int × Int}, Ev (fun k => if (tV l[i] l[i]).2 = 0 then dancestudioref45_Clash.l0 k l (wrap64 ((i : Int) + 1)) else some (0, 0, (tV l[i] l[i]).2)) R' → Ev (fun k => dancestudioref45_Clash.l0 k l (i : Int)) R' := fun h => by
      refine ev_step (fun k => by simp only [dancestudioref45_Clash.l0] <;> exact rfl) (ev_pos (by omega) (ev_pos (by omega) ?_))
      simp only [rdM l hli]
      exact Ev.bind (rtouch_ev _ _ _ _ _ _ _ _ _ _) h
    by_cases hm : moK l[i]
    · refine ⟨R, ?_, rstep (ev_pos (by rw [ts, if_pos hm]) rnext)⟩
      refine ev_step (fun k => by simp only [formation_Clash.l0] <;> exact rfl) (ev_pos (by omega) (ev_pos (by omega) (ev_pos (by omega) ?_)))
      simp only [rdM l hli, outside_ev, Option.bind_some]
      unfold moK mOk cOk rOk at hm
      refine ev_neg (by simp; omega) (ev_neg (by simp; omega) (ev_neg (by omega) (ev_neg (by omega) next)))
    · refine ⟨(0, 0, 1), ?_, rstep ?_⟩
      · refine ev_step (fun k => by simp only [formation_Clash.l0] <;> exact rfl) (ev_pos (by omega) (ev_pos (by omega) (ev_pos (by omega) ?_)))
        simp only [rdM l hli, outside_ev, Option.bind_some]
        unfold moK mOk cOk rOk at hm
        by_cases c1 : -32768 ≤ l[i].f0.f0 ∧ l[i].f0.f0 ≤ 32768 ∧ -32768 ≤ l[i].f0.f1 ∧ l[i].f0.f1 ≤ 32768
        · refine ev_neg (by rw [decide_eq_true c1]; simp) ?_
          by_cases c2 : -32768 ≤ l[i].f1.f0 ∧ l[i].f1.f0 ≤ 32768 ∧ -32768 ≤ l[i].f1.f1 ∧ l[i].f1.f1 ≤ 32768
          · refine ev_neg (by rw [decide_eq_true c2]; simp) ?_
            by_cases c3 : l[i].f2 < 0
            · exact ev_pos c3 (ev_now _)
            · exact ev_neg c3 (ev_pos (by omega) (ev_now _))
          · exact ev_pos (by rw [decide_eq_false c2]; rfl) (ev_now _)
        · exact ev_pos (by rw [decide_eq_false c1]; rfl) (ev_now _)
      · rw [ts, if_neg hm]
        exact ev_neg (by omega) (ev_now _)
end
theorem pure_FormationClashes (l : List S55) (hn : l.length ≤ maxLen) (_ : ∀ a ∈ l, True) : ∃ k, dancestudiolaw45_FormationClashes.f k l = some true := by
  refine ev_some (g := fun k => dancestudiolaw45_FormationClashes.f k l) ?_
  unfold dancestudiolaw45_FormationClashes.f
  by_cases h1 : (l.length : Int) > 20
  · exact ev_pos h1 awake_out
  refine ev_neg h1 ?_
  obtain ⟨R, e1, e2⟩ : ∃ R, Ev (fun k => formation_Clash.f k l) R ∧ Ev (fun k => dancestudioref45_Clash.f k l) R := by
    unfold formation_Clash.f dancestudioref45_Clash.f
    by_cases h2 : (l.length : Int) > 16
    · exact ⟨_, ev_pos h2 (ev_now _), ev_pos h2 (ev_now _)⟩
    · obtain ⟨R, a, b⟩ := clash_l0 l (by omega) l.length 0 (by omega)
      exact ⟨R, ev_neg h2 a, ev_neg h2 b⟩
  exact Ev.bind e1 (Ev.bind e2 (ev_pos rfl (ev_pos rfl (ev_pos rfl awake_out))))
end Go.Proofs.YtaggccbndmmbhaaDoor.PAll
