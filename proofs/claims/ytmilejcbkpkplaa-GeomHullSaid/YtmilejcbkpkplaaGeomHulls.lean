/- Hull of the program and of the reference, with their errors. -/
import Derived.Test.YtmilejcbkpkplaaPAllx0
import Derived.Test.YtmilejcbkpkplaaPAllf20
import Derived.Test.YtmilejcbkpkplaaPAllf21
import Derived.Test.YtmilejcbkpkplaaPAllf22
import Derived.Test.YtmilejcbkpkplaaPAllf40
import Derived.Test.YtmilejcbkpkplaaPAllf41
import Derived.Test.YtmilejcbkpkplaaGeomHull
namespace Go.Proofs.Ytmilejcbkpkplaa.PAll
set_option linter.unusedVariables false
open Go Go.RowKit Go.Proofs.YtmilejcbkpkplaaW.PrintWords Go.Proofs.YtmilejcbkpkplaaW.PrintLast Go.Proofs.YtmilejcbkpkplaaW.PrintMore Go.Proofs.Ytmilejcbkpkplaa.MathNum Go.Proofs.Ytmilejcbkpkplaa.EvWords Go.Proofs.Ytmilejcbkpkplaa.MathGeom

theorem rvalid_ev {l : List S23} (hlen : l.length ≤ 16) {R : List S23 × Int} (hy : (∀ p ∈ l, pOk p) → Ev (fun k => if (l.length : Int) = 0 then (some (([] : List (S23)), (0 : Int))) else (if 0 < (l.length : Int) then (dancestudioref03_Hull.l1 k l 0 ((rd_T23 l 0).f0) ((rd_T23 l 0).f1)) else (none))) R)
    (hn : ¬ (∀ p ∈ l, pOk p) → R = ([], 1)) (d : Nat) : ∀ i : Nat, i + d = l.length → (∀ p ∈ l.take i, pOk p) → Ev (fun k => dancestudioref03_Hull.l0 k l (i : Int)) R := by
  induction d with
  | zero =>
    intro i hi h
    rw [List.take_of_length_le (by omega)] at h
    exact ev_step (fun k => by simp only [dancestudioref03_Hull.l0] <;> exact rfl) (ev_neg (by omega) (hy h))
  | succ d ih =>
    intro i hi h
    have hlt : i < l.length := by omega
    refine ev_step (fun k => by simp only [dancestudioref03_Hull.l0] <;> exact rfl) (ev_pos (by omega) (ev_pos (by omega) ?_))
    rw [rdT_nat l hlt, rValid]
    simp only [Option.bind_some]
    by_cases hp : pOk l[i]
    · refine ev_pos (decide_eq_true hp) ?_
      rw [w64 (by omega) (by omega)]
      refine ih (i + 1) (by omega) (fun p hm => ?_)
      rw [List.take_succ_eq_append_getElem hlt] at hm
      rcases List.mem_append.1 hm with hm | hm
      · exact h p hm
      · rw [List.mem_singleton.1 hm]; exact hp
    · rw [hn fun x => hp (x _ (List.getElem_mem hlt))]
      exact ev_neg (by simpa [pOk] using hp) (ev_now _)
/-- What both Hulls answer. -/
inductive HullR (l : List S23) : List S23 × Int → Prop
  | full (h : 16 < l.length) : HullR l ([], 3)
  | range (h : l.length ≤ 16) (h' : ¬ ∀ p ∈ l, pOk p) : HullR l ([], 1)
  | none (h : l = []) (e : Ev (fun k => geom_hull.f k l) []) : HullR l ([], 0)
  | ok {H : List S23} (h : l.length ≤ 16) (h' : ∀ p ∈ l, pOk p) (hh : Hulled l H) (e : Ev (fun k => geom_hull.f k l) H) : HullR l (H, 0)
theorem check_full {l : List S23} (h : 16 < l.length) : Ev (fun k => geom_check.f k l) 3 := by
  simp only [geom_check.f]; exact ev_pos (by omega) (ev_now _)
theorem check_ok {l : List S23} (h : l.length ≤ 16) (hv : ∀ p ∈ l, pOk p) : Ev (fun k => geom_check.f k l) 0 := by
  have v := valid_ev (ps := l) (rs := []) (by omega) (by simp)
  simp only [geom_check.f]; exact ev_neg (by omega) (Ev.bind v (ev_pos (by simpa using hv) (ev_now _)))
theorem check_bad {l : List S23} (h : l.length ≤ 16) (hv : ¬ ∀ p ∈ l, pOk p) : Ev (fun k => geom_check.f k l) 1 := by
  have v := valid_ev (ps := l) (rs := []) (by omega) (by simp)
  simp only [geom_check.f]; exact ev_neg (by omega) (Ev.bind v (ev_neg (fun x => hv (of_decide_eq_true x).1) (ev_now _)))
theorem hulls_ev (l : List S23) (hl : l.length ≤ 1000) : ∃ R, HullR l R ∧ Ev (fun k => geom_Hull.f k l) R ∧ Ev (fun k => dancestudioref03_Hull.f k l) R := by
  by_cases h : 16 < l.length
  · refine ⟨([], 3), .full h, ?_, ?_⟩
    · simp only [geom_Hull.f]
      exact Ev.bind (check_full h) (ev_neg (by decide) (ev_now _))
    · simp only [dancestudioref03_Hull.f]
      exact ev_pos (by omega) (ev_now _)
  · have hlen : l.length ≤ 16 := by omega
    by_cases hv : ∀ p ∈ l, pOk p
    · obtain ⟨H, hH, e1, e2⟩ := hull_ev hv hlen
      refine ⟨(H, 0), ?_, ?_, ?_⟩
      · rcases hH with ⟨rfl, rfl⟩ | hH
        · exact .none rfl e1
        · exact .ok hlen hv hH e1
      · simp only [geom_Hull.f]
        exact Ev.bind (check_ok hlen hv) (ev_pos rfl (Ev.bind e1 (ev_now _)))
      · simp only [dancestudioref03_Hull.f]
        refine ev_neg (by omega) ?_
        exact rvalid_ev hlen (fun _ => e2) (fun x => absurd hv x) l.length 0 (by omega) (by simp)
    · refine ⟨([], 1), .range hlen hv, ?_, ?_⟩
      · simp only [geom_Hull.f]
        exact Ev.bind (check_bad hlen hv) (ev_neg (by decide) (ev_now _))
      · simp only [dancestudioref03_Hull.f]
        refine ev_neg (by omega) ?_
        exact rvalid_ev hlen (fun x => absurd x hv) (fun _ => rfl) l.length 0 (by omega) (by simp)
theorem same_l {a : List S23} (ha : a.length ≤ 1000) (d : Nat) : ∀ i : Nat, i + d = a.length → Ev (fun k => dancestudioref03_Same.l0 k a a (i : Int)) true := by
  induction d with
  | zero => intro i hi; exact ev_step (fun k => by simp only [dancestudioref03_Same.l0] <;> exact rfl) (ev_neg (by omega) (ev_now _))
  | succ d ih =>
    intro i hi
    refine ev_step (fun k => by simp only [dancestudioref03_Same.l0] <;> exact rfl) (ev_pos (by omega) (ev_pos (by omega) (ev_pos (by omega) (ev_neg (by rw [bne_pt]; simp) ?_))))
    rw [w64 (by omega) (by omega)]
    exact ih (i + 1) (by omega)
theorem same_ev {a : List S23} (ha : a.length ≤ 1000) : Ev (fun k => dancestudioref03_Same.f k a a) true := by
  simp only [dancestudioref03_Same.f]
  exact ev_pos trivial (same_l ha a.length 0 (by omega))
theorem HullR.len {l : List S23} {R : List S23 × Int} (h : HullR l R) : R.1.length ≤ 16 := by
  cases h with
  | full => simp
  | range => simp
  | none => simp
  | ok hl _ hh _ => exact Nat.le_trans hh.toWalk.len hl
end Go.Proofs.Ytmilejcbkpkplaa.PAll
