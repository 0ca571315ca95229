/- FormationTwins: plain law. -/
import Derived.Test.YtaggccbndmmbhaaDoorBase
import Derived.Test.YtaggccbndmmbhaaDoorPAllf9
import Derived.Test.YtaggccbndmmbhaaDoorPAllf15
import Derived.Test.YtaggccbndmmbhaaDoorFit
import Derived.Test.YtaggccbndmmbhaaDoorFrmTurn
import Derived.Test.YtaggccbndmmbhaaDoorChk
namespace Go.Proofs.YtaggccbndmmbhaaDoor.PAll
set_option linter.unusedVariables false
open Go Go.RowKit Go.Proofs.YtaggccbndmmbhaaDoorW.PrintWords Go.Proofs.YtaggccbndmmbhaaDoorW.PrintLast Go.Proofs.YtaggccbndmmbhaaDoorW.PrintMore Go.Proofs.YtaggccbndmmbhaaDoor.MathNum Go.Proofs.YtaggccbndmmbhaaDoor.EvWords
theorem mul_self_neg (a : Int) : -a * -a = a * a := Int.neg_mul_neg a a
theorem d2_mir (a b : S52) : d2 (mirP a) (mirP b) = d2 a b := by
  unfold d2 mirP
  simp only
  rw [show -a.f0 - -b.f0 = -(a.f0 - b.f0) by omega, mul_self_neg]
theorem rotP_1 (a : S52) : rotP 1 a = ⟨a.f1, -a.f0⟩ := by unfold rotP; rw [if_neg (by decide), if_pos (by decide)]
theorem d2_rot (a b : S52) : d2 (rotP 1 a) (rotP 1 b) = d2 a b := by
  rw [rotP_1, rotP_1]
  unfold d2
  simp only
  rw [show -a.f0 - -b.f0 = -(a.f0 - b.f0) by omega, mul_self_neg]
  omega
theorem tbl_map {g : S52 → S52} (hg : ∀ a b, d2 (g a) (g b) = d2 a b) (q p : List S52) : tbl (q.map g) (p.map g) = tbl q p := by
  unfold tbl
  rw [List.map_map]
  refine List.map_congr_left fun a _ => ?_
  show (p.map g).map (d2 (g a)) = _
  rw [List.map_map]
  exact List.map_congr_left fun b _ => hg a b
theorem fit_map {g : S52 → S52} (hg : ∀ a b, d2 (g a) (g b) = d2 a b) (hr : ∀ a, inR a → inR (g a)) {l : Bs} {p q : List S52} (hc : chkF l (p.map g) = 0) {R : List Int × Int × Int} (hR : FitR l p q R) (h0 : R.2.2 = 0)
    (ok : chkF l p = 0 ∧ q.length = p.length ∧ (∀ a ∈ q, inR a) ∧ Best (tbl q p) p.length R.1 R.2.1) (hn : q.length ≤ maxLen) : Ev (fun k => formation_Fit.f k (mkB l) (p.map g) (q.map g)) R := by
  obtain ⟨a, b, c, B⟩ := ok
  obtain ⟨R', hR', e⟩ := fit_ev l (p.map g) (q.map g) (by rw [List.length_map]; exact hn)
  have : FitR l (p.map g) (q.map g) R := by
    refine Or.inr (Or.inr (Or.inr ⟨hc, by rw [List.length_map, List.length_map]; exact b, fun x hx => ?_, h0, ?_⟩))
    · obtain ⟨y, hy, rfl⟩ := List.mem_map.1 hx
      exact hr y (c y hy)
    · rw [tbl_map hg, List.length_map]; exact B
  rw [this.unique hR']
  exact e
theorem twins_l0 {l : Bs} {p q : List S52} {R : List Int × Int × Int} (hp : p.length ≤ 16) (hq : q.length = p.length) (rq : ∀ a ∈ q, inR a) (hl : R.1.length ≤ 16) (h0 : R.2.2 = 0) {S S' : ByteArray} {p' p'' : List S52}
    (e1 : Ev (fun k => formation_Fit.f k S p' (q.map mirP)) R) (e2 : Ev (fun k => formation_Fit.f k S' p'' (q.map (rotP 1))) R) (d : Nat) : ∀ i : Nat, i + d = q.length →
      Ev (fun k => dancestudiolaw45_FormationTwins.l0 k q R.1 R.2.1 ((q.take i).map mirP) ((q.take i).map (rotP 1)) (i : Int) S p' S' p'') true := by
  induction d with
  | zero =>
    intro i hi
    rw [List.take_of_length_le (by omega)]
    refine ev_step (fun k => by simp only [dancestudiolaw45_FormationTwins.l0] <;> exact rfl) (ev_neg (by omega) ?_)
    exact Ev.bind e1 (Ev.bind e2 (ev_pos h0 (ev_pos h0 (Ev.bind (ints_ev _ hl) (ev_pos (c := true = true) rfl (Ev.bind (ints_ev _ hl) (ev_pos (c := true = true) rfl (ev_pos rfl (ev_pos rfl awake_out)))))))))
  | succ d ih =>
    intro i hi
    have hlt : i < q.length := by omega
    have ra := rq q[i] (List.getElem_mem hlt)
    unfold inR at ra
    refine ev_step (fun k => by simp only [dancestudiolaw45_FormationTwins.l0] <;> exact rfl) (ev_pos (by omega) (ev_pos (by omega) (ev_pos (by rw [List.length_map, List.length_take]; omega) (ev_pos (by rw [List.length_map, List.length_take]; omega) ?_))))
    rw [rdT q hlt, w64 (n := -q[i].f0) (by omega) (by omega), w64 (n := (i : Int) + 1) (by omega) (by omega)]
    rw [show (⟨-q[i].f0, q[i].f1⟩ : S52) = mirP q[i] from rfl, ← rotP_1, take_map q hlt, take_map q hlt]
    exact ih (i + 1) (by omega)
theorem pure_FormationTwins (s : ByteArray) (p q : List S52) (hn : q.length ≤ maxLen) (_ : ∀ a ∈ q, True) : ∃ k, dancestudiolaw45_FormationTwins.f k s p q = some true := by
  refine ev_some (g := fun k => dancestudiolaw45_FormationTwins.f k s p q) ?_
  obtain ⟨l, rfl⟩ := ex_mk s
  have out : Ev (fun k => dancestudiolaw45_FormationTwins.j0 k q true (mkB l) p) true :=
    ev_step (fun k => by simp only [dancestudiolaw45_FormationTwins.j0] <;> exact rfl) (ev_pos (c := true = true) rfl awake_out)
  unfold dancestudiolaw45_FormationTwins.f
  by_cases h1 : (p.length : Int) > 16
  · exact ev_pos h1 out
  refine ev_neg h1 ?_
  by_cases h2 : (q.length : Int) > 16
  · exact ev_pos h2 out
  refine ev_neg h2 ?_
  by_cases h3 : ((mkB l).size : Int) > 60
  · rw [decide_eq_true h3]; exact out
  rw [decide_eq_false h3]
  refine ev_step (fun k => by simp only [dancestudiolaw45_FormationTwins.j0] <;> exact rfl) (ev_neg (by simp) ?_)
  obtain ⟨R, hR, e⟩ := fit_ev l p q hn
  refine Ev.bind e ?_
  by_cases h0 : R.2.2 = 0
  · refine ev_pos h0 ?_
    have ok : chkF l p = 0 ∧ q.length = p.length ∧ (∀ a ∈ q, inR a) ∧ Best (tbl q p) p.length R.1 R.2.1 := by
      rcases hR with ⟨a, e⟩ | ⟨a, b, e⟩ | ⟨a, b, c, e⟩ | ⟨a, b, c, e, B⟩
      · subst e; exact absurd h0 a
      · subst e; simp at h0
      · subst e; simp at h0
      · exact ⟨a, b, c, B⟩
    have m := mirror_ev l p
    have r := rotate_ev l p 1
    have em : chgF mirP l p = (mkB l, p.map mirP, 0) := by unfold chgF; rw [if_pos ok.1]
    have er : chgF (rotP 1) l p = (mkB l, p.map (rotP 1), 0) := by unfold chgF; rw [if_pos ok.1]
    rw [em] at m
    rw [er] at r
    refine Ev.bind m (Ev.bind r (ev_pos rfl ?_))
    refine ev_step (fun k => by simp only [dancestudiolaw45_FormationTwins.j1] <;> exact rfl) (ev_neg (by simp) ?_)
    have z := twins_l0 (l := l) (p := p) (by omega) ok.2.1 ok.2.2.1 hR.len h0 (fit_map d2_mir mirP_inR (chk_mir ok.1) hR h0 ok hn) (fit_map d2_rot (rotP_inR 1) (chk_rot 1 ok.1) hR h0 ok hn) q.length 0 (by omega)
    exact z
  · refine ev_neg h0 ?_
    rcases hR with ⟨a, e⟩ | ⟨a, b, e⟩ | ⟨a, b, c, e⟩ | ⟨a, b, c, e, B⟩
    · subst e; exact ev_pos rfl (ev_pos rfl awake_out)
    · subst e; exact ev_pos rfl (ev_pos rfl awake_out)
    · subst e; exact ev_pos rfl (ev_pos rfl awake_out)
    · exact absurd e h0
end Go.Proofs.YtaggccbndmmbhaaDoor.PAll
