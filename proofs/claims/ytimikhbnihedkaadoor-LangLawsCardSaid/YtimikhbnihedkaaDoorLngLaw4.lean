/- The laws of mirror images, retrogrades, rotations and stretches (plain). -/
import Derived.Test.YtimikhbnihedkaaDoorLngUp
import Derived.Test.YtimikhbnihedkaaDoorPAllf9
namespace Go.Proofs.YtimikhbnihedkaaDoor.PAll
set_option linter.unusedVariables false
set_option linter.unusedSectionVars false
set_option linter.unusedSimpArgs false
open Go Go.RowKit Go.Proofs.YtimikhbnihedkaaDoorW.PrintWords Go.Proofs.YtimikhbnihedkaaDoorW.PrintLast Go.Proofs.YtimikhbnihedkaaDoorW.PrintMore Go.Proofs.YtimikhbnihedkaaDoor.MathNum Go.Proofs.YtimikhbnihedkaaDoor.EvWords

theorem alike_ev {a b : List S43} {va vb : List S63 × Bool} (ha : Val a va) (hb : Val b vb) (la : a.length ≤ 64) (lb : b.length ≤ 64) (h : EqL va vb) : Ev (fun k => dancestudiolaw35_alike.f k a b) true := by
  unfold dancestudiolaw35_alike.f
  have e2 := (hb.norm lb).1
  rw [← nrmV_eq h] at e2
  refine Ev.bind (ha.norm la).1 (Ev.bind e2 (Ev.bind (same_ev _ (Nat.le_trans (nrmV_len va) (by decide))) (ev_pos (by first | trivial | rfl) (ev_eq (ev_now _) ?_))))
  simp
theorem above_ev (op n : Int) (l : List S43) (hl : l.length ≤ 1000) : dancestudiolaw35_above.f op n l = some (un op n :: l) := by
  unfold dancestudiolaw35_above.f
  simp only [Option.bind_some]
  rw [if_pos (by simp; omega)]; rfl
theorem pure_LangLaws (l : List S43) (_ : l.length ≤ maxLen) (_ : ∀ a ∈ l, True) (z : Int) (hz : (Lit.int .u8 z).wf = true) : ∃ k, dancestudiolaw35_LangLaws.f k l z = some true := by
  apply Ev.rounds
  unfold dancestudiolaw35_LangLaws.f
  have out : ∀ b : Bool, b = true → Ev (fun k => dancestudiolaw35_LangLaws.j0 k l z b) true := fun b hb =>
    ev_step (fun k => by simp only [dancestudiolaw35_LangLaws.j0] <;> exact rfl) (ev_pos hb awake_out)
  obtain ⟨b, _, hb⟩ := short_ev l
  refine Ev.bind hb (ev_ite (fun h => ?_) (fun h => out true rfl))
  refine ev_ite (fun h2 => out true rfl) (fun h2 => ?_)
  refine Ev.bind (pchk_ev l) ?_
  by_cases hc : chkE l = 0
  · obtain ⟨s, k, hl, hk, h3, hs, hkn, hlen⟩ := tree_of hc
    have V : Val l (nodeL s k.lvs) := ⟨s, k, hl, hk, h3, hs, hkn, rfl⟩
    generalize nodeL s k.lvs = v at V
    have l62 : l.length ≤ 62 := by omega
    have g := (V.norm (by omega)).2
    have zr : 0 ≤ z ∧ z ≤ 255 := by
      have z0 : IntKind.u8.min ≤ z ∧ z ≤ IntKind.u8.max := by simpa [Lit.wf] using hz
      have z1 : IntKind.u8.min = 0 := by decide
      have z2 : IntKind.u8.max = 255 := by decide
      omega
    have q0 : Int.tmod (wrap64 z) 4 = z % 4 := by rw [w64 (by omega) (by omega), Int.tmod_eq_emod_of_nonneg (by omega)]
    have q1 : Int.tmod (wrap64 (4 - z % 4)) 4 = (4 - z % 4) % 4 := by rw [w64 (by omega) (by omega), Int.tmod_eq_emod_of_nonneg (by omega)]
    generalize hq : z % 4 = q at q0 q1
    have r0 : 0 ≤ q ∧ q ≤ 3 := by omega
    have o1 := rot_ok r0.1 r0.2
    have o2 := rot_ok (n := (4 - q) % 4) (by omega) (by omega)
    have l1 : ∀ (a : S43) (m : List S43), m.length ≤ 63 → (a :: m).length ≤ 64 := fun a m h => by simp only [List.length_cons]; omega
    have l2 : ∀ (a : S43), (a :: l).length ≤ 63 := fun a => by simp only [List.length_cons]; omega
    have ab1 : ∀ op n, dancestudiolaw35_above.f op n l = some (un op n :: l) := fun op n => above_ev op n l (by omega)
    have ab2 : ∀ op n a, dancestudiolaw35_above.f op n (a :: l) = some (un op n :: a :: l) := fun op n a => above_ev op n (a :: l) (by have := l2 a; omega)
    rw [hc]
    refine ev_step (fun k => by simp only [dancestudiolaw35_LangLaws.j0] <;> exact rfl) (ev_neg (by simp) ?_)
    rw [q0]
    simp only [ab1, ab2, Option.bind_some]
    refine Ev.bind (alike_ev ((V.up ops_ok.1).up ops_ok.1) V (l1 _ _ (l2 _)) (by omega) (law_mm g)) (ev_pos (by first | trivial | rfl) ?_)
    refine Ev.bind (alike_ev ((V.up ops_ok.2.1).up ops_ok.2.1) V (l1 _ _ (l2 _)) (by omega) (law_rr g)) ?_
    refine ev_step (fun k => by simp only [dancestudiolaw35_LangLaws.j1] <;> exact rfl) (ev_neg (by simp) ?_)
    rw [q1]
    simp only [ab1, ab2, Option.bind_some]
    refine Ev.bind (alike_ev ((V.up o2).up o1) V (l1 _ _ (l2 _)) (by omega) (law_rot g r0.1 r0.2)) (ev_pos (by first | trivial | rfl) ?_)
    refine Ev.bind (alike_ev (V.up ops_ok.2.2.1) V (l1 _ _ (by omega)) (by omega) (law_st g)) (ev_pos (by first | trivial | rfl) ?_)
    refine Ev.bind (alike_ev (V.up ops_ok.2.2.2) V (l1 _ _ (by omega)) (by omega) (law_seq g)) ?_
    refine ev_step (fun k => by simp only [dancestudiolaw35_LangLaws.j2] <;> exact rfl) (ev_neg (by simp) ?_)
    rw [q1]
    simp only [ab1, ab2, Option.bind_some]
    refine Ev.bind (alike_ev ((V.up ops_ok.2.1).up ops_ok.1) ((V.up ops_ok.1).up ops_ok.2.1) (l1 _ _ (l2 _)) (l1 _ _ (l2 _)) (law_mr g)) (ev_pos (by first | trivial | rfl) ?_)
    refine Ev.bind (alike_ev ((V.up o1).up ops_ok.1) ((V.up ops_ok.1).up o2) (l1 _ _ (l2 _)) (l1 _ _ (l2 _)) (law_mq g r0.1 r0.2)) (ev_pos (by first | trivial | rfl) ?_)
    exact awake_out
  · exact out _ (by simpa using hc)
end Go.Proofs.YtimikhbnihedkaaDoor.PAll
