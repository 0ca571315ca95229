/- FormationLeast: plain law. -/
import Derived.Test.YtaggccbndmmbhaaDoorBase
import Derived.Test.YtaggccbndmmbhaaDoorPAllf8
import Derived.Test.YtaggccbndmmbhaaDoorFrmSwap
import Derived.Test.YtaggccbndmmbhaaDoorChk
namespace Go.Proofs.YtaggccbndmmbhaaDoor.PAll
set_option linter.unusedVariables false
open Go Go.RowKit Go.Proofs.YtaggccbndmmbhaaDoorW.PrintWords Go.Proofs.YtaggccbndmmbhaaDoorW.PrintLast Go.Proofs.YtaggccbndmmbhaaDoorW.PrintMore Go.Proofs.YtaggccbndmmbhaaDoor.MathNum Go.Proofs.YtaggccbndmmbhaaDoor.EvWords
section
variable {S : ByteArray} {p q : List S52} {m : Int} {ord s : List Int} (hp : p.length ≤ 16) (hq : q.length = p.length) (rp : ∀ a ∈ p, inR a) (rq : ∀ a ∈ q, inR a) (T : Tab (tbl q p) p.length) (B : Best (tbl q p) p.length s m) (ho : ∀ z ∈ ord, (Lit.int .u8 z).wf = true)
include hp hq rp rq T B
theorem least_l2 {x : List Int} (hx : Asg x p.length) (d : Nat) : ∀ i : Nat, i + d = p.length → Ev (fun k => dancestudiolaw45_FormationLeast.l2 k q m (csum (tbl q p) x i) x (i : Int) S p) true := by
  have hl := hx.1
  induction d with
  | zero =>
    intro i hi
    obtain rfl : i = p.length := by omega
    exact ev_step (fun k => by simp only [dancestudiolaw45_FormationLeast.l2] <;> exact rfl) (ev_neg (by omega) (ev_pos (B.min x hx) awake_out))
  | succ d ih =>
    intro i hi
    obtain ⟨r1, r2, _⟩ := hx.2 (i : Int) (by omega) (by omega)
    have c1 := csum_bound T (i + 1) (by omega) (hx.2.mono (by omega))
    have e := M_tbl (q := q) (p := p) (i := (i : Int)) (j := rd x (i : Int)) (by omega) (by omega) r1 r2
    refine ev_step (fun k => by simp only [dancestudiolaw45_FormationLeast.l2] <;> exact rfl) (ev_pos (by omega) (ev_pos (by omega) (ev_pos (by omega) (ev_pos r1 (ev_pos r2 ?_)))))
    refine Ev.bind (dist_ok (rq _ (rdT_mem (by omega) (by omega))) (rp _ (rdT_mem r1 r2))) (ev_pos rfl ?_)
    have e2 : csum (tbl q p) x (i + 1) = csum (tbl q p) x i + d2 (rd_T52 q (i : Int)) (rd_T52 p (rd x (i : Int))) := by rw [← e]; rfl
    rw [w64 (n := (i : Int) + 1) (by omega) (by omega), ← e2, w64 (by omega) (by omega)]
    exact ih (i + 1) (by omega)
include ho
theorem least_l1 (h1 : 1 ≤ p.length) (d : Nat) : ∀ (i : Nat) (x : List Int), i + d = 40 → Asg x p.length → Ev (fun k => dancestudiolaw45_FormationLeast.l1 k q ord m x (i : Int) S p) true := by
  have fin : ∀ x, Asg x p.length → Ev (fun k => dancestudiolaw45_FormationLeast.j5 k q m x S p) true := fun x hx =>
    ev_step (fun k => by simp only [dancestudiolaw45_FormationLeast.j5] <;> exact rfl) (least_l2 hp hq rp rq T B hx p.length 0 (by omega))
  induction d with
  | zero =>
    intro i x hi hx
    refine ev_step (fun k => by simp only [dancestudiolaw45_FormationLeast.l1] <;> exact rfl) ?_
    by_cases c : (i : Int) < ord.length
    · exact ev_pos c (ev_neg (by omega) (fin x hx))
    · exact ev_neg c (fin x hx)
  | succ d ih =>
    intro i x hi hx
    have hl := hx.1
    refine ev_step (fun k => by simp only [dancestudiolaw45_FormationLeast.l1] <;> exact rfl) ?_
    by_cases c : (i : Int) < ord.length
    · have hb := rd_byte ho (i : Int)
      have t1 := tmod_range (z := (i : Int)) (n := (x.length : Int)) (by omega) (by omega)
      have t2 := tmod_range (z := wrap64 (rd ord (i : Int))) (n := (x.length : Int)) (by rw [w64 (by omega) (by omega)]; omega) (by omega)
      refine ev_pos c (ev_pos (by omega) (ev_neg (by omega) (ev_pos (by omega) (ev_pos t2.1 (ev_pos t2.2 (ev_pos t1.1 (ev_pos t1.2 ?_)))))))
      rw [w64 (n := (i : Int) + 1) (by omega) (by omega)]
      refine ih (i + 1) _ (by omega) ?_
      exact asg_sw hx (by rw [List.length_set, List.length_set]; exact hl) (a := Int.tmod (i : Int) x.length) (b := Int.tmod (wrap64 (rd ord (i : Int))) x.length) (by omega) (by omega) (fun j j0 j1 => rd_swap t1 t2 j0)
    · exact ev_neg c (fin x hx)
theorem least_l0 (h1 : 1 ≤ p.length) (d : Nat) : ∀ (i : Nat) (X : List Bool), i + d = p.length → X.length = p.length → (∀ j, 0 ≤ j → rdOf false X j = true → ∃ a : Nat, a < i ∧ rd s (a : Int) = j) →
    Ev (fun k => dancestudiolaw45_FormationLeast.l0 k q ord s m X (csum (tbl q p) s i) (i : Int) S p) true := by
  have hl := B.asg.1
  induction d with
  | zero =>
    intro i X hi hX h
    obtain rfl : i = p.length := by omega
    refine ev_step (fun k => by simp only [dancestudiolaw45_FormationLeast.l0] <;> exact rfl) (ev_neg (by omega) (ev_pos B.cost ?_))
    simp only [Option.bind_some, List.nil_append, List.length_nil]
    exact ev_pos (by omega) (least_l1 hp hq rp rq T B ho h1 40 0 s (by omega) B.asg)
  | succ d ih =>
    intro i X hi hX h
    obtain ⟨r1, r2, r3⟩ := B.asg.2 (i : Int) (by omega) (by omega)
    have c1 := csum_bound T (i + 1) (by omega) (B.asg.2.mono (by omega))
    have e := M_tbl (q := q) (p := p) (i := (i : Int)) (j := rd s (i : Int)) (by omega) (by omega) r1 r2
    have e2 : csum (tbl q p) s (i + 1) = csum (tbl q p) s i + d2 (rd_T52 q (i : Int)) (rd_T52 p (rd s (i : Int))) := by rw [← e]; rfl
    have free : rdOf false X (rd s (i : Int)) = false := by
      cases hb : rdOf false X (rd s (i : Int)) with
      | false => rfl
      | true =>
        obtain ⟨a, ha, ea⟩ := h _ r1 hb
        exact absurd ea (r3 (a : Int) (by omega) (by omega))
    refine ev_step (fun k => by simp only [dancestudiolaw45_FormationLeast.l0] <;> exact rfl) (ev_pos (by omega) (ev_pos (by omega) (ev_neg (by omega) (ev_neg (by omega) (ev_pos r1 (ev_pos (by omega) ?_))))))
    rw [free]
    refine ev_step (fun k => by simp only [dancestudiolaw45_FormationLeast.j3] <;> exact rfl) (ev_neg (by simp) (ev_pos (by omega) (ev_pos (by omega) (ev_pos r1 (ev_pos (by omega) (ev_pos (by omega) (ev_pos r2 ?_)))))))
    refine Ev.bind (dist_ok (rq _ (rdT_mem (by omega) (by omega))) (rp _ (rdT_mem r1 r2))) (ev_pos rfl ?_)
    rw [w64 (n := (i : Int) + 1) (by omega) (by omega), ← e2, w64 (by omega) (by omega)]
    refine ih (i + 1) _ (by omega) (by rw [List.length_set]; exact hX) fun j j0 hj => ?_
    rw [rdB_set r1 (by omega) j0] at hj
    by_cases ej : j = rd s (i : Int)
    · exact ⟨i, by omega, ej.symm⟩
    · rw [if_neg ej] at hj
      obtain ⟨a, ha, ea⟩ := h j j0 hj
      exact ⟨a, by omega, ea⟩
end
theorem pure_FormationLeast (s : ByteArray) (p q : List S52) (hn : q.length ≤ maxLen) (_ : ∀ a ∈ q, True) (ord : List Int) (_ : ord.length ≤ maxLen) (ho : ∀ z ∈ ord, (Lit.int .u8 z).wf = true) : ∃ k, dancestudiolaw45_FormationLeast.f k s p q ord = some true := by
  refine ev_some (g := fun k => dancestudiolaw45_FormationLeast.f k s p q ord) ?_
  obtain ⟨l, rfl⟩ := ex_mk s
  have out : Ev (fun k => dancestudiolaw45_FormationLeast.j0 k q ord true (mkB l) p) true :=
    ev_step (fun k => by simp only [dancestudiolaw45_FormationLeast.j0] <;> exact rfl) (ev_pos (c := true = true) rfl awake_out)
  unfold dancestudiolaw45_FormationLeast.f
  by_cases h1 : (p.length : Int) > 16
  · exact ev_pos h1 out
  refine ev_neg h1 ?_
  by_cases h2 : (q.length : Int) > 16
  · exact ev_pos h2 out
  refine ev_neg h2 ?_
  by_cases h3 : ((mkB l).size : Int) > 60
  · rw [decide_eq_true h3]; exact out
  rw [decide_eq_false h3]
  refine ev_step (fun k => by simp only [dancestudiolaw45_FormationLeast.j0] <;> exact rfl) (ev_neg (by simp) ?_)
  obtain ⟨R, hR, e⟩ := fit_ev l p q hn
  refine Ev.bind e ?_
  rcases hR with ⟨a, e⟩ | ⟨a, b, e⟩ | ⟨a, b, c, e⟩ | ⟨a, b, c, e, B⟩
  · subst e; exact ev_neg a (ev_pos rfl (ev_pos rfl awake_out))
  · subst e; exact ev_neg (by simp) (ev_pos rfl (ev_pos rfl awake_out))
  · subst e; exact ev_neg (by simp) (ev_pos rfl (ev_pos rfl awake_out))
  · obtain ⟨k1, k2, k3, _⟩ := chkF_ok a
    have T := tab_of (tbl_chk b k2 (all_mem.1 k3) c)
    rw [tbl_len, b] at T
    have hl := B.asg.1
    refine ev_pos e (ev_pos (by omega) ?_)
    have e1 : ((R.1.length : Int) != (p.length : Int)) = false := by rw [hl]; simp
    rw [e1]
    refine ev_step (fun k => by simp only [dancestudiolaw45_FormationLeast.j1] <;> exact rfl) (ev_neg (by simp) (ev_pos (by omega) (ev_pos (by omega) ?_)))
    exact least_l0 k2 b (all_mem.1 k3) c T B ho k1 p.length 0 _ (by omega) (by rw [List.length_replicate]; omega) (fun j _ hj => by rw [rdB_rep] at hj; cases hj)
end Go.Proofs.YtaggccbndmmbhaaDoor.PAll
