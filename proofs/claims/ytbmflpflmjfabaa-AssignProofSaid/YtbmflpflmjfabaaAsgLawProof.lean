/- AssignProof: plain law. -/
import Derived.Test.YtbmflpflmjfabaaAsgSquare
import Derived.Test.YtbmflpflmjfabaaRowWords
namespace Go.Proofs.Ytbmflpflmjfabaa.PAll
set_option linter.unusedVariables false
open Go Go.RowKit Go.Proofs.YtbmflpflmjfabaaW.PrintWords Go.Proofs.YtbmflpflmjfabaaW.PrintLast Go.Proofs.YtbmflpflmjfabaaW.PrintMore Go.Proofs.Ytbmflpflmjfabaa.MathNum Go.Proofs.Ytbmflpflmjfabaa.EvWords Go.Proofs.Ytbmflpflmjfabaa.RowWords
theorem rd_drop1 {l : List Int} {i : Int} (h : 0 ≤ i) : rd (l.drop 1) i = rd l (i + 1) := by
  unfold rd
  rw [List.getD_eq_getElem?_getD, List.getD_eq_getElem?_getD, List.getElem?_drop, show 1 + i.toNat = (i + 1).toNat by omega]
attribute [local irreducible] rd M rdOf

section
variable {c : List (List Int)} {n : Nat} {l u v : List Int} {m : Int}
/-- What the law's test of the prices takes. -/
structure Pr (c : List (List Int)) (n : Nat) (l u v : List Int) (m : Int) : Prop where
  lu : u.length = n
  lv : v.length = n
  asg : Asg l n
  ub : ∀ i, 0 ≤ i → i < (n : Int) → 0 ≤ rd u i ∧ rd u i ≤ 1099511627776
  vb : ∀ i, 0 ≤ i → i < (n : Int) → -1099511627776 ≤ rd v i ∧ rd v i ≤ 0
  feas : ∀ i j, 0 ≤ i → i < (n : Int) → 0 ≤ j → j < (n : Int) → rd u i + rd v j ≤ M c (i + 1) (j + 1)
  tight : ∀ i, 0 ≤ i → i < (n : Int) → rd u i + rd v (rd l i) = M c (i + 1) (rd l i + 1)
  cost : csum c l n = m
  sum : sumTo (fun i => rd u (i : Int) + rd v (i : Int)) n = m

theorem pr_l2 (T : Tab c n) (P : Pr c n l u v m) (i : Nat) (hi : i < n) (s : Int) (h : Ev (fun k => dancestudiolaw11_proves.l1 k c l m u v s (csum c l (i + 1)) ((i : Int) + 1)) true) (d : Nat) :
    ∀ j : Nat, j + d = n → Ev (fun k => dancestudiolaw11_proves.l2 k c l m u v s (csum c l i) (i : Int) (j : Int)) true := by
  have hl := T.len
  have hn := T.le
  have lu := P.lu
  have lv := P.lv
  have la := P.asg.1
  have row := T.row0 (i := (i : Int)) (by omega) (by omega)
  have ui := P.ub i (by omega) (by omega)
  induction d with
  | zero =>
    intro j hj
    have ha := P.asg.2 i (by omega) (by omega)
    have vi := P.vb _ ha.1 ha.2.1
    have t := P.tight i (by omega) (by omega)
    have b := csum_bound T (l := l) (i + 1) (by omega) (P.asg.2.mono (by omega))
    refine ev_step (fun k => by simp only [dancestudiolaw11_proves.l2] <;> exact rfl) (ev_neg (by omega) (ev_pos (by omega) (ev_pos (by omega) (ev_pos (by omega) (ev_pos ha.1 (ev_pos (by omega) (ev_pos (by omega) (ev_pos (by omega) ?_))))))))
    simp only [csum] at b h
    rw [cell_M, w64 (n := rd u i + _) (by omega) (by omega)]
    refine ev_pos t ?_
    rw [w64 (n := csum c l i + _) (by omega) (by omega), w64 (by omega) (by omega)]
    exact h
  | succ d ih =>
    intro j hj
    have vj := P.vb j (by omega) (by omega)
    have f := P.feas i j (by omega) (by omega) (by omega) (by omega)
    refine ev_step (fun k => by simp only [dancestudiolaw11_proves.l2] <;> exact rfl) (ev_pos (by omega) (ev_pos (by omega) (ev_pos (by omega) (ev_pos (by omega) (ev_pos (by omega) (ev_pos (by omega) (ev_pos (by omega) ?_)))))))
    rw [cell_M, w64 (n := rd u i + _) (by omega) (by omega), w64 (by omega) (by omega)]
    exact ev_neg (by omega) (ih (j + 1) (by omega))
theorem pr_l1 (T : Tab c n) (P : Pr c n l u v m) (d : Nat) : ∀ i : Nat, i + d = n → Ev (fun k => dancestudiolaw11_proves.l1 k c l m u v m (csum c l i) (i : Int)) true := by
  have hl := T.len
  have hn := T.le
  induction d with
  | zero =>
    intro i hi
    have e : i = n := by omega
    subst e
    refine ev_step (fun k => by simp only [dancestudiolaw11_proves.l1] <;> exact rfl) (ev_neg (by omega) (ev_pos P.cost ?_))
    rw [show (m == m) = true by simp]; exact ev_now _
  | succ d ih =>
    intro i hi
    refine ev_step (fun k => by simp only [dancestudiolaw11_proves.l1] <;> exact rfl) (ev_pos (by omega) ?_)
    exact pr_l2 T P i (by omega) m (ih (i + 1) (by omega)) n 0 (by omega)
theorem pr_l0 (T : Tab c n) (P : Pr c n l u v m) (d : Nat) : ∀ i : Nat, i + d = n → Ev (fun k => dancestudiolaw11_proves.l0 k c l m u v (sumTo (fun i => rd u (i : Int) + rd v (i : Int)) i) (i : Int)) true := by
  have hl := T.len
  have hn := T.le
  have lu := P.lu
  have lv := P.lv
  have bnd : ∀ i : Nat, i ≤ n → -(i * 1099511627776) ≤ sumTo (fun i => rd u (i : Int) + rd v (i : Int)) i ∧ sumTo (fun i => rd u (i : Int) + rd v (i : Int)) i ≤ i * 1099511627776 := by
    intro i
    induction i with
    | zero => intro _; simp [sumTo]
    | succ i ih =>
      intro hi
      have a := ih (by omega)
      have b := P.ub i (by omega) (by omega)
      have e := P.vb i (by omega) (by omega)
      simp only [sumTo]
      omega
  induction d with
  | zero =>
    intro i hi
    have e : i = n := by omega
    subst e
    rw [P.sum]
    refine ev_step (fun k => by simp only [dancestudiolaw11_proves.l0] <;> exact rfl) (ev_neg (by omega) ?_)
    exact pr_l1 T P i 0 (by omega)
  | succ d ih =>
    intro i hi
    have a := bnd i (by omega)
    have b := P.ub i (by omega) (by omega)
    have e := P.vb i (by omega) (by omega)
    refine ev_step (fun k => by simp only [dancestudiolaw11_proves.l0] <;> exact rfl) (ev_pos (by omega) (ev_pos (by omega) (ev_pos (by omega) (ev_neg (by omega) (ev_neg (by omega) (ev_pos (by omega) (ev_neg (by omega) (ev_neg (by omega) ?_))))))))
    rw [w64 (n := sumTo _ i + rd u i) (by omega) (by omega), w64 (n := sumTo _ i + rd u i + rd v i) (by omega) (by omega), w64 (by omega) (by omega)]
    have := ih (i + 1) (by omega)
    simp only [sumTo] at this
    rw [← Int.add_assoc] at this
    exact this
end

theorem proves_ev {c : List (List Int)} (h : chk c = 0) : Ev (fun k => dancestudiolaw11_proves.f k c) true := by
  have T := tab_of h
  have hn := T.le
  obtain ⟨l, m, B, es⟩ := Solve_ev h
  obtain ⟨R, er, D⟩ := solve_ev T
  have lu := D.lu
  have lv := D.lv
  have hm : m = prices R.1 R.2.1 c.length := B.isMin.unique (D.min rfl)
  have hsum : sumTo (fun p => rd R.1 ((p : Int) + 1) + rd R.2.1 (rd l p + 1)) c.length = m := by
    rw [sumTo_add, B.asg.sum (fun x => rd R.2.1 (x + 1)), hm]; rfl
  have tight := sumTo_tight (g := fun p => rd R.1 ((p : Int) + 1) + rd R.2.1 (rd l p + 1)) (h := fun p => M c ((p : Int) + 1) (rd l p + 1)) c.length (fun i hi => by
    have := B.asg.2 i (by omega) (by omega)
    exact D.feas _ _ (by omega) (by omega) (by omega) (by omega)) (by rw [hsum, ← csum_sum, B.cost]; exact Int.le_refl _)
  have P : Pr c c.length l (R.1.drop 1) (R.2.1.drop 1) m := by
    refine ⟨by rw [List.length_drop]; omega, by rw [List.length_drop]; omega, B.asg, fun i a b => ?_, fun i a b => ?_, fun i j a b e f => ?_, fun i a b => ?_, B.cost, ?_⟩
    · rw [rd_drop1 a]; exact ⟨D.ulo _ (by omega) (by omega), D.uhi _ (by omega) (by omega)⟩
    · rw [rd_drop1 a]
      refine ⟨?_, D.vneg _ (by omega) (by omega)⟩
      have f := D.full (j0 := i + 1) (by omega) (by omega)
      have r := D.rng (i + 1) (by omega) (by omega)
      have t := D.tight (i + 1) (by omega) (by omega) (by omega)
      have u := D.uhi _ f r.2
      have lo := T.lo _ (i + 1) f r.2 (by omega) (by omega)
      omega
    · rw [rd_drop1 a, rd_drop1 e]; exact D.feas _ _ (by omega) (by omega) (by omega) (by omega)
    · have := B.asg.2 i a b
      rw [rd_drop1 a, rd_drop1 this.1]
      obtain ⟨p, rfl⟩ := Int.eq_ofNat_of_zero_le a
      exact tight p (by omega)
    · rw [hm]
      unfold prices
      rw [← sumTo_add]
      exact sumTo_congr _ fun i hi => by rw [rd_drop1 (by omega), rd_drop1 (by omega)]
  have ep : Ev (fun k => assign_Prices.f k c) (R.1.drop 1, R.2.1.drop 1, 0) := by
    simp only [assign_Prices.f]
    refine Ev.bind (check_ev c) (ev_pos h (Ev.bind er (ev_pos (by omega) (ev_pos (by omega) (ev_now _)))))
  simp only [dancestudiolaw11_proves.f]
  have lup := P.lu
  have lvp := P.lv
  refine Ev.bind es (Ev.bind ep (ev_pos rfl (ev_pos rfl (ev_pos (by show ((R.1.drop 1).length : Int) = _; omega) (ev_pos (by show ((R.2.1.drop 1).length : Int) = _; omega) ?_)))))
  refine Ev.bind (asg_any (by omega) (by omega) true (fun _ => rfl) (fun h => absurd B.asg h)) ?_
  refine ev_step (fun k => by simp only [dancestudiolaw11_proves.j0] <;> exact rfl) (ev_neg (by decide) ?_)
  exact pr_l0 T P c.length 0 (by omega)

theorem pure_AssignProof (c : List (List Int)) (hc : c.length ≤ maxLen) (_ : ∀ r ∈ c, Held .i64 r) : ∃ k, dancestudiolaw11_AssignProof.f k c = some true := by
  refine ev_some ?_
  simp only [dancestudiolaw11_AssignProof.f]
  obtain ⟨b, eb, hb⟩ := square_ev c (Nat.le_trans hc (by decide))
  refine Ev.bind eb ?_
  have out : Ev (fun k => dancestudiolaw11_AssignProof.j0 k c true) true :=
    ev_step (fun k => by simp only [dancestudiolaw11_AssignProof.j0] <;> exact rfl) (ev_pos (show true = true from rfl) (Ev.bind awake_ev (ev_now _)))
  by_cases hbt : b = true
  · refine ev_pos hbt (Ev.bind (check_ev c) ?_)
    by_cases h : chk c = 0
    · rw [h]
      refine ev_step (fun k => by simp only [dancestudiolaw11_AssignProof.j0] <;> exact rfl) (ev_neg (by decide) ?_)
      exact Ev.bind (proves_ev h) (ev_pos rfl (Ev.bind awake_ev (ev_now _)))
    · have : (chk c != 0) = true := by simpa using h
      rw [this]; exact out
  · exact ev_neg hbt out
end Go.Proofs.Ytbmflpflmjfabaa.PAll
