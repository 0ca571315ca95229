/- The prices prove that the cost is least. -/
import Derived.Test.YtbmflpflmjfabaaPAllx0
import Derived.Test.YtbmflpflmjfabaaPAllf23
import Derived.Test.YtbmflpflmjfabaaPAllf25
import Derived.Test.YtbmflpflmjfabaaAsgAdd4
import Derived.Test.YtbmflpflmjfabaaAsgSum
namespace Go.Proofs.Ytbmflpflmjfabaa.PAll
set_option linter.unusedVariables false
open Go Go.RowKit Go.Proofs.YtbmflpflmjfabaaW.PrintWords Go.Proofs.YtbmflpflmjfabaaW.PrintLast Go.Proofs.YtbmflpflmjfabaaW.PrintMore Go.Proofs.Ytbmflpflmjfabaa.MathNum Go.Proofs.Ytbmflpflmjfabaa.EvWords
attribute [local irreducible] rd M rdOf

theorem solve_loop {c : List (List Int)} {n : Int} (T : Tab c n) (m : Nat) : ∀ (i : Int) (U V O : List Int), 1 ≤ i → i + m = n + 1 → Dual c n (i - 1) U V O →
    ∃ R, Ev (fun k => assign_solve.l0 k c n i U V O) R ∧ Dual c n n R.1 R.2.1 R.2.2 := by
  have hn := T.le
  induction m with
  | zero =>
    intro i U V O h1 hm D
    have e : i - 1 = n := by omega
    rw [e] at D
    exact ⟨(U, V, O), ev_step (fun k => by simp only [assign_solve.l0] <;> exact rfl) (ev_neg (by omega) (ev_now _)), D⟩
  | succ m ih =>
    intro i U V O h1 hm D
    obtain ⟨R, e, q⟩ := add_ev T h1 (by omega) D
    have q' : Dual c n (i + 1 - 1) R.1 R.2.1 R.2.2 := by rw [show i + 1 - 1 = i by omega]; exact q
    obtain ⟨R', e', q'⟩ := ih (i + 1) R.1 R.2.1 R.2.2 (by omega) (by omega) q'
    refine ⟨R', ev_step (fun k => by simp only [assign_solve.l0] <;> exact rfl) (ev_pos (by omega) (Ev.bind e ?_)), q'⟩
    rw [w64 (by omega) (by omega)]
    exact e'
theorem solve_ev {c : List (List Int)} {n : Int} (T : Tab c n) : ∃ R, Ev (fun k => assign_solve.f k c) R ∧ Dual c n n R.1 R.2.1 R.2.2 := by
  have hn := T.le
  have hl := T.len
  have hw : wrap64 ((c.length : Int) + 1) = n + 1 := by rw [w64 (by omega) (by omega)]; omega
  have z : ∀ j, 0 ≤ j → j ≤ n → rd (List.replicate (n + 1).toNat 0) j = 0 := fun j a b => rd_rep a (by omega)
  have D : Dual c n (1 - 1) (List.replicate (n + 1).toNat 0) (List.replicate (n + 1).toNat 0) (List.replicate (n + 1).toNat 0) := by
    have len : ((List.replicate (n + 1).toNat (0 : Int)).length : Int) = n + 1 := by rw [List.length_replicate]; omega
    refine ⟨len, len, len, fun r j a b d e => ?_, fun j a b h => ?_, fun j a b => ?_, fun j a b h => ?_, fun j a b => ?_, fun j j' a b a' b' h h' => ?_, fun r a b => ?_, fun r a b => ?_, fun r a b => ?_⟩
    · rw [z r (by omega) b, z j (by omega) e]; exact T.lo r j a b d e
    · exact absurd (z j (by omega) b) h
    · rw [z j (by omega) b]; omega
    · exact z j (by omega) b
    · rw [z j (by omega) b]; omega
    · exact absurd (z j (by omega) b) h'
    · omega
    · rw [z r (by omega) b]; omega
    · rw [z r (by omega) b]; omega
  obtain ⟨R, e, q⟩ := solve_loop T n.toNat 1 _ _ _ (Int.le_refl _) (by omega) D
  refine ⟨R, ?_, q⟩
  simp only [assign_solve.f, hw]
  rw [hl]
  exact ev_pos (by omega) (ev_pos (by omega) e)

section
variable {c : List (List Int)} {n : Int} {U V O : List Int}
theorem Dual.full (D : Dual c n n U V O) {j0 : Int} (h1 : 1 ≤ j0) (h2 : j0 ≤ n) : 1 ≤ rd O j0 := by
  have r := D.rng j0 h1 h2
  apply Classical.byContradiction
  intro hno
  have z : rd O j0 = 0 := by omega
  have ch : ∀ r : Nat, ∃ j : Int, r < n.toNat → 1 ≤ j ∧ j ≤ n ∧ rd O j = r + 1 := fun r => by
    by_cases h : r < n.toNat
    · obtain ⟨j, a, b, e⟩ := D.cov (r + 1) (by omega) (by omega)
      exact ⟨j, fun _ => ⟨a, b, e⟩⟩
    · exact ⟨0, fun x => absurd x h⟩
  obtain ⟨f, hf⟩ := Classical.axiomOfChoice ch
  have ne : ∀ r, r < n.toNat → f r ≠ j0 := fun r hr e => by have := (hf r hr).2.2; rw [e, z] at this; omega
  have := pigeon n.toNat (n.toNat - 1) (fun r => if f r < j0 then (f r).toNat - 1 else (f r).toNat - 2) (fun r hr => by
    have x := hf r hr
    have y := ne r hr
    show (if f r < j0 then (f r).toNat - 1 else (f r).toNat - 2) < _
    split <;> omega) (fun a b ha hb e => by
    have x := hf a ha
    have y := hf b hb
    have xa := ne a ha
    have yb := ne b hb
    have e' : (if f a < j0 then (f a).toNat - 1 else (f a).toNat - 2) = (if f b < j0 then (f b).toNat - 1 else (f b).toNat - 2) := e
    have : f a = f b := by split at e' <;> split at e' <;> omega
    rw [this] at x
    omega)
  omega

/-- The sum of all prices. -/
def prices (U V : List Int) (n : Nat) : Int := sumTo (fun i => rd U ((i : Int) + 1)) n + sumTo (fun j => rd V ((j : Int) + 1)) n

theorem Dual.lower {n : Nat} (D : Dual c n n U V O) {l : List Int} (h : Asg l n) : prices U V n ≤ csum c l n := by
  rw [csum_sum]
  have a := sumTo_le (g := fun p => rd U ((p : Int) + 1) + rd V (rd l p + 1)) (h := fun p => M c ((p : Int) + 1) (rd l p + 1)) n (fun i hi => by
    have := h.2 i (by omega) (by omega)
    exact D.feas _ _ (by omega) (by omega) (by omega) (by omega))
  rw [sumTo_add, h.sum (fun x => rd V (x + 1))] at a
  exact a
theorem Dual.list {n : Nat} (D : Dual c n n U V O) : ∃ l, Asg l n ∧ csum c l n = prices U V n := by
  have ch : ∀ r : Nat, ∃ j : Int, r < n → 1 ≤ j ∧ j ≤ n ∧ rd O j = r + 1 := fun r => by
    by_cases h : r < n
    · obtain ⟨j, a, b, e⟩ := D.cov (r + 1) (by omega) (by omega)
      exact ⟨j, fun _ => ⟨a, b, e⟩⟩
    · exact ⟨0, fun x => absurd x h⟩
  obtain ⟨f, hf⟩ := Classical.axiomOfChoice ch
  have A : Asg ((List.range n).map fun i => f i - 1) n := asg_of (fun i hi => by have := hf i hi; omega) (fun i j hi hj e => by
    have x := hf i hi
    have y := hf j hj
    have e' : f i = f j := by omega
    rw [e'] at x
    omega)
  refine ⟨_, A, ?_⟩
  rw [csum_sum]
  have e1 := sumTo_congr (g := fun p => M c ((p : Int) + 1) (rd ((List.range n).map fun i => f i - 1) p + 1)) (h := fun p => rd U ((p : Int) + 1) + rd V (rd ((List.range n).map fun i => f i - 1) p + 1)) n (fun i hi => by
    have x := hf i hi
    have := D.tight (f i) x.1 x.2.1 (by omega)
    rw [rd_ofFn hi, show f i - 1 + 1 = f i by omega]
    rw [x.2.2] at this
    omega)
  rw [e1, sumTo_add, A.sum (fun x => rd V (x + 1))]
  rfl
theorem Dual.min {n : Nat} (hl : c.length = n) (D : Dual c n n U V O) : IsMin c (prices U V n) := by
  subst hl
  exact ⟨D.list, fun l h => D.lower h⟩
/-- What the owners' places cost. -/
theorem Dual.owners {n : Nat} (D : Dual c n n U V O) : sumTo (fun j => M c (rd O ((j : Int) + 1)) ((j : Int) + 1)) n = prices U V n := by
  have e1 := sumTo_congr (g := fun j => M c (rd O ((j : Int) + 1)) ((j : Int) + 1)) (h := fun j => rd U (rd O ((j : Int) + 1)) + rd V ((j : Int) + 1)) n (fun j hj => by
    have f := D.full (j0 := (j : Int) + 1) (by omega) (by omega)
    exact (D.tight ((j : Int) + 1) (by omega) (by omega) (by omega)).symm)
  rw [e1, sumTo_add]
  have p := sumTo_perm n (fun j => (rd O ((j : Int) + 1)).toNat - 1) (fun i => rd U ((i : Int) + 1)) (fun j hj => by
    have f := D.full (j0 := (j : Int) + 1) (by omega) (by omega)
    have r := D.rng ((j : Int) + 1) (by omega) (by omega)
    show (rd O ((j : Int) + 1)).toNat - 1 < n
    omega) (fun a b ha hb e => by
    have f := D.full (j0 := (a : Int) + 1) (by omega) (by omega)
    have f' := D.full (j0 := (b : Int) + 1) (by omega) (by omega)
    have e' : (rd O ((a : Int) + 1)).toNat - 1 = (rd O ((b : Int) + 1)).toNat - 1 := e
    have := D.inj ((a : Int) + 1) ((b : Int) + 1) (by omega) (by omega) (by omega) (by omega) (by omega) (by omega)
    omega)
  have e2 := sumTo_congr (g := fun j => rd U (rd O ((j : Int) + 1))) (h := fun j => rd U ((((rd O ((j : Int) + 1)).toNat - 1 : Nat) : Int) + 1)) n (fun j hj => by
    have f := D.full (j0 := (j : Int) + 1) (by omega) (by omega)
    show rd U _ = rd U _
    congr 1; omega)
  rw [e2, p]
  rfl
end

theorem cost_walk {c : List (List Int)} {n : Nat} {U V O : List Int} (T : Tab c n) (D : Dual c n n U V O) (m : Nat) : ∀ j : Nat, j + m = n →
    Ev (fun k => assign_cost.l0 k c (sumTo (fun j => M c (rd O ((j : Int) + 1)) ((j : Int) + 1)) j) ((j : Int) + 1) U V O) (sumTo (fun j => M c (rd O ((j : Int) + 1)) ((j : Int) + 1)) n) := by
  have hn := T.le
  have hl := T.len
  have lo := D.lo
  have bnd : ∀ j : Nat, j ≤ n → 0 ≤ sumTo (fun j => M c (rd O ((j : Int) + 1)) ((j : Int) + 1)) j ∧ sumTo (fun j => M c (rd O ((j : Int) + 1)) ((j : Int) + 1)) j ≤ j * 1099511627776 := by
    intro j
    induction j with
    | zero => intro _; simp [sumTo]
    | succ j ih =>
      intro hj
      have := ih (by omega)
      have f := D.full (j0 := (j : Int) + 1) (by omega) (by omega)
      have r := D.rng ((j : Int) + 1) (by omega) (by omega)
      have m0 := T.lo (rd O ((j : Int) + 1)) ((j : Int) + 1) f r.2 (by omega) (by omega)
      have m1 := T.hi (rd O ((j : Int) + 1)) ((j : Int) + 1) f r.2 (by omega) (by omega)
      simp only [sumTo]
      omega
  induction m with
  | zero =>
    intro j hj
    have : j = n := by omega
    subst this
    exact ev_step (fun k => by simp only [assign_cost.l0] <;> exact rfl) (ev_neg (by omega) (ev_now _))
  | succ m ih =>
    intro j hj
    have f := D.full (j0 := (j : Int) + 1) (by omega) (by omega)
    have r := D.rng ((j : Int) + 1) (by omega) (by omega)
    have b1 := bnd (j + 1) (by omega)
    have row := T.row (rd O ((j : Int) + 1)) f r.2
    refine ev_step (fun k => by simp only [assign_cost.l0] <;> exact rfl) (ev_pos (by omega) (ev_pos (by omega) (ev_pos (by omega) ?_)))
    rw [w64 (n := rd O ((j : Int) + 1) - 1) (by omega) (by omega), w64 (n := (j : Int) + 1 - 1) (by omega) (by omega)]
    refine ev_pos (by omega) (ev_pos (by omega) (ev_pos (by omega) (ev_pos (by omega) ?_)))
    simp only [sumTo] at b1
    rw [M_eq, w64 (n := _ + _) (by omega) (by omega), w64 (by omega) (by omega)]
    exact ih (j + 1) (by omega)
theorem cost_ev {c : List (List Int)} {n : Int} (T : Tab c n) : ∃ m, Ev (fun k => assign_cost.f k c) m ∧ IsMin c m := by
  obtain ⟨R, e, D⟩ := solve_ev T
  have hl := T.len
  subst hl
  refine ⟨_, ?_, D.min rfl⟩
  simp only [assign_cost.f]
  refine Ev.bind e ?_
  have := cost_walk T D c.length 0 (by omega)
  rw [D.owners] at this
  exact this
end Go.Proofs.Ytbmflpflmjfabaa.PAll
