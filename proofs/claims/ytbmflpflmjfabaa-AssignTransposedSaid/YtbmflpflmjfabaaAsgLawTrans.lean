/- AssignTransposed: plain law. -/
import Derived.Test.YtbmflpflmjfabaaPAllx0
import Derived.Test.YtbmflpflmjfabaaPAllf9
import Derived.Test.YtbmflpflmjfabaaAsgSquare
import Derived.Test.YtbmflpflmjfabaaRowWords
namespace Go.Proofs.Ytbmflpflmjfabaa.PAll
set_option linter.unusedVariables false
open Go Go.RowKit Go.Proofs.YtbmflpflmjfabaaW.PrintWords Go.Proofs.YtbmflpflmjfabaaW.PrintLast Go.Proofs.YtbmflpflmjfabaaW.PrintMore Go.Proofs.Ytbmflpflmjfabaa.MathNum Go.Proofs.Ytbmflpflmjfabaa.EvWords Go.Proofs.Ytbmflpflmjfabaa.RowWords

/-- The first i rows of the transposed table; a row's first j costs. -/
def tcol (c : List (List Int)) (i : Nat) (j : Nat) : List Int := (List.range j).map fun (q : Nat) => M c ((q : Int) + 1) ((i : Int) + 1)
def trows (c : List (List Int)) (i : Nat) : List (List Int) := (List.range i).map fun p => tcol c p c.length
def tran (c : List (List Int)) : List (List Int) := trows c c.length

theorem tran_cell {c : List (List Int)} {r q : Int} (r1 : 1 ≤ r) (r2 : r ≤ c.length) (q1 : 1 ≤ q) (q2 : q ≤ c.length) : M (tran c) r q = M c q r := by
  obtain ⟨r', rfl⟩ : ∃ r' : Nat, r = (r' : Int) + 1 := ⟨(r - 1).toNat, by omega⟩
  obtain ⟨q', rfl⟩ : ∃ q' : Nat, q = (q' : Int) + 1 := ⟨(q - 1).toNat, by omega⟩
  have hrow : rd_L1 (tran c) (r' : Int) = tcol c r' c.length := by
    unfold tran trows rd_L1
    rw [List.getD_eq_getElem?_getD, Int.toNat_natCast, List.getElem?_map, List.getElem?_range (by omega)]; rfl
  rw [M, show (r' : Int) + 1 - 1 = r' by omega, show (q' : Int) + 1 - 1 = q' by omega, hrow]
  unfold tcol
  rw [rd_ofFn (by omega)]
theorem chk_tran {c : List (List Int)} (h : chk c = 0) : chk (tran c) = 0 := by
  have T := tab_of h
  have hn := T.le
  have hlen : (tran c).length = c.length := by unfold tran trows; simp
  refine chk_of (by omega) (fun r hr => ?_) (fun r hr x hx => ?_)
  · obtain ⟨p, hp, rfl⟩ := List.mem_map.1 hr
    rw [hlen]; unfold tcol; simp
  · obtain ⟨p, hp, rfl⟩ := List.mem_map.1 hr
    obtain ⟨q, hq, rfl⟩ := List.mem_map.1 hx
    have := List.mem_range.1 hp
    have := List.mem_range.1 hq
    exact ⟨T.lo _ _ (by omega) (by omega) (by omega) (by omega), T.hi _ _ (by omega) (by omega) (by omega) (by omega)⟩
attribute [local irreducible] rd M rdOf

theorem inverse {c d : List (List Int)} {n : Nat} (hd : ∀ r q, 1 ≤ r → r ≤ (n : Int) → 1 ≤ q → q ≤ (n : Int) → M d r q = M c q r) {l : List Int} (h : Asg l n) : ∃ l', Asg l' n ∧ csum d l' n = csum c l n := by
  have ch : ∀ j : Nat, ∃ i : Nat, j < n → i < n ∧ rd l (i : Int) = j := fun j => by
    by_cases hj : j < n
    · obtain ⟨i, a, b⟩ := h.surj (j := (j : Int)) (by omega) (by omega)
      exact ⟨i, fun _ => ⟨a, b⟩⟩
    · exact ⟨0, fun x => absurd x hj⟩
  obtain ⟨f, hf⟩ := Classical.axiomOfChoice ch
  have A : Asg ((List.range n).map fun j => ((f j : Nat) : Int)) n := asg_of (fun i hi => by have := hf i hi; omega) (fun i j hi hj e => by
    have x := hf i hi
    have y := hf j hj
    have : f i = f j := by omega
    rw [this] at x
    omega)
  refine ⟨_, A, ?_⟩
  rw [csum_sum, csum_sum, ← A.sum (fun x => M c (x + 1) (rd l x + 1))]
  refine sumTo_congr n fun i hi => ?_
  have x := hf i hi
  rw [rd_ofFn hi, hd _ _ (by omega) (by omega) (by omega) (by omega), x.2]
theorem min_tran {c : List (List Int)} (h : chk c = 0) {m : Int} (hm : IsMin c m) : IsMin (tran c) m := by
  have hlen : (tran c).length = c.length := by unfold tran trows; simp
  obtain ⟨l, a, e⟩ := hm.1
  obtain ⟨l', a', e'⟩ := inverse (c := c) (d := tran c) (n := c.length) (fun r q a b d e => tran_cell a b d e) a
  refine ⟨⟨l', by rw [hlen]; exact a', by rw [hlen, e', e]⟩, fun l2 h2 => ?_⟩
  rw [hlen] at h2 ⊢
  obtain ⟨l3, a3, e3⟩ := inverse (c := tran c) (d := c) (n := c.length) (fun r q a b d e => (tran_cell d e a b).symm) h2
  rw [← e3]
  exact hm.2 l3 a3

theorem tran_l1 {c : List (List Int)} {n : Nat} (T : Tab c n) (i : Nat) (hi : i < n) (h : Ev (fun k => dancestudiolaw11_AssignTransposed.l0 k c (trows c (i + 1)) ((i : Int) + 1)) true) (d : Nat) :
    ∀ j : Nat, j + d = n → Ev (fun k => dancestudiolaw11_AssignTransposed.l1 k c (trows c i) (i : Int) (tcol c i j) (j : Int)) true := by
  have hl := T.len
  have hn := T.le
  induction d with
  | zero =>
    intro j hj
    refine ev_step (fun k => by simp only [dancestudiolaw11_AssignTransposed.l1] <;> exact rfl) (ev_neg (by omega) (ev_pos (by unfold trows; simp; omega) ?_))
    rw [w64 (by omega) (by omega)]
    have e : trows c (i + 1) = trows c i ++ [tcol c i j] := by
      unfold trows
      rw [List.range_succ, List.map_append, show j = c.length by omega]; rfl
    rw [← e]
    exact h
  | succ d ih =>
    intro j hj
    have row := T.row0 (i := (j : Int)) (by omega) (by omega)
    refine ev_step (fun k => by simp only [dancestudiolaw11_AssignTransposed.l1] <;> exact rfl) (ev_pos (by omega) (ev_pos (by omega) (ev_pos (by omega) (ev_pos (by omega) (ev_pos (by unfold tcol; simp; omega) ?_)))))
    rw [w64 (by omega) (by omega), cell_M]
    have e : tcol c i (j + 1) = tcol c i j ++ [M c ((j : Int) + 1) ((i : Int) + 1)] := by
      unfold tcol
      rw [List.range_succ, List.map_append]; rfl
    rw [← e]
    exact ih (j + 1) (by omega)
theorem tran_l0 {c : List (List Int)} (hc : chk c = 0) (d : Nat) : ∀ i : Nat, i + d = c.length → Ev (fun k => dancestudiolaw11_AssignTransposed.l0 k c (trows c i) (i : Int)) true := by
  have T := tab_of hc
  have hn := T.le
  induction d with
  | zero =>
    intro i hi
    have e : i = c.length := by omega
    subst e
    obtain ⟨l, m, B, e1⟩ := Solve_ev hc
    obtain ⟨l2, m2, B2, e2⟩ := Solve_ev (chk_tran hc)
    have hm : m2 = m := B2.isMin.unique (min_tran hc B.isMin)
    refine ev_step (fun k => by simp only [dancestudiolaw11_AssignTransposed.l0] <;> exact rfl) (ev_neg (by omega) ?_)
    refine Ev.bind e1 (Ev.bind e2 (Ev.bind (cost_any hc l _ (fun _ => rfl) (fun x => absurd B.asg x)) ?_))
    exact ev_pos rfl (ev_pos rfl (ev_pos rfl (ev_pos hm.symm (ev_pos B.cost (Ev.bind awake_ev (ev_now _))))))
  | succ d ih =>
    intro i hi
    refine ev_step (fun k => by simp only [dancestudiolaw11_AssignTransposed.l0] <;> exact rfl) (ev_pos (by omega) ?_)
    exact tran_l1 T i (by omega) (ih (i + 1) (by omega)) c.length 0 (by omega)

theorem pure_AssignTransposed (c : List (List Int)) (hc : c.length ≤ maxLen) (_ : ∀ r ∈ c, Held .i64 r) : ∃ k, dancestudiolaw11_AssignTransposed.f k c = some true := by
  refine ev_some ?_
  simp only [dancestudiolaw11_AssignTransposed.f]
  obtain ⟨b, eb, hb⟩ := square_ev c (Nat.le_trans hc (by decide))
  refine Ev.bind eb ?_
  have out : Ev (fun k => dancestudiolaw11_AssignTransposed.j0 k c true) true :=
    ev_step (fun k => by simp only [dancestudiolaw11_AssignTransposed.j0] <;> exact rfl) (ev_pos (show true = true from rfl) (Ev.bind awake_ev (ev_now _)))
  by_cases hbt : b = true
  · refine ev_pos hbt (Ev.bind (check_ev c) ?_)
    by_cases h : chk c = 0
    · rw [h]
      refine ev_step (fun k => by simp only [dancestudiolaw11_AssignTransposed.j0] <;> exact rfl) (ev_neg (by decide) ?_)
      exact tran_l0 h c.length 0 (by omega)
    · have : (chk c != 0) = true := by simpa using h
      rw [this]; exact out
  · exact ev_neg hbt out
end Go.Proofs.Ytbmflpflmjfabaa.PAll
