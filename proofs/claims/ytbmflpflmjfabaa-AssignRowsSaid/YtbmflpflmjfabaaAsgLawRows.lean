/- AssignRows: plain law. -/
import Derived.Test.YtbmflpflmjfabaaPAllx0
import Derived.Test.YtbmflpflmjfabaaPAllf8
import Derived.Test.YtbmflpflmjfabaaAsgSquare
import Derived.Test.YtbmflpflmjfabaaRowWords
namespace Go.Proofs.Ytbmflpflmjfabaa.PAll
set_option linter.unusedVariables false
open Go Go.RowKit Go.Proofs.YtbmflpflmjfabaaW.PrintWords Go.Proofs.YtbmflpflmjfabaaW.PrintLast Go.Proofs.YtbmflpflmjfabaaW.PrintMore Go.Proofs.Ytbmflpflmjfabaa.MathNum Go.Proofs.Ytbmflpflmjfabaa.EvWords Go.Proofs.Ytbmflpflmjfabaa.RowWords

/-- What is added at a place. -/
def plus (at_ by_ : Int) (col : Bool) (i j : Int) : Int := if col = true then (if j = at_ then by_ else 0) else (if i = at_ then by_ else 0)
def prow (c : List (List Int)) (at_ by_ : Int) (col : Bool) (i : Nat) (j : Nat) : List Int := (List.range j).map fun (q : Nat) => M c ((i : Int) + 1) ((q : Int) + 1) + plus at_ by_ col i q
def prows (c : List (List Int)) (at_ by_ : Int) (col : Bool) (i : Nat) : List (List Int) := (List.range i).map fun p => prow c at_ by_ col p c.length

theorem plus_cell {c : List (List Int)} {at_ by_ : Int} {col : Bool} {r q : Nat} (r2 : r < c.length) (q2 : q < c.length) : M (prows c at_ by_ col c.length) ((r : Int) + 1) ((q : Int) + 1) = M c ((r : Int) + 1) ((q : Int) + 1) + plus at_ by_ col r q := by
  have hrow : rd_L1 (prows c at_ by_ col c.length) (r : Int) = prow c at_ by_ col r c.length := by
    unfold prows rd_L1
    rw [List.getD_eq_getElem?_getD, Int.toNat_natCast, List.getElem?_map, List.getElem?_range (by omega)]; rfl
  rw [M, show (r : Int) + 1 - 1 = r by omega, show (q : Int) + 1 - 1 = q by omega, hrow]
  unfold prow
  rw [rd_ofFn (by omega)]
attribute [local irreducible] rd M rdOf

theorem plus_sum {n : Nat} {at_ by_ : Int} {col : Bool} (h0 : 0 ≤ at_) (h1 : at_ < n) {l : List Int} (h : Asg l n) : sumTo (fun p => plus at_ by_ col (p : Int) (rd l (p : Int))) n = by_ := by
  have one : sumTo (fun p => if (p : Int) = at_ then by_ else 0) n = by_ := by
    have := sumTo_one (h := fun _ => (0 : Int)) (a := by_) (i0 := at_.toNat) n (by omega)
    have z : ∀ n, sumTo (fun _ => (0 : Int)) n = 0 := by
      intro n
      induction n with
      | zero => rfl
      | succ n ih => simp [sumTo, ih]
    rw [z] at this
    rw [← sumTo_congr (g := fun i => if i = at_.toNat then by_ else 0) n (fun i hi => by
      by_cases e : i = at_.toNat
      · rw [if_pos e, if_pos (by omega)]
      · rw [if_neg e, if_neg (by omega)]), this]
    omega
  cases col with
  | true =>
    have := h.sum (fun x => if x = at_ then by_ else 0)
    rw [one] at this
    exact this
  | false => exact one
theorem plus_csum {c : List (List Int)} {at_ by_ : Int} {col : Bool} (h0 : 0 ≤ at_) (h1 : at_ < c.length) {l : List Int} (h : Asg l c.length) : csum (prows c at_ by_ col c.length) l c.length = csum c l c.length + by_ := by
  have e := plus_sum (by_ := by_) (col := col) h0 h1 h
  rw [csum_sum, csum_sum]
  have e2 := sumTo_congr (g := fun p => M (prows c at_ by_ col c.length) ((p : Int) + 1) (rd l p + 1)) (h := fun p => M c ((p : Int) + 1) (rd l p + 1) + plus at_ by_ col (p : Int) (rd l (p : Int))) c.length (fun i hi => by
    have a := h.2 i (by omega) (by omega)
    obtain ⟨q, hq⟩ := Int.eq_ofNat_of_zero_le a.1
    rw [hq]
    exact plus_cell hi (by omega))
  rw [e2, sumTo_add, e]
theorem plus_best {c : List (List Int)} {at_ by_ : Int} {col : Bool} (h0 : 0 ≤ at_) (h1 : at_ < c.length) {l : List Int} {m : Int} (B : Best c c.length l m) : Best (prows c at_ by_ col c.length) c.length l (m + by_) := by
  refine ⟨B.asg, by rw [plus_csum h0 h1 B.asg, B.cost], fun l' h => ?_, fun l' h e => ?_⟩
  · rw [plus_csum h0 h1 h]
    have := B.min l' h; omega
  · rw [plus_csum h0 h1 h] at e
    exact B.lex l' h (by omega)

section
variable {c : List (List Int)} {at_ by_ : Int} {col : Bool}
theorem rows_l1 (T : Tab c c.length) (b0 : 0 ≤ by_) (b1 : by_ ≤ 1000) (i : Nat) (hi : i < c.length) (h : Ev (fun k => dancestudiolaw11_AssignRows.l0 k c at_ by_ col (prows c at_ by_ col (i + 1)) ((i : Int) + 1)) true) (d : Nat) :
    ∀ j : Nat, j + d = c.length → Ev (fun k => dancestudiolaw11_AssignRows.l1 k c at_ by_ col (prows c at_ by_ col i) (i : Int) (prow c at_ by_ col i j) (j : Int)) true := by
  have hn := T.le
  induction d with
  | zero =>
    intro j hj
    refine ev_step (fun k => by simp only [dancestudiolaw11_AssignRows.l1] <;> exact rfl) (ev_neg (by omega) (ev_pos (by unfold prows; simp; omega) ?_))
    rw [w64 (by omega) (by omega)]
    have e : prows c at_ by_ col (i + 1) = prows c at_ by_ col i ++ [prow c at_ by_ col i j] := by
      unfold prows
      rw [List.range_succ, List.map_append, show j = c.length by omega]; rfl
    rw [← e]
    exact h
  | succ d ih =>
    intro j hj
    have row := T.row0 (i := (i : Int)) (by omega) (by omega)
    have m0 := T.lo ((i : Int) + 1) ((j : Int) + 1) (by omega) (by omega) (by omega) (by omega)
    have m1 := T.hi ((i : Int) + 1) ((j : Int) + 1) (by omega) (by omega) (by omega) (by omega)
    refine ev_step (fun k => by simp only [dancestudiolaw11_AssignRows.l1] <;> exact rfl) (ev_pos (by omega) (ev_pos (by omega) (ev_pos (by omega) (ev_pos (by omega) (ev_pos (by omega) ?_)))))
    have e : prow c at_ by_ col i (j + 1) = prow c at_ by_ col i j ++ [M c ((i : Int) + 1) ((j : Int) + 1) + plus at_ by_ col i j] := by
      unfold prow
      rw [List.range_succ, List.map_append]; rfl
    have nxt := ih (j + 1) (by omega)
    rw [e] at nxt
    have hlen : (prow c at_ by_ col i j).length < 17592186044416 := by unfold prow; simp; omega
    rw [w64 (n := (j : Int) + 1) (by omega) (by omega), cell_M, w64 (n := by_) (by omega) (by omega), w64 (n := M c _ _ + by_) (by omega) (by omega)]
    unfold plus at nxt
    by_cases hc : col = true
    · refine ev_pos hc ?_
      rw [if_pos hc] at nxt
      by_cases ha : (j : Int) = at_
      · rw [if_pos ha] at nxt
        exact ev_pos ha (ev_pos hlen nxt)
      · rw [if_neg ha, Int.add_zero] at nxt
        exact ev_neg ha (ev_pos hlen nxt)
    · refine ev_neg hc ?_
      rw [if_neg hc] at nxt
      by_cases ha : (i : Int) = at_
      · rw [if_pos ha] at nxt
        exact ev_pos ha (ev_pos hlen nxt)
      · rw [if_neg ha, Int.add_zero] at nxt
        exact ev_neg ha (ev_pos hlen nxt)
theorem rows_l0 (hc : chk c = 0) (a0 : 0 ≤ at_) (a1 : at_ < c.length) (b0 : 0 ≤ by_) (b1 : by_ ≤ 1000) (d : Nat) : ∀ i : Nat, i + d = c.length → Ev (fun k => dancestudiolaw11_AssignRows.l0 k c at_ by_ col (prows c at_ by_ col i) (i : Int)) true := by
  have T := tab_of hc
  have hn := T.le
  induction d with
  | zero =>
    intro i hi
    have e : i = c.length := by omega
    subst e
    refine ev_step (fun k => by simp only [dancestudiolaw11_AssignRows.l0] <;> exact rfl) (ev_neg (by omega) ?_)
    refine Ev.bind (check_ev _) ?_
    by_cases hd : chk (prows c at_ by_ col c.length) = 0
    · obtain ⟨l, m, B, e1⟩ := Solve_ev hc
      obtain ⟨l2, m2, B2, e2⟩ := Solve_ev hd
      have hlen : (prows c at_ by_ col c.length).length = c.length := by unfold prows; simp
      rw [hlen] at B2
      obtain ⟨rfl, rfl⟩ := B2.unique (plus_best a0 a1 B)
      have la := B.asg.1
      refine ev_pos hd (Ev.bind e1 (Ev.bind e2 (ev_pos rfl (ev_pos rfl (Ev.bind (same_ev l2 (by omega)) (ev_pos rfl ?_))))))
      refine ev_pos ?_ (Ev.bind awake_ev (ev_now _))
      show wrap64 (m + by_ - m) = wrap64 by_
      congr 1; omega
    · exact ev_neg hd (Ev.bind awake_ev (ev_now _))
  | succ d ih =>
    intro i hi
    refine ev_step (fun k => by simp only [dancestudiolaw11_AssignRows.l0] <;> exact rfl) (ev_pos (by omega) ?_)
    exact rows_l1 T b0 b1 i (by omega) (ih (i + 1) (by omega)) c.length 0 (by omega)
end

theorem pure_AssignRows (c : List (List Int)) (hc : c.length ≤ maxLen) (_ : ∀ r ∈ c, Held .i64 r) (at_ : Int) (_ : (Lit.int .i64 at_).wf = true) (by_ : Int) (hb : (Lit.int .u16 by_).wf = true) (col : Bool) : ∃ k, dancestudiolaw11_AssignRows.f k c at_ by_ col = some true := by
  refine ev_some ?_
  have b0 : 0 ≤ by_ := by
    have z : IntKind.u16.min = 0 := by decide
    simp [Lit.wf] at hb
    have := hb.1
    omega
  simp only [dancestudiolaw11_AssignRows.f]
  obtain ⟨b, eb, _⟩ := square_ev c (Nat.le_trans hc (by decide))
  refine Ev.bind eb ?_
  have out : Ev (fun k => dancestudiolaw11_AssignRows.j0 k c at_ by_ col true) true :=
    ev_step (fun k => by simp only [dancestudiolaw11_AssignRows.j0] <;> exact rfl) (ev_pos (show true = true from rfl) (Ev.bind awake_ev (ev_now _)))
  by_cases hbt : b = true
  · refine ev_pos hbt (Ev.bind (check_ev c) ?_)
    by_cases h : chk c = 0
    · refine ev_pos h ?_
      by_cases a0 : at_ < 0
      · exact ev_pos a0 out
      · refine ev_neg a0 ?_
        by_cases a1 : at_ ≥ c.length
        · exact ev_pos a1 out
        · refine ev_neg a1 ?_
          by_cases hg : by_ > 1000
          · rw [show decide (by_ > 1000) = true by simpa using hg]; exact out
          · rw [show decide (by_ > 1000) = false by simpa using hg]
            refine ev_step (fun k => by simp only [dancestudiolaw11_AssignRows.j0] <;> exact rfl) (ev_neg (by decide) ?_)
            exact rows_l0 h (by omega) (by omega) b0 (by omega) c.length 0 (by omega)
    · exact ev_neg h out
  · exact ev_neg hbt out
end Go.Proofs.Ytbmflpflmjfabaa.PAll
