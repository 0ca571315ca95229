/- What both checks of a table of costs answer. -/
import Derived.Test.YtbmflpflmjfabaaPAllx0
import Derived.Test.YtbmflpflmjfabaaPAllf11
import Derived.Test.YtbmflpflmjfabaaPAllf12
import Derived.Test.YtbmflpflmjfabaaMathNum
import Derived.Test.YtbmflpflmjfabaaEvWords
namespace Go.Proofs.Ytbmflpflmjfabaa.PAll
set_option linter.unusedVariables false
open Go Go.RowKit Go.Proofs.YtbmflpflmjfabaaW.PrintWords Go.Proofs.YtbmflpflmjfabaaW.PrintLast Go.Proofs.YtbmflpflmjfabaaW.PrintMore Go.Proofs.Ytbmflpflmjfabaa.MathNum Go.Proofs.Ytbmflpflmjfabaa.EvWords

theorem rdL_nat (c : List (List Int)) {i : Nat} (h : i < c.length) : rd_L1 c (i : Int) = c[i] := by
  unfold rd_L1
  rw [List.getD_eq_getElem?_getD, Int.toNat_natCast, List.getElem?_eq_getElem h]; rfl
theorem rd_nat (c : List Int) {i : Nat} (h : i < c.length) : rd c (i : Int) = c[i] := by
  unfold rd
  rw [List.getD_eq_getElem?_getD, Int.toNat_natCast, List.getElem?_eq_getElem h]; rfl
theorem all_drop {α : Type} (p : α → Bool) (c : List α) {i : Nat} (h : i < c.length) : (c.drop i).all p = (p c[i] && (c.drop (i + 1)).all p) := by
  rw [List.drop_eq_getElem_cons h, List.all_cons]
theorem all_end {α : Type} (p : α → Bool) (c : List α) {i : Nat} (h : c.length ≤ i) : (c.drop i).all p = true := by
  rw [List.drop_eq_nil_of_le h]; rfl

/-- A cost is from 0 to 2^40. -/
def valOk (x : Int) : Bool := decide (0 ≤ x) && decide (x ≤ 1099511627776)
theorem valOk_iff {x : Int} : valOk x = true ↔ 0 ≤ x ∧ x ≤ 1099511627776 := by unfold valOk; simp
def lenOk (n : Nat) (r : List Int) : Bool := r.length == n
/-- The answer of Check. -/
def chk (c : List (List Int)) : Int := if c.length > 16 then 3 else if c.all (lenOk c.length) = true then (if c.all (fun r => r.all valOk) = true then 0 else 1) else 2

theorem chk_l2 (c : List (List Int)) (n i : Int) (row : List Int) (R : Int) (hn : row.length ≤ 16) (hR : Ev (fun k => assign_Check.l1 k c n (wrap64 (i + 1))) R) (d : Nat) : ∀ j : Nat, j + d = row.length →
    Ev (fun k => assign_Check.l2 k c n i row (row.length : Int) (j : Int)) (if (row.drop j).all valOk = true then R else 1) := by
  induction d with
  | zero =>
    intro j hj
    rw [if_pos (all_end _ _ (by omega))]
    refine ev_step (fun k => by simp only [assign_Check.l2] <;> exact rfl) ?_
    exact ev_neg (by omega) hR
  | succ d ih =>
    intro j hj
    have hlt : j < row.length := by omega
    refine ev_step (fun k => by simp only [assign_Check.l2] <;> exact rfl) ?_
    refine ev_pos (by omega) (ev_pos (by omega) (ev_pos (by omega) ?_))
    rw [rd_nat row hlt, all_drop _ _ hlt]
    by_cases h : valOk row[j] = true
    · rw [h, Bool.true_and]
      have h' := valOk_iff.mp h
      refine ev_neg (by omega) (ev_neg (by omega) ?_)
      have := ih (j + 1) (by omega)
      rw [w64 (by omega) (by omega)]
      simpa using this
    · have e : valOk row[j] = false := by simpa using h
      rw [e, Bool.false_and, if_neg (by simp)]
      rw [valOk_iff] at h
      by_cases h0 : row[j] < 0
      · exact ev_pos h0 (ev_now _)
      · exact ev_neg h0 (ev_pos (by omega) (ev_now _))

theorem chk_l1 (c : List (List Int)) (hn : c.length ≤ 16) (hl : c.all (lenOk c.length) = true) (d : Nat) : ∀ i : Nat, i + d = c.length →
    Ev (fun k => assign_Check.l1 k c (c.length : Int) (i : Int)) (if (c.drop i).all (fun r => r.all valOk) = true then 0 else 1) := by
  induction d with
  | zero =>
    intro i hi
    rw [if_pos (all_end _ _ (by omega))]
    exact ev_step (fun k => by simp only [assign_Check.l1] <;> exact rfl) (ev_neg (by omega) (ev_now _))
  | succ d ih =>
    intro i hi
    have hlt : i < c.length := by omega
    refine ev_step (fun k => by simp only [assign_Check.l1] <;> exact rfl) ?_
    refine ev_pos (by omega) (ev_pos (by omega) (ev_pos (by omega) ?_))
    rw [rdL_nat c hlt]
    have hrow : c[i].length = c.length := by
      have := (List.all_eq_true.mp hl) c[i] (List.getElem_mem hlt)
      simpa [lenOk] using this
    have nxt := ih (i + 1) (by omega)
    have := chk_l2 c (c.length : Int) (i : Int) c[i] _ (by omega) (by rw [w64 (by omega) (by omega)]; exact nxt) c[i].length 0 (by omega)
    rw [List.drop_zero] at this
    refine ev_eq this ?_
    rw [all_drop _ _ hlt]
    by_cases h : c[i].all valOk = true
    · rw [if_pos h, h, Bool.true_and]
    · rw [if_neg h]
      have e : c[i].all valOk = false := by simpa using h
      rw [e, Bool.false_and, if_neg (by simp)]

theorem chk_l0 (c : List (List Int)) (hn : c.length ≤ 16) (R : Int) (hR : c.all (lenOk c.length) = true → Ev (fun k => assign_Check.l1 k c (c.length : Int) 0) R) (d : Nat) : ∀ i : Nat, i + d = c.length →
    ((c.take i).all (lenOk c.length) = true) → Ev (fun k => assign_Check.l0 k c c (c.length : Int) (i : Int)) (if c.all (lenOk c.length) = true then R else 2) := by
  induction d with
  | zero =>
    intro i hi hp
    rw [List.take_of_length_le (by omega)] at hp
    rw [if_pos hp]
    exact ev_step (fun k => by simp only [assign_Check.l0] <;> exact rfl) (ev_neg (by omega) (hR hp))
  | succ d ih =>
    intro i hi hp
    have hlt : i < c.length := by omega
    refine ev_step (fun k => by simp only [assign_Check.l0] <;> exact rfl) ?_
    refine ev_pos (by omega) (ev_pos (by omega) (ev_pos (by omega) ?_))
    rw [rdL_nat c hlt]
    by_cases h : c[i].length = c.length
    · refine ev_pos (by omega) ?_
      rw [w64 (by omega) (by omega)]
      have := ih (i + 1) (by omega) (by rw [List.take_succ_eq_append_getElem hlt, List.all_append, hp]; simp [lenOk, h])
      simpa using this
    · refine ev_neg (by omega) ?_
      rw [if_neg]
      · exact ev_now _
      · intro hh
        have := (List.all_eq_true.mp hh) c[i] (List.getElem_mem hlt)
        exact h (by simpa [lenOk] using this)

theorem check_ev (c : List (List Int)) : Ev (fun k => assign_Check.f k c) (chk c) := by
  unfold chk
  simp only [assign_Check.f]
  by_cases h : c.length > 16
  · rw [if_pos h]; exact ev_pos (by omega) (ev_now _)
  · rw [if_neg h]
    refine ev_neg (by omega) ?_
    have := chk_l0 c (by omega) _ (fun hl => by have := chk_l1 c (by omega) hl c.length 0 (by omega); rw [List.drop_zero] at this; exact this) c.length 0 (by omega) (by simp)
    exact this

theorem rchk_l2 (c : List (List Int)) (hn : c.length ≤ 16) (i : Nat) (hi : i < c.length) (hrow : c[i].length = c.length) (R : Int) (hR : Ev (fun k => dancestudioref11_Check.l1 k c (wrap64 ((i : Int) + 1))) R) (d : Nat) : ∀ j : Nat, j + d = c.length →
    Ev (fun k => dancestudioref11_Check.l2 k c (i : Int) (j : Int)) (if (c[i].drop j).all valOk = true then R else 1) := by
  induction d with
  | zero =>
    intro j hj
    rw [if_pos (all_end _ _ (by omega))]
    exact ev_step (fun k => by simp only [dancestudioref11_Check.l2] <;> exact rfl) (ev_neg (by omega) hR)
  | succ d ih =>
    intro j hj
    have hlt : j < c[i].length := by omega
    refine ev_step (fun k => by simp only [dancestudioref11_Check.l2] <;> exact rfl) ?_
    refine ev_pos (by omega) (ev_pos (by omega) (ev_pos (by omega) (ev_pos (by omega) ?_)))
    rw [rdL_nat c hi]
    refine ev_pos (by omega) ?_
    rw [rd_nat _ hlt, all_drop _ _ hlt]
    by_cases h : valOk (c[i])[j] = true
    · rw [h, Bool.true_and]
      have h' := valOk_iff.mp h
      refine ev_neg (by omega) (ev_neg (by omega) ?_)
      have := ih (j + 1) (by omega)
      rw [w64 (by omega) (by omega)]
      simpa using this
    · have e : valOk (c[i])[j] = false := by simpa using h
      rw [e, Bool.false_and, if_neg (by simp)]
      rw [valOk_iff] at h
      by_cases h0 : (c[i])[j] < 0
      · exact ev_pos h0 (ev_now _)
      · exact ev_neg h0 (ev_pos (by omega) (ev_now _))
theorem rchk_l1 (c : List (List Int)) (hn : c.length ≤ 16) (hl : c.all (lenOk c.length) = true) (d : Nat) : ∀ i : Nat, i + d = c.length →
    Ev (fun k => dancestudioref11_Check.l1 k c (i : Int)) (if (c.drop i).all (fun r => r.all valOk) = true then 0 else 1) := by
  induction d with
  | zero =>
    intro i hi
    rw [if_pos (all_end _ _ (by omega))]
    exact ev_step (fun k => by simp only [dancestudioref11_Check.l1] <;> exact rfl) (ev_neg (by omega) (ev_now _))
  | succ d ih =>
    intro i hi
    have hlt : i < c.length := by omega
    refine ev_step (fun k => by simp only [dancestudioref11_Check.l1] <;> exact rfl) ?_
    refine ev_pos (by omega) ?_
    have hrow : c[i].length = c.length := by
      have := (List.all_eq_true.mp hl) c[i] (List.getElem_mem hlt)
      simpa [lenOk] using this
    have nxt := ih (i + 1) (by omega)
    have := rchk_l2 c hn i hlt hrow _ (by rw [w64 (by omega) (by omega)]; exact nxt) c.length 0 (by omega)
    rw [List.drop_zero] at this
    refine ev_eq this ?_
    rw [all_drop _ _ hlt]
    by_cases h : c[i].all valOk = true
    · rw [if_pos h, h, Bool.true_and]
    · rw [if_neg h]
      have e : c[i].all valOk = false := by simpa using h
      rw [e, Bool.false_and, if_neg (by simp)]
theorem rchk_l0 (c : List (List Int)) (hn : c.length ≤ 16) (R : Int) (hR : c.all (lenOk c.length) = true → Ev (fun k => dancestudioref11_Check.l1 k c 0) R) (d : Nat) : ∀ i : Nat, i + d = c.length →
    ((c.take i).all (lenOk c.length) = true) → Ev (fun k => dancestudioref11_Check.l0 k c (i : Int)) (if c.all (lenOk c.length) = true then R else 2) := by
  induction d with
  | zero =>
    intro i hi hp
    rw [List.take_of_length_le (by omega)] at hp
    rw [if_pos hp]
    exact ev_step (fun k => by simp only [dancestudioref11_Check.l0] <;> exact rfl) (ev_neg (by omega) (hR hp))
  | succ d ih =>
    intro i hi hp
    have hlt : i < c.length := by omega
    refine ev_step (fun k => by simp only [dancestudioref11_Check.l0] <;> exact rfl) ?_
    refine ev_pos (by omega) (ev_pos (by omega) ?_)
    rw [rdL_nat c hlt]
    by_cases h : c[i].length = c.length
    · refine ev_pos (by omega) ?_
      rw [w64 (by omega) (by omega)]
      have := ih (i + 1) (by omega) (by rw [List.take_succ_eq_append_getElem hlt, List.all_append, hp]; simp [lenOk, h])
      simpa using this
    · refine ev_neg (by omega) ?_
      rw [if_neg]
      · exact ev_now _
      · intro hh
        have := (List.all_eq_true.mp hh) c[i] (List.getElem_mem hlt)
        exact h (by simpa [lenOk] using this)
theorem rcheck_ev (c : List (List Int)) : Ev (fun k => dancestudioref11_Check.f k c) (chk c) := by
  unfold chk
  simp only [dancestudioref11_Check.f]
  by_cases h : c.length > 16
  · rw [if_pos h]; exact ev_pos (by omega) (ev_now _)
  · rw [if_neg h]
    refine ev_neg (by omega) ?_
    have := rchk_l0 c (by omega) _ (fun hl => by have := rchk_l1 c (by omega) hl c.length 0 (by omega); rw [List.drop_zero] at this; exact this) c.length 0 (by omega) (by simp)
    exact this
/-- What a valid table is. -/
theorem chk_zero {c : List (List Int)} (h : chk c = 0) : c.length ≤ 16 ∧ (∀ r ∈ c, r.length = c.length) ∧ ∀ r ∈ c, ∀ x ∈ r, 0 ≤ x ∧ x ≤ 1099511627776 := by
  unfold chk at h
  by_cases h1 : c.length > 16
  · rw [if_pos h1] at h; omega
  · rw [if_neg h1] at h
    by_cases h2 : c.all (lenOk c.length) = true
    · rw [if_pos h2] at h
      by_cases h3 : c.all (fun r => r.all valOk) = true
      · refine ⟨by omega, fun r hr => ?_, fun r hr x hx => ?_⟩
        · have := (List.all_eq_true.mp h2) r hr; simpa [lenOk] using this
        · have := (List.all_eq_true.mp ((List.all_eq_true.mp h3) r hr)) x hx; exact valOk_iff.mp this
      · rw [if_neg h3] at h; omega
    · rw [if_neg h2] at h; omega
theorem chk_of {c : List (List Int)} (h1 : c.length ≤ 16) (h2 : ∀ r ∈ c, r.length = c.length) (h3 : ∀ r ∈ c, ∀ x ∈ r, 0 ≤ x ∧ x ≤ 1099511627776) : chk c = 0 := by
  unfold chk
  rw [if_neg (by omega), if_pos (List.all_eq_true.mpr fun r hr => by simp [lenOk, h2 r hr]), if_pos (List.all_eq_true.mpr fun r hr => List.all_eq_true.mpr fun x hx => valOk_iff.mpr (h3 r hr x hx))]
end Go.Proofs.Ytbmflpflmjfabaa.PAll
