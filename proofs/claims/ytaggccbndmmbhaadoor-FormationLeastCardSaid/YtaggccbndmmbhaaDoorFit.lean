/- Texts of the proof, laid end to end. -/
import Derived.Test.YtaggccbndmmbhaaDoorBase
import Derived.Test.YtaggccbndmmbhaaDoorPAllf38
import Derived.Test.YtaggccbndmmbhaaDoorPAllf46
import Derived.Test.YtaggccbndmmbhaaDoorPAllf59
import Derived.Test.YtaggccbndmmbhaaDoorChk
import Derived.Test.YtaggccbndmmbhaaDoorPAllf56
import Derived.Test.YtaggccbndmmbhaaDoorPAllf60
import Derived.Test.YtaggccbndmmbhaaDoorPAllf83
import Derived.Test.YtaggccbndmmbhaaDoorPAllf57
import Derived.Test.YtaggccbndmmbhaaDoorPAllf70
import Derived.Test.YtaggccbndmmbhaaDoorPAllf58
import Derived.Test.YtaggccbndmmbhaaDoorPAllf35
import Derived.Test.YtaggccbndmmbhaaDoorPAllf15
import Derived.Test.YtaggccbndmmbhaaDoorPAllf16
import Derived.Test.YtaggccbndmmbhaaDoorPAllf28
import Derived.Test.YtaggccbndmmbhaaDoorPAllf36
import Derived.Test.YtaggccbndmmbhaaDoorPAllf37
/- The chapter's examples, and which points and radii are valid. -/
namespace Go.Proofs.YtaggccbndmmbhaaDoor.PAll
set_option linter.unusedVariables false
open Go Go.RowKit Go.Proofs.YtaggccbndmmbhaaDoorW.PrintWords Go.Proofs.YtaggccbndmmbhaaDoorW.PrintLast Go.Proofs.YtaggccbndmmbhaaDoorW.PrintMore Go.Proofs.YtaggccbndmmbhaaDoor.MathNum Go.Proofs.YtaggccbndmmbhaaDoor.EvWords

set_option maxRecDepth 100000 in

/-- A number that a coordinate can be. -/
def cOk (x : Int) : Prop := -32768 ≤ x ∧ x ≤ 32768
instance (x : Int) : Decidable (cOk x) := by unfold cOk; exact inferInstance
def pOk (p : S52) : Prop := cOk p.f0 ∧ cOk p.f1
instance (p : S52) : Decidable (pOk p) := by unfold pOk; exact inferInstance
def rOk (r : Int) : Prop := 0 ≤ r ∧ r ≤ 32768
instance (r : Int) : Decidable (rOk r) := by unfold rOk; exact inferInstance

theorem rdT_nat (c : List S52) {i : Nat} (h : i < c.length) : rd_T52 c (i : Int) = c[i] := by
  unfold rd_T52
  rw [List.getD_eq_getElem?_getD, Int.toNat_natCast, List.getElem?_eq_getElem h]; rfl
theorem grd_nat (c : List Int) {i : Nat} (h : i < c.length) : rd c (i : Int) = c[i] := by
  unfold rd
  rw [List.getD_eq_getElem?_getD, Int.toNat_natCast, List.getElem?_eq_getElem h]; rfl

theorem valid_l1 {rs : List Int} (hr : rs.length ≤ 9223372036854775807) (R : Bool) (hy : (∀ r ∈ rs, rOk r) → R = true) (hn : ¬ (∀ r ∈ rs, rOk r) → R = false) (d : Nat) : ∀ i : Nat, i + d = rs.length → (∀ r ∈ rs.take i, rOk r) →
    Ev (fun k => geom_valid.l1 k rs (rs.length : Int) (i : Int)) R := by
  induction d with
  | zero =>
    intro i hi hp
    rw [List.take_of_length_le (by omega)] at hp
    rw [hy hp]
    exact ev_step (fun k => by simp only [geom_valid.l1] <;> exact rfl) (ev_neg (by omega) (ev_now _))
  | succ d ih =>
    intro i hi hp
    have hlt : i < rs.length := by omega
    refine ev_step (fun k => by simp only [geom_valid.l1] <;> exact rfl) (ev_pos (by omega) (ev_pos (by omega) (ev_pos (by omega) ?_)))
    rw [grd_nat rs hlt]
    by_cases h0 : rs[i] < 0
    · rw [hn fun h => by have := (h _ (List.getElem_mem hlt)).1; omega]
      exact ev_pos h0 (ev_now _)
    · refine ev_neg h0 ?_
      by_cases h1 : rs[i] > 32768
      · rw [hn fun h => by have := (h _ (List.getElem_mem hlt)).2; omega]
        exact ev_pos h1 (ev_now _)
      · refine ev_neg h1 ?_
        rw [w64 (by omega) (by omega)]
        refine ih (i + 1) (by omega) (fun r hm => ?_)
        rw [List.take_succ_eq_append_getElem hlt] at hm
        rcases List.mem_append.1 hm with hm | hm
        · exact hp r hm
        · rw [List.mem_singleton.1 hm]; exact ⟨by omega, by omega⟩
theorem valid_l0 {ps : List S52} {rs : List Int} (hp0 : ps.length ≤ 9223372036854775807) (hr : rs.length ≤ 9223372036854775807) (R : Bool) (hy : (∀ p ∈ ps, pOk p) → (∀ r ∈ rs, rOk r) → R = true) (hn : ¬ ((∀ p ∈ ps, pOk p) ∧ (∀ r ∈ rs, rOk r)) → R = false) (d : Nat) :
    ∀ i : Nat, i + d = ps.length → (∀ p ∈ ps.take i, pOk p) → Ev (fun k => geom_valid.l0 k rs ps (ps.length : Int) (i : Int)) R := by
  induction d with
  | zero =>
    intro i hi hp
    rw [List.take_of_length_le (by omega)] at hp
    refine ev_step (fun k => by simp only [geom_valid.l0] <;> exact rfl) (ev_neg (by omega) ?_)
    exact valid_l1 hr R (hy hp) (fun h => hn fun h' => h h'.2) rs.length 0 (by omega) (by simp)
  | succ d ih =>
    intro i hi hp
    have hlt : i < ps.length := by omega
    refine ev_step (fun k => by simp only [geom_valid.l0] <;> exact rfl) (ev_pos (by omega) (ev_pos (by omega) (ev_pos (by omega) ?_)))
    rw [rdT_nat ps hlt]
    have bad : ¬ pOk ps[i] → R = false := fun h => hn fun h' => h (h'.1 _ (List.getElem_mem hlt))
    by_cases h0 : ps[i].f0 < -32768
    · rw [bad fun h => by have := h.1.1; omega]
      exact ev_pos h0 (ev_now _)
    · refine ev_neg h0 ?_
      by_cases h1 : ps[i].f0 > 32768
      · rw [bad fun h => by have := h.1.2; omega]
        exact ev_pos h1 (ev_now _)
      · refine ev_neg h1 ?_
        by_cases h2 : ps[i].f1 < -32768
        · rw [bad fun h => by have := h.2.1; omega]
          exact ev_pos h2 (ev_now _)
        · refine ev_neg h2 ?_
          by_cases h3 : ps[i].f1 > 32768
          · rw [bad fun h => by have := h.2.2; omega]
            exact ev_pos h3 (ev_now _)
          · refine ev_neg h3 ?_
            rw [w64 (by omega) (by omega)]
            refine ih (i + 1) (by omega) (fun p hm => ?_)
            rw [List.take_succ_eq_append_getElem hlt] at hm
            rcases List.mem_append.1 hm with hm | hm
            · exact hp p hm
            · rw [List.mem_singleton.1 hm]; exact ⟨⟨by omega, by omega⟩, ⟨by omega, by omega⟩⟩
theorem valid_ev {ps : List S52} {rs : List Int} (hp : ps.length ≤ 9223372036854775807) (hr : rs.length ≤ 9223372036854775807) : Ev (fun k => geom_valid.f k ps rs) (decide ((∀ p ∈ ps, pOk p) ∧ (∀ r ∈ rs, rOk r))) := by
  simp only [geom_valid.f]
  exact valid_l0 hp hr _ (fun a b => by simpa using ⟨a, b⟩) (fun h => by simpa using h) ps.length 0 (by omega) (by simp)

theorem rValid (x y : Int) : dancestudioref03_Valid.f x y = some (decide (cOk x ∧ cOk y)) := by
  unfold dancestudioref03_Valid.f cOk
  by_cases h1 : x ≥ -32768
  · by_cases h2 : x ≤ 32768
    · by_cases h3 : y ≥ -32768
      · rw [if_pos h1, if_pos h2, if_pos h3]; exact congrArg some (decide_eq_decide.2 (by omega))
      · rw [if_pos h1, if_pos h2, if_neg h3]; exact congrArg some (decide_eq_false (by omega)).symm
    · rw [if_pos h1, if_neg h2]; exact congrArg some (decide_eq_false (by omega)).symm
  · rw [if_neg h1]; exact congrArg some (decide_eq_false (by omega)).symm
theorem rRadius (r : Int) : dancestudioref03_Radius.f r = some (decide (rOk r)) := by
  unfold dancestudioref03_Radius.f rOk
  by_cases h1 : r ≥ 0
  · rw [if_pos h1]; exact congrArg some (decide_eq_decide.2 (by omega))
  · rw [if_neg h1]; exact congrArg some (decide_eq_false (by omega)).symm

theorem minus_ok {a b c d : Int} (ha : cOk a) (hb : cOk b) (hc : cOk c) (hd : cOk d) : geom_minus.f a b c d = some (a - c, b - d) := by
  unfold geom_minus.f cOk at *
  rw [w64 (by omega) (by omega), w64 (by omega) (by omega)]
/-- Products of small numbers. -/
theorem mul_bound {a b m n : Int} (ha : -m ≤ a ∧ a ≤ m) (hb : -n ≤ b ∧ b ≤ n) : -(m * n) ≤ a * b ∧ a * b ≤ m * n := by
  have hm : 0 ≤ m := by omega
  have hn : 0 ≤ n := by omega
  constructor
  · by_cases h : 0 ≤ a
    · have h1 : a * (-n) ≤ a * b := Int.mul_le_mul_of_nonneg_left hb.1 h
      have h2 : a * n ≤ m * n := Int.mul_le_mul_of_nonneg_right ha.2 hn
      have h3 : a * (-n) = -(a * n) := Int.mul_neg a n
      omega
    · have h1 : (-a) * b ≤ (-a) * n := Int.mul_le_mul_of_nonneg_left hb.2 (by omega)
      have h2 : (-a) * n ≤ m * n := Int.mul_le_mul_of_nonneg_right (by omega) hn
      have h3 : (-a) * b = -(a * b) := Int.neg_mul a b
      omega
  · by_cases h : 0 ≤ a
    · have h1 : a * b ≤ a * n := Int.mul_le_mul_of_nonneg_left hb.2 h
      have h2 : a * n ≤ m * n := Int.mul_le_mul_of_nonneg_right ha.2 hn
      omega
    · have h1 : (-a) * (-n) ≤ (-a) * b := Int.mul_le_mul_of_nonneg_left hb.1 (by omega)
      have h2 : (-a) * n ≤ m * n := Int.mul_le_mul_of_nonneg_right (by omega) hn
      have h3 : (-a) * b = -(a * b) := Int.neg_mul a b
      have h4 : (-a) * (-n) = -((-a) * n) := Int.mul_neg (-a) n
      omega
theorem dot_ok {a b c d : Int} (ha : -131072 ≤ a ∧ a ≤ 131072) (hb : -131072 ≤ b ∧ b ≤ 131072) (hc : -131072 ≤ c ∧ c ≤ 131072) (hd : -131072 ≤ d ∧ d ≤ 131072) : geom_dot.f a b c d = some (a * c + b * d) := by
  unfold geom_dot.f
  have h1 := mul_bound ha hc
  have h2 := mul_bound hb hd
  rw [w64 (n := a * c) (by omega) (by omega), w64 (n := b * d) (by omega) (by omega), w64 (by omega) (by omega)]
theorem cross_ok {a b c d : Int} (ha : -131072 ≤ a ∧ a ≤ 131072) (hb : -131072 ≤ b ∧ b ≤ 131072) (hc : -131072 ≤ c ∧ c ≤ 131072) (hd : -131072 ≤ d ∧ d ≤ 131072) : geom_cross.f a b c d = some (a * d - b * c) := by
  unfold geom_cross.f
  have h1 := mul_bound ha hd
  have h2 := mul_bound hb hc
  rw [w64 (n := a * d) (by omega) (by omega), w64 (n := b * c) (by omega) (by omega), w64 (by omega) (by omega)]
theorem square_ok {a b c d : Int} (ha : cOk a) (hb : cOk b) (hc : cOk c) (hd : cOk d) : dancestudioref03_square.f a b c d = some ((a - c) * (a - c) + (b - d) * (b - d)) := by
  unfold dancestudioref03_square.f
  unfold cOk at *
  have x : -131072 ≤ a - c ∧ a - c ≤ 131072 := by omega
  have y : -131072 ≤ b - d ∧ b - d ≤ 131072 := by omega
  have h1 := mul_bound x x
  have h2 := mul_bound y y
  rw [w64 (n := a - c) (by omega) (by omega), w64 (n := b - d) (by omega) (by omega), w64 (n := (a - c) * (a - c)) (by omega) (by omega), w64 (n := (b - d) * (b - d)) (by omega) (by omega), w64 (by omega) (by omega)]
end Go.Proofs.YtaggccbndmmbhaaDoor.PAll
/- What both checks of a table of costs answer. -/
namespace Go.Proofs.YtaggccbndmmbhaaDoor.PAll
set_option linter.unusedVariables false
open Go Go.RowKit Go.Proofs.YtaggccbndmmbhaaDoorW.PrintWords Go.Proofs.YtaggccbndmmbhaaDoorW.PrintLast Go.Proofs.YtaggccbndmmbhaaDoorW.PrintMore Go.Proofs.YtaggccbndmmbhaaDoor.MathNum Go.Proofs.YtaggccbndmmbhaaDoor.EvWords

theorem rdL_nat (c : List (List Int)) {i : Nat} (h : i < c.length) : rd_L2 c (i : Int) = c[i] := by
  unfold rd_L2
  rw [List.getD_eq_getElem?_getD, Int.toNat_natCast, List.getElem?_eq_getElem h]; rfl
theorem rd_nat (c : List Int) {i : Nat} (h : i < c.length) : rd c (i : Int) = c[i] := by
  unfold rd
  rw [List.getD_eq_getElem?_getD, Int.toNat_natCast, List.getElem?_eq_getElem h]; rfl
theorem all_drop {α : Type} (p : α → Bool) (c : List α) {i : Nat} (h : i < c.length) : (c.drop i).all p = (p c[i] && (c.drop (i + 1)).all p) := by
  rw [List.drop_eq_getElem_cons h, List.all_cons]
theorem all_end {α : Type} (p : α → Bool) (c : List α) {i : Nat} (h : c.length ≤ i) : (c.drop i).all p = true := by
  rw [List.drop_eq_nil_of_le h]; rfl

/-- A cost is from 0 to 2^40. -/
def valOk (x : Int) : Bool := decide (0 ≤ x) && decide (x ≤ 1099511627776)
theorem valOk_iff {x : Int} : valOk x = true ↔ 0 ≤ x ∧ x ≤ 1099511627776 := by unfold valOk; simp
def lenOk (n : Nat) (r : List Int) : Bool := r.length == n
/-- The answer of Check. -/
def chk (c : List (List Int)) : Int := if c.length > 16 then 3 else if c.all (lenOk c.length) = true then (if c.all (fun r => r.all valOk) = true then 0 else 1) else 2

theorem chk_l2 (c : List (List Int)) (n i : Int) (row : List Int) (R : Int) (hn : row.length ≤ 16) (hR : Ev (fun k => assign_Check.l1 k c n (wrap64 (i + 1))) R) (d : Nat) : ∀ j : Nat, j + d = row.length →
    Ev (fun k => assign_Check.l2 k c n i row (row.length : Int) (j : Int)) (if (row.drop j).all valOk = true then R else 1) := by
  induction d with
  | zero =>
    intro j hj
    rw [if_pos (all_end _ _ (by omega))]
    refine ev_step (fun k => by simp only [assign_Check.l2] <;> exact rfl) ?_
    exact ev_neg (by omega) hR
  | succ d ih =>
    intro j hj
    have hlt : j < row.length := by omega
    refine ev_step (fun k => by simp only [assign_Check.l2] <;> exact rfl) ?_
    refine ev_pos (by omega) (ev_pos (by omega) (ev_pos (by omega) ?_))
    rw [rd_nat row hlt, all_drop _ _ hlt]
    by_cases h : valOk row[j] = true
    · rw [h, Bool.true_and]
      have h' := valOk_iff.mp h
      refine ev_neg (by omega) (ev_neg (by omega) ?_)
      have := ih (j + 1) (by omega)
      rw [w64 (by omega) (by omega)]
      simpa using this
    · have e : valOk row[j] = false := by simpa using h
      rw [e, Bool.false_and, if_neg (by simp)]
      rw [valOk_iff] at h
      by_cases h0 : row[j] < 0
      · exact ev_pos h0 (ev_now _)
      · exact ev_neg h0 (ev_pos (by omega) (ev_now _))

theorem chk_l1 (c : List (List Int)) (hn : c.length ≤ 16) (hl : c.all (lenOk c.length) = true) (d : Nat) : ∀ i : Nat, i + d = c.length →
    Ev (fun k => assign_Check.l1 k c (c.length : Int) (i : Int)) (if (c.drop i).all (fun r => r.all valOk) = true then 0 else 1) := by
  induction d with
  | zero =>
    intro i hi
    rw [if_pos (all_end _ _ (by omega))]
    exact ev_step (fun k => by simp only [assign_Check.l1] <;> exact rfl) (ev_neg (by omega) (ev_now _))
  | succ d ih =>
    intro i hi
    have hlt : i < c.length := by omega
    refine ev_step (fun k => by simp only [assign_Check.l1] <;> exact rfl) ?_
    refine ev_pos (by omega) (ev_pos (by omega) (ev_pos (by omega) ?_))
    rw [rdL_nat c hlt]
    have hrow : c[i].length = c.length := by
      have := (List.all_eq_true.mp hl) c[i] (List.getElem_mem hlt)
      simpa [lenOk] using this
    have nxt := ih (i + 1) (by omega)
    have := chk_l2 c (c.length : Int) (i : Int) c[i] _ (by omega) (by rw [w64 (by omega) (by omega)]; exact nxt) c[i].length 0 (by omega)
    rw [List.drop_zero] at this
    refine ev_eq this ?_
    rw [all_drop _ _ hlt]
    by_cases h : c[i].all valOk = true
    · rw [if_pos h, h, Bool.true_and]
    · rw [if_neg h]
      have e : c[i].all valOk = false := by simpa using h
      rw [e, Bool.false_and, if_neg (by simp)]

theorem chk_l0 (c : List (List Int)) (hn : c.length ≤ 16) (R : Int) (hR : c.all (lenOk c.length) = true → Ev (fun k => assign_Check.l1 k c (c.length : Int) 0) R) (d : Nat) : ∀ i : Nat, i + d = c.length →
    ((c.take i).all (lenOk c.length) = true) → Ev (fun k => assign_Check.l0 k c c (c.length : Int) (i : Int)) (if c.all (lenOk c.length) = true then R else 2) := by
  induction d with
  | zero =>
    intro i hi hp
    rw [List.take_of_length_le (by omega)] at hp
    rw [if_pos hp]
    exact ev_step (fun k => by simp only [assign_Check.l0] <;> exact rfl) (ev_neg (by omega) (hR hp))
  | succ d ih =>
    intro i hi hp
    have hlt : i < c.length := by omega
    refine ev_step (fun k => by simp only [assign_Check.l0] <;> exact rfl) ?_
    refine ev_pos (by omega) (ev_pos (by omega) (ev_pos (by omega) ?_))
    rw [rdL_nat c hlt]
    by_cases h : c[i].length = c.length
    · refine ev_pos (by omega) ?_
      rw [w64 (by omega) (by omega)]
      have := ih (i + 1) (by omega) (by rw [List.take_succ_eq_append_getElem hlt, List.all_append, hp]; simp [lenOk, h])
      simpa using this
    · refine ev_neg (by omega) ?_
      rw [if_neg]
      · exact ev_now _
      · intro hh
        have := (List.all_eq_true.mp hh) c[i] (List.getElem_mem hlt)
        exact h (by simpa [lenOk] using this)

theorem acheck_ev (c : List (List Int)) : Ev (fun k => assign_Check.f k c) (chk c) := by
  unfold chk
  simp only [assign_Check.f]
  by_cases h : c.length > 16
  · rw [if_pos h]; exact ev_pos (by omega) (ev_now _)
  · rw [if_neg h]
    refine ev_neg (by omega) ?_
    have := chk_l0 c (by omega) _ (fun hl => by have := chk_l1 c (by omega) hl c.length 0 (by omega); rw [List.drop_zero] at this; exact this) c.length 0 (by omega) (by simp)
    exact this

theorem rchk_l2 (c : List (List Int)) (hn : c.length ≤ 16) (i : Nat) (hi : i < c.length) (hrow : c[i].length = c.length) (R : Int) (hR : Ev (fun k => dancestudioref11_Check.l1 k c (wrap64 ((i : Int) + 1))) R) (d : Nat) : ∀ j : Nat, j + d = c.length →
    Ev (fun k => dancestudioref11_Check.l2 k c (i : Int) (j : Int)) (if (c[i].drop j).all valOk = true then R else 1) := by
  induction d with
  | zero =>
    intro j hj
    rw [if_pos (all_end _ _ (by omega))]
    exact ev_step (fun k => by simp only [dancestudioref11_Check.l2] <;> exact rfl) (ev_neg (by omega) hR)
  | succ d ih =>
    intro j hj
    have hlt : j < c[i].length := by omega
    refine ev_step (fun k => by simp only [dancestudioref11_Check.l2] <;> exact rfl) ?_
    refine ev_pos (by omega) (ev_pos (by omega) (ev_pos (by omega) (ev_pos (by omega) ?_)))
    rw [rdL_nat c hi]
    refine ev_pos (by omega) ?_
    rw [rd_nat _ hlt, all_drop _ _ hlt]
    by_cases h : valOk (c[i])[j] = true
    · rw [h, Bool.true_and]
      have h' := valOk_iff.mp h
      refine ev_neg (by omega) (ev_neg (by omega) ?_)
      have := ih (j + 1) (by omega)
      rw [w64 (by omega) (by omega)]
      simpa using this
    · have e : valOk (c[i])[j] = false := by simpa using h
      rw [e, Bool.false_and, if_neg (by simp)]
      rw [valOk_iff] at h
      by_cases h0 : (c[i])[j] < 0
      · exact ev_pos h0 (ev_now _)
      · exact ev_neg h0 (ev_pos (by omega) (ev_now _))
theorem rchk_l1 (c : List (List Int)) (hn : c.length ≤ 16) (hl : c.all (lenOk c.length) = true) (d : Nat) : ∀ i : Nat, i + d = c.length →
    Ev (fun k => dancestudioref11_Check.l1 k c (i : Int)) (if (c.drop i).all (fun r => r.all valOk) = true then 0 else 1) := by
  induction d with
  | zero =>
    intro i hi
    rw [if_pos (all_end _ _ (by omega))]
    exact ev_step (fun k => by simp only [dancestudioref11_Check.l1] <;> exact rfl) (ev_neg (by omega) (ev_now _))
  | succ d ih =>
    intro i hi
    have hlt : i < c.length := by omega
    refine ev_step (fun k => by simp only [dancestudioref11_Check.l1] <;> exact rfl) ?_
    refine ev_pos (by omega) ?_
    have hrow : c[i].length = c.length := by
      have := (List.all_eq_true.mp hl) c[i] (List.getElem_mem hlt)
      simpa [lenOk] using this
    have nxt := ih (i + 1) (by omega)
    have := rchk_l2 c hn i hlt hrow _ (by rw [w64 (by omega) (by omega)]; exact nxt) c.length 0 (by omega)
    rw [List.drop_zero] at this
    refine ev_eq this ?_
    rw [all_drop _ _ hlt]
    by_cases h : c[i].all valOk = true
    · rw [if_pos h, h, Bool.true_and]
    · rw [if_neg h]
      have e : c[i].all valOk = false := by simpa using h
      rw [e, Bool.false_and, if_neg (by simp)]
theorem rchk_l0 (c : List (List Int)) (hn : c.length ≤ 16) (R : Int) (hR : c.all (lenOk c.length) = true → Ev (fun k => dancestudioref11_Check.l1 k c 0) R) (d : Nat) : ∀ i : Nat, i + d = c.length →
    ((c.take i).all (lenOk c.length) = true) → Ev (fun k => dancestudioref11_Check.l0 k c (i : Int)) (if c.all (lenOk c.length) = true then R else 2) := by
  induction d with
  | zero =>
    intro i hi hp
    rw [List.take_of_length_le (by omega)] at hp
    rw [if_pos hp]
    exact ev_step (fun k => by simp only [dancestudioref11_Check.l0] <;> exact rfl) (ev_neg (by omega) (hR hp))
  | succ d ih =>
    intro i hi hp
    have hlt : i < c.length := by omega
    refine ev_step (fun k => by simp only [dancestudioref11_Check.l0] <;> exact rfl) ?_
    refine ev_pos (by omega) (ev_pos (by omega) ?_)
    rw [rdL_nat c hlt]
    by_cases h : c[i].length = c.length
    · refine ev_pos (by omega) ?_
      rw [w64 (by omega) (by omega)]
      have := ih (i + 1) (by omega) (by rw [List.take_succ_eq_append_getElem hlt, List.all_append, hp]; simp [lenOk, h])
      simpa using this
    · refine ev_neg (by omega) ?_
      rw [if_neg]
      · exact ev_now _
      · intro hh
        have := (List.all_eq_true.mp hh) c[i] (List.getElem_mem hlt)
        exact h (by simpa [lenOk] using this)
theorem racheck_ev (c : List (List Int)) : Ev (fun k => dancestudioref11_Check.f k c) (chk c) := by
  unfold chk
  simp only [dancestudioref11_Check.f]
  by_cases h : c.length > 16
  · rw [if_pos h]; exact ev_pos (by omega) (ev_now _)
  · rw [if_neg h]
    refine ev_neg (by omega) ?_
    have := rchk_l0 c (by omega) _ (fun hl => by have := rchk_l1 c (by omega) hl c.length 0 (by omega); rw [List.drop_zero] at this; exact this) c.length 0 (by omega) (by simp)
    exact this
/-- What a valid table is. -/
theorem chk_zero {c : List (List Int)} (h : chk c = 0) : c.length ≤ 16 ∧ (∀ r ∈ c, r.length = c.length) ∧ ∀ r ∈ c, ∀ x ∈ r, 0 ≤ x ∧ x ≤ 1099511627776 := by
  unfold chk at h
  by_cases h1 : c.length > 16
  · rw [if_pos h1] at h; omega
  · rw [if_neg h1] at h
    by_cases h2 : c.all (lenOk c.length) = true
    · rw [if_pos h2] at h
      by_cases h3 : c.all (fun r => r.all valOk) = true
      · refine ⟨by omega, fun r hr => ?_, fun r hr x hx => ?_⟩
        · have := (List.all_eq_true.mp h2) r hr; simpa [lenOk] using this
        · have := (List.all_eq_true.mp ((List.all_eq_true.mp h3) r hr)) x hx; exact valOk_iff.mp this
      · rw [if_neg h3] at h; omega
    · rw [if_neg h2] at h; omega
theorem chk_of {c : List (List Int)} (h1 : c.length ≤ 16) (h2 : ∀ r ∈ c, r.length = c.length) (h3 : ∀ r ∈ c, ∀ x ∈ r, 0 ≤ x ∧ x ≤ 1099511627776) : chk c = 0 := by
  unfold chk
  rw [if_neg (by omega), if_pos (List.all_eq_true.mpr fun r hr => by simp [lenOk, h2 r hr]), if_pos (List.all_eq_true.mpr fun r hr => List.all_eq_true.mpr fun x hx => valOk_iff.mpr (h3 r hr x hx))]
end Go.Proofs.YtaggccbndmmbhaaDoor.PAll
/- What the improvement of an assignment by one row does: prices stay proofs, and the row gets a column. -/
namespace Go.Proofs.YtaggccbndmmbhaaDoor.PAll
set_option linter.unusedVariables false
open Go Go.RowKit Go.Proofs.YtaggccbndmmbhaaDoorW.PrintWords Go.Proofs.YtaggccbndmmbhaaDoorW.PrintLast Go.Proofs.YtaggccbndmmbhaaDoorW.PrintMore Go.Proofs.YtaggccbndmmbhaaDoor.MathNum Go.Proofs.YtaggccbndmmbhaaDoor.EvWords

/-- The cost of row r and column j, both from 1 on. -/
def M (c : List (List Int)) (r j : Int) : Int := rd (rd_L2 c (r - 1)) (j - 1)
/-- A valid table. -/
structure Tab (c : List (List Int)) (n : Int) : Prop where
  len : (c.length : Int) = n
  le : n ≤ 16
  row : ∀ r, 1 ≤ r → r ≤ n → ((rd_L2 c (r - 1)).length : Int) = n
  lo : ∀ r j, 1 ≤ r → r ≤ n → 1 ≤ j → j ≤ n → 0 ≤ M c r j
  hi : ∀ r j, 1 ≤ r → r ≤ n → 1 ≤ j → j ≤ n → M c r j ≤ 1099511627776

theorem tab_of {c : List (List Int)} (h : chk c = 0) : Tab c c.length := by
  obtain ⟨h1, h2, h3⟩ := chk_zero h
  have hr : ∀ r : Int, 1 ≤ r → r ≤ c.length → rd_L2 c (r - 1) ∈ c := by
    intro r a b
    obtain ⟨m, hm⟩ := Int.eq_ofNat_of_zero_le (show 0 ≤ r - 1 by omega)
    rw [hm, rdL_nat c (by omega)]; exact List.getElem_mem _
  have hv : ∀ r j : Int, 1 ≤ r → r ≤ c.length → 1 ≤ j → j ≤ c.length → M c r j ∈ rd_L2 c (r - 1) := by
    intro r j a b e f
    have hl := h2 _ (hr r a b)
    unfold M
    obtain ⟨m, hm⟩ := Int.eq_ofNat_of_zero_le (show 0 ≤ j - 1 by omega)
    rw [hm, rd_nat _ (by omega)]; exact List.getElem_mem _
  exact ⟨rfl, by omega, fun r a b => by rw [h2 _ (hr r a b)], fun r j a b e f => (h3 _ (hr r a b) _ (hv r j a b e f)).1, fun r j a b e f => (h3 _ (hr r a b) _ (hv r j a b e f)).2⟩

theorem pigeon (n : Nat) : ∀ (m : Nat) (f : Nat → Nat), (∀ a, a < n → f a < m) → (∀ a b, a < n → b < n → f a = f b → a = b) → n ≤ m := by
  induction n with
  | zero => intro m f _ _; omega
  | succ n ih =>
    intro m f h1 h2
    have hm : 0 < m := by have := h1 0 (by omega); omega
    have := ih (m - 1) (fun a => if f a = m - 1 then f n else f a) (fun a ha => by
      have a1 := h1 a (by omega)
      have a2 := h1 n (by omega)
      by_cases e : f a = m - 1
      · rw [if_pos e]
        have : f n ≠ m - 1 := fun e2 => by have := h2 a n (by omega) (by omega) (by omega); omega
        omega
      · rw [if_neg e]; omega) (fun a b ha hb e => by
      by_cases e1 : f a = m - 1 <;> by_cases e2 : f b = m - 1
      · exact h2 a b (by omega) (by omega) (by omega)
      · rw [if_pos e1, if_neg e2] at e
        have := h2 n b (by omega) (by omega) e; omega
      · rw [if_neg e1, if_pos e2] at e
        have := h2 a n (by omega) (by omega) e; omega
      · rw [if_neg e1, if_neg e2] at e
        exact h2 a b (by omega) (by omega) e)
    omega

/-- Rows 1 to i have columns; prices prove that they are least. -/
structure Dual (c : List (List Int)) (n i : Int) (U V O : List Int) : Prop where
  lu : (U.length : Int) = n + 1
  lv : (V.length : Int) = n + 1
  lo : (O.length : Int) = n + 1
  feas : ∀ r j, 1 ≤ r → r ≤ n → 1 ≤ j → j ≤ n → rd U r + rd V j ≤ M c r j
  tight : ∀ j, 1 ≤ j → j ≤ n → rd O j ≠ 0 → rd U (rd O j) + rd V j = M c (rd O j) j
  vneg : ∀ j, 1 ≤ j → j ≤ n → rd V j ≤ 0
  free : ∀ j, 1 ≤ j → j ≤ n → rd O j = 0 → rd V j = 0
  rng : ∀ j, 1 ≤ j → j ≤ n → 0 ≤ rd O j ∧ rd O j ≤ i
  inj : ∀ j j', 1 ≤ j → j ≤ n → 1 ≤ j' → j' ≤ n → rd O j = rd O j' → rd O j ≠ 0 → j = j'
  cov : ∀ r, 1 ≤ r → r ≤ i → ∃ j, 1 ≤ j ∧ j ≤ n ∧ rd O j = r
  ulo : ∀ r, 1 ≤ r → r ≤ n → 0 ≤ rd U r
  uhi : ∀ r, 1 ≤ r → r ≤ n → rd U r ≤ 1099511627776

theorem free_col {n i : Int} {O : List Int} (hn : 0 ≤ n) (hi : i < n) (hi0 : 0 ≤ i) (rng : ∀ j, 1 ≤ j → j ≤ n → 0 ≤ rd O j ∧ rd O j ≤ i)
    (inj : ∀ j j', 1 ≤ j → j ≤ n → 1 ≤ j' → j' ≤ n → rd O j = rd O j' → rd O j ≠ 0 → j = j') : ∃ j, 1 ≤ j ∧ j ≤ n ∧ rd O j = 0 := by
  apply Classical.byContradiction
  intro hno
  have hall : ∀ j, 1 ≤ j → j ≤ n → rd O j ≠ 0 := fun j a b e => hno ⟨j, a, b, e⟩
  have := pigeon n.toNat i.toNat (fun a => (rd O ((a : Int) + 1)).toNat - 1) (fun a ha => by
    have r := rng ((a : Int) + 1) (by omega) (by omega)
    have z := hall ((a : Int) + 1) (by omega) (by omega)
    show _ - 1 < _
    omega) (fun a b ha hb e => by
    have r1 := rng ((a : Int) + 1) (by omega) (by omega)
    have r2 := rng ((b : Int) + 1) (by omega) (by omega)
    have z1 := hall ((a : Int) + 1) (by omega) (by omega)
    have z2 := hall ((b : Int) + 1) (by omega) (by omega)
    have e' : (rd O ((a : Int) + 1)).toNat - 1 = (rd O ((b : Int) + 1)).toNat - 1 := e
    have := inj ((a : Int) + 1) ((b : Int) + 1) (by omega) (by omega) (by omega) (by omega) (by omega) z1
    omega)
  omega

/-- Seen columns, the last one first: each but 0 was come to from one that was seen before it. -/
inductive Chain (F : List Int) : List Int → Prop
  | base : Chain F [0]
  | step {j : Int} {t : List Int} : j ≠ 0 → j ∉ t → rd F j ∈ t → Chain F t → Chain F (j :: t)

theorem Chain.suffix {F : List Int} {a b : List Int} {j : Int} (h : Chain F (a ++ j :: b)) : Chain F (j :: b) := by
  induction a with
  | nil => exact h
  | cons x a ih =>
    cases a with
    | nil =>
      rw [List.nil_append] at ih
      cases h with
      | step _ _ _ h => exact h
    | cons y a =>
      cases h with
      | step _ _ _ h => exact ih h
theorem Chain.has_zero {F : List Int} {t : List Int} (h : Chain F t) : (0 : Int) ∈ t := by
  induction h with
  | base => simp
  | step _ _ _ _ ih => exact List.mem_cons_of_mem _ ih
theorem Chain.congr {F G : List Int} {t : List Int} (h : Chain F t) (e : ∀ j ∈ t, j ≠ 0 → rd G j = rd F j) : Chain G t := by
  induction h with
  | base => exact Chain.base
  | step h0 h1 h2 _ ih => exact Chain.step h0 h1 (by rw [e _ (List.mem_cons_self) h0]; exact h2) (ih fun j hj hz => e j (List.mem_cons_of_mem _ hj) hz)

/-- Behind the search: the column a is a hole; the columns on the way back get each other's rows. -/
structure Back (c : List (List Int)) (n i : Int) (U V O F : List Int) (a : Int) (t : List Int) : Prop where
  lo : (O.length : Int) = n + 1
  lf : (F.length : Int) = n + 1
  ch : Chain F (a :: t)
  rgt : ∀ j ∈ a :: t, 0 ≤ j ∧ j ≤ n
  rng : ∀ j, 0 ≤ j → j ≤ n → 0 ≤ rd O j ∧ rd O j ≤ i
  inj : ∀ j j', 0 ≤ j → j ≤ n → 0 ≤ j' → j' ≤ n → j ≠ a → j' ≠ a → rd O j = rd O j' → rd O j ≠ 0 → j = j'
  cov : ∀ r, 1 ≤ r → r ≤ i → ∃ j, 0 ≤ j ∧ j ≤ n ∧ j ≠ a ∧ rd O j = r
  tight : ∀ j, 1 ≤ j → j ≤ n → j ≠ a → rd O j ≠ 0 → rd U (rd O j) + rd V j = M c (rd O j) j
  cht : ∀ j ∈ a :: t, j ≠ 0 → rd U (rd O (rd F j)) + rd V j = M c (rd O (rd F j)) j
  occ : ∀ j ∈ t, rd O j ≠ 0
  free : ∀ j, 1 ≤ j → j ≤ n → j ≠ a → rd O j = 0 → rd V j = 0

theorem back_ev {c : List (List Int)} {n i : Int} {U V F : List Int} (hn : 0 ≤ n) (m : Nat) : ∀ (O : List Int) (a : Int) (t : List Int), t.length = m → Back c n i U V O F a t →
    ∃ O', Ev (fun k => assign_solved_add.l4 k U V O F a) (U, V, O') ∧ (O'.length : Int) = n + 1 ∧ (∀ j, 0 ≤ j → j ≤ n → 0 ≤ rd O' j ∧ rd O' j ≤ i) ∧
      (∀ j j', 1 ≤ j → j ≤ n → 1 ≤ j' → j' ≤ n → rd O' j = rd O' j' → rd O' j ≠ 0 → j = j') ∧ (∀ r, 1 ≤ r → r ≤ i → ∃ j, 1 ≤ j ∧ j ≤ n ∧ rd O' j = r) ∧
      (∀ j, 1 ≤ j → j ≤ n → rd O' j ≠ 0 → rd U (rd O' j) + rd V j = M c (rd O' j) j) ∧ (∀ j, 1 ≤ j → j ≤ n → rd O' j = 0 → rd V j = 0) := by
  induction m using Nat.strongRecOn with
  | _ m ih =>
  intro O a t hm B
  by_cases h0 : a = 0
  · subst h0
    refine ⟨O, ?_, B.lo, B.rng, fun j j' a1 a2 b1 b2 e z => B.inj j j' (by omega) a2 (by omega) b2 (by omega) (by omega) e z, fun r h1 h2 => ?_, fun j a1 a2 z => B.tight j a1 a2 (by omega) z, fun j a1 a2 z => B.free j a1 a2 (by omega) z⟩
    · exact ev_step (fun k => by simp only [assign_solved_add.l4] <;> exact rfl) (ev_pos (show (0 : Int) = 0 from rfl) (ev_now _))
    · obtain ⟨j, x, y, z, e⟩ := B.cov r h1 h2
      exact ⟨j, by omega, y, e⟩
  · have hc := B.ch
    have ha := B.rgt a (List.mem_cons_self)
    have lo := B.lo
    have lf := B.lf
    obtain ⟨hz, hnot, hf, hct⟩ : a ≠ 0 ∧ a ∉ t ∧ rd F a ∈ t ∧ Chain F t := by
      cases hc with
      | base => exact absurd rfl h0
      | step a1 a2 a3 a4 => exact ⟨a1, a2, a3, a4⟩
    obtain ⟨p, t2, ht⟩ := List.append_of_mem hf
    have hfr := B.rgt (rd F a) (List.mem_cons_of_mem _ hf)
    have hfa : rd F a ≠ a := fun e => hnot (e ▸ hf)
    have hfo := B.occ _ hf
    have hset : ∀ j, 0 ≤ j → rd (O.set a.toNat (rd O (rd F a))) j = if j = a then rd O (rd F a) else rd O j := fun j hj => rd_set (by omega) (by omega) hj
    have hsub : ∀ j ∈ rd F a :: t2, j ∈ t := fun j hj => by rw [ht]; exact List.mem_append_right _ hj
    have nb : Back c n i U V (O.set a.toNat (rd O (rd F a))) F (rd F a) t2 := by
      refine ⟨by rw [List.length_set]; exact lo, lf, ?_, fun j hj => B.rgt j (List.mem_cons_of_mem _ (hsub j hj)), fun j a1 a2 => ?_, fun j j' a1 a2 b1 b2 n1 n2 e z => ?_, fun r h1 h2 => ?_, fun j a1 a2 n1 z => ?_, fun j hj hz => ?_, fun j hj => ?_, fun j a1 a2 n1 z => ?_⟩
      · rw [ht] at hct; exact hct.suffix
      · rw [hset j a1]
        split
        · exact B.rng _ hfr.1 hfr.2
        · exact B.rng j a1 a2
      · rw [hset j a1] at e z
        rw [hset j' b1] at e
        by_cases e1 : j = a <;> by_cases e2 : j' = a
        · omega
        · rw [if_pos e1] at e z
          rw [if_neg e2] at e
          exact absurd (B.inj (rd F a) j' hfr.1 hfr.2 b1 b2 hfa e2 e z) (fun h => n2 h.symm)
        · rw [if_neg e1] at e z
          rw [if_pos e2] at e
          exact absurd (B.inj j (rd F a) a1 a2 hfr.1 hfr.2 e1 hfa e z) n1
        · rw [if_neg e1] at e z
          rw [if_neg e2] at e
          exact B.inj j j' a1 a2 b1 b2 e1 e2 e z
      · obtain ⟨j, x, y, z, e⟩ := B.cov r h1 h2
        by_cases e1 : j = rd F a
        · exact ⟨a, ha.1, ha.2, fun h => hfa h.symm, by rw [hset a ha.1, if_pos rfl, ← e1]; exact e⟩
        · exact ⟨j, x, y, e1, by rw [hset j x, if_neg z]; exact e⟩
      · rw [hset j (by omega)] at z ⊢
        by_cases e1 : j = a
        · subst e1
          rw [if_pos rfl]
          exact B.cht j (List.mem_cons_self) h0
        · rw [if_neg e1] at z ⊢
          exact B.tight j a1 a2 e1 z
      · have hjt := hsub j hj
        have hjc : rd F j ∈ t := by
          have hs : Chain F (rd F a :: t2) := by rw [ht] at hct; exact hct.suffix
          have : rd F j ∈ rd F a :: t2 := by
            clear ih B hset hsub
            generalize rd F a :: t2 = q at hs hj
            induction hs with
            | base => simp at hj; exact absurd hj hz
            | step s0 s1 s2 s3 ih =>
              rcases List.mem_cons.1 hj with rfl | hj
              · exact List.mem_cons_of_mem _ s2
              · exact List.mem_cons_of_mem _ (ih hj)
          exact hsub _ this
        have hr := B.rgt _ (List.mem_cons_of_mem _ hjc)
        have hne : rd F j ≠ a := fun e => hnot (e ▸ hjc)
        rw [hset _ hr.1, if_neg hne]
        exact B.cht j (List.mem_cons_of_mem _ hjt) hz
      · have hjt := hsub j (List.mem_cons_of_mem _ hj)
        have hne : j ≠ a := fun e => hnot (e ▸ hjt)
        rw [hset j (B.rgt j (List.mem_cons_of_mem _ hjt)).1, if_neg hne]
        exact B.occ j hjt
      · rw [hset j (by omega)] at z
        by_cases e1 : j = a
        · rw [if_pos e1] at z; exact absurd z hfo
        · rw [if_neg e1] at z; exact B.free j a1 a2 e1 z
    have hlen : t2.length < m := by rw [← hm, ht]; simp; omega
    obtain ⟨O', e, r⟩ := ih t2.length hlen _ _ _ rfl nb
    refine ⟨O', ?_, r⟩
    refine ev_step (fun k => by simp only [assign_solved_add.l4] <;> exact rfl) ?_
    exact ev_neg h0 (ev_pos (by omega) (ev_pos (by omega) (ev_pos (by omega) (ev_pos (by omega) (ev_pos (by omega) e)))))
end Go.Proofs.YtaggccbndmmbhaaDoor.PAll
/- The search of the improvement: its loops, and what they leave. -/
namespace Go.Proofs.YtaggccbndmmbhaaDoor.PAll
set_option linter.unusedVariables false
open Go Go.RowKit Go.Proofs.YtaggccbndmmbhaaDoorW.PrintWords Go.Proofs.YtaggccbndmmbhaaDoorW.PrintLast Go.Proofs.YtaggccbndmmbhaaDoorW.PrintMore Go.Proofs.YtaggccbndmmbhaaDoor.MathNum Go.Proofs.YtaggccbndmmbhaaDoor.EvWords

theorem M_eq {c : List (List Int)} {r j : Int} : rd (rd_L2 c (r - 1)) (j - 1) = M c r j := rfl
attribute [local irreducible] rd M rdOf

theorem nodup_len (m : Nat) : ∀ t : List Int, t.Nodup → (∀ j ∈ t, 0 ≤ j ∧ j < m) → t.length ≤ m := by
  induction m with
  | zero =>
    intro t _ h
    cases t with
    | nil => simp
    | cons a t => have := h a (List.mem_cons_self); omega
  | succ m ih =>
    intro t hd h
    by_cases hm : (m : Int) ∈ t
    · have := ih (t.erase (m : Int)) (hd.erase _) (fun j hj => by
        rw [hd.mem_erase_iff] at hj
        have := h j hj.2; omega)
      rw [List.length_erase_of_mem hm] at this
      omega
    · have := ih t hd (fun j hj => by have := h j hj; have : j ≠ m := fun e => hm (e ▸ hj); omega)
      omega
theorem Chain.nodup {F : List Int} {t : List Int} (h : Chain F t) : t.Nodup := by
  induction h with
  | base => simp
  | step _ h1 _ _ ih => exact List.nodup_cons.2 ⟨h1, ih⟩

/-- The state of the search ahead of the column a; t: the columns that were seen. -/
structure Ph (c : List (List Int)) (n i : Int) (U V O F L : List Int) (S : List Bool) (a : Int) (t : List Int) : Prop where
  lu : (U.length : Int) = n + 1
  lv : (V.length : Int) = n + 1
  lo : (O.length : Int) = n + 1
  lf : (F.length : Int) = n + 1
  ll : (L.length : Int) = n + 1
  ls : (S.length : Int) = n + 1
  i1 : 1 ≤ i
  i2 : i ≤ n
  o0 : rd O 0 = i
  feas : ∀ r j, 1 ≤ r → r ≤ n → 1 ≤ j → j ≤ n → rd U r + rd V j ≤ M c r j
  tight : ∀ j, 1 ≤ j → j ≤ n → rd O j ≠ 0 → rd U (rd O j) + rd V j = M c (rd O j) j
  vneg : ∀ j, 1 ≤ j → j ≤ n → rd V j ≤ 0
  free : ∀ j, 1 ≤ j → j ≤ n → rd O j = 0 → rd V j = 0
  rng : ∀ j, 1 ≤ j → j ≤ n → 0 ≤ rd O j ∧ rd O j ≤ i - 1
  inj : ∀ j j', 1 ≤ j → j ≤ n → 1 ≤ j' → j' ≤ n → rd O j = rd O j' → rd O j ≠ 0 → j = j'
  cov : ∀ r, 1 ≤ r → r ≤ i - 1 → ∃ j, 1 ≤ j ∧ j ≤ n ∧ rd O j = r
  ulo : ∀ r, 1 ≤ r → r ≤ n → 0 ≤ rd U r
  seen : ∀ j, 0 ≤ j → j ≤ n → (rdOf false S j = true ↔ j ∈ t)
  rgt : ∀ j ∈ a :: t, 0 ≤ j ∧ j ≤ n
  occ : ∀ j ∈ a :: t, rd O j ≠ 0
  ch : Chain F (a :: t)
  cht : ∀ j ∈ a :: t, j ≠ 0 → rd U (rd O (rd F j)) + rd V j = M c (rd O (rd F j)) j
  least : ∀ j, 1 ≤ j → j ≤ n → j ∉ t → (t = [] ∧ rd L j = 1152921504606846976) ∨
    (rd F j ∈ t ∧ rd L j = M c (rd O (rd F j)) j - rd U (rd O (rd F j)) - rd V j ∧ ∀ s ∈ t, rd L j ≤ M c (rd O s) j - rd U (rd O s) - rd V j)

section
variable {c : List (List Int)} {n i : Int} {U V O F L : List Int} {S : List Bool} {a : Int} {t : List Int}

theorem Ph.freeCol (_ : Tab c n) (P : Ph c n i U V O F L S a t) : ∃ j, 1 ≤ j ∧ j ≤ n ∧ rd O j = 0 :=
  free_col (by have := P.i1; have := P.i2; omega) (i := i - 1) (by have := P.i2; omega) (by have := P.i1; omega) P.rng P.inj
theorem Ph.uhi (T : Tab c n) (P : Ph c n i U V O F L S a t) {r : Int} (h1 : 1 ≤ r) (h2 : r ≤ n) : rd U r ≤ 1099511627776 := by
  obtain ⟨j, x, y, z⟩ := P.freeCol T
  have f := P.feas r j h1 h2 x y
  have v := P.free j x y z
  have m := T.hi r j h1 h2 x y
  omega
theorem Ph.row (P : Ph c n i U V O F L S a t) {s : Int} (hs : s ∈ a :: t) : 1 ≤ rd O s ∧ rd O s ≤ n := by
  have r := P.rgt s hs
  have o := P.occ s hs
  have i1 := P.i1
  have i2 := P.i2
  by_cases h : s = 0
  · subst h; rw [P.o0]; omega
  · have := P.rng s (by omega) r.2; omega
theorem Ph.vlo (T : Tab c n) (P : Ph c n i U V O F L S a t) {j : Int} (h1 : 1 ≤ j) (h2 : j ≤ n) : -1099511627776 ≤ rd V j := by
  by_cases h : rd O j = 0
  · have := P.free j h1 h2 h; omega
  · have g := P.tight j h1 h2 h
    have r := P.rng j h1 h2
    have i2 := P.i2
    have u := P.uhi T (r := rd O j) (by omega) (by omega)
    have m := T.lo (rd O j) j (by omega) (by omega) h1 h2
    omega
/-- Rows of different seen columns are different. -/
theorem Ph.rowInj (P : Ph c n i U V O F L S a t) {s s' : Int} (hs : s ∈ a :: t) (h1 : 0 ≤ s') (h2 : s' ≤ n) (e : rd O s = rd O s') : s = s' := by
  have r := P.rgt s hs
  have o := P.occ s hs
  have i1 := P.i1
  by_cases h : s = 0
  · by_cases h' : s' = 0
    · omega
    · have := P.rng s' (by omega) h2
      rw [h, P.o0] at e; omega
  · by_cases h' : s' = 0
    · have := P.rng s (by omega) r.2
      rw [h', P.o0] at e; omega
    · exact P.inj s s' (by omega) r.2 (by omega) h2 e o

/-- What the loop over the columns has done ahead of column j. -/
structure L2 (c : List (List Int)) (n : Int) (U V O F0 L0 : List Int) (a : Int) (t : List Int) (F L : List Int) (x d j : Int) : Prop where
  lf : (F.length : Int) = n + 1
  ll : (L.length : Int) = n + 1
  fs : ∀ s ∈ a :: t, rd F s = rd F0 s
  done : ∀ q, 1 ≤ q → q < j → q ≤ n → q ∉ a :: t → rd F q ∈ a :: t ∧ rd L q = M c (rd O (rd F q)) q - rd U (rd O (rd F q)) - rd V q ∧ ∀ s ∈ a :: t, rd L q ≤ M c (rd O s) q - rd U (rd O s) - rd V q
  todo : ∀ q, 1 ≤ q → j ≤ q → q ≤ n → q ∉ a :: t → rd F q = rd F0 q ∧ rd L q = rd L0 q
  best : (d = 1152921504606846976 ∧ ∀ q, 1 ≤ q → q < j → q ≤ n → q ∈ a :: t) ∨ (1 ≤ x ∧ x < j ∧ x ≤ n ∧ x ∉ a :: t ∧ d = rd L x ∧ ∀ q, 1 ≤ q → q < j → q ≤ n → q ∉ a :: t → d ≤ rd L q)

set_option maxHeartbeats 4000000 in
theorem l2_ev (T : Tab c n) (P : Ph c n i U V O F L S a t) (Q : List Int × List Int × List Int → Prop)
    (hK : ∀ F' L' x d, L2 c n U V O F L a t F' L' x d (n + 1) → ∃ R, Ev (fun k => assign_solved_add.l3 k U c V O n F' L' (S.set a.toNat true) x d (wrap64 (n + 1)) 0) R ∧ Q R)
    (m : Nat) : ∀ (j : Int) (F' L' : List Int) (x d : Int), 1 ≤ j → j + m = n + 1 → L2 c n U V O F L a t F' L' x d j →
      ∃ R, Ev (fun k => assign_solved_add.l2 k U c V O n F' L' (S.set a.toNat true) a (rd O a) x d j) R ∧ Q R := by
  have hn := T.le
  have ha := P.rgt a (List.mem_cons_self)
  have hra := P.row (s := a) (List.mem_cons_self)
  have hsn : ∀ q, 0 ≤ q → q ≤ n → (rdOf false (S.set a.toNat true) q = true ↔ q ∈ a :: t) := by
    intro q h1 h2
    rw [rdB_set ha.1 (by have := P.ls; omega) h1]
    by_cases e : q = a
    · rw [if_pos e, e]; simp
    · rw [if_neg e, P.seen q h1 h2]; simp [e]
  induction m with
  | zero =>
    intro j F' L' x d h1 hm H
    have hj : j = n + 1 := by omega
    subst hj
    obtain ⟨R, e, q⟩ := hK F' L' x d H
    exact ⟨R, ev_step (fun k => by simp only [assign_solved_add.l2] <;> exact rfl) (ev_neg (by omega) e), q⟩
  | succ m ih =>
    intro j F' L' x d h1 hm H
    have lf := H.lf
    have ll := H.ll
    have ls := P.ls
    have lu := P.lu
    have lv := P.lv
    have hlen : ((S.set a.toNat true).length : Int) = n + 1 := by rw [List.length_set]; exact ls
    by_cases hs : j ∈ a :: t
    · have H' : L2 c n U V O F L a t F' L' x d (j + 1) := by
        refine ⟨lf, ll, H.fs, fun q a1 a2 a3 a4 => ?_, fun q a1 a2 a3 a4 => H.todo q a1 (by omega) a3 a4, ?_⟩
        · exact H.done q a1 (by have : q ≠ j := fun e => a4 (e ▸ hs); omega) a3 a4
        · rcases H.best with ⟨b1, b2⟩ | ⟨b1, b2, b3, b4, b5, b6⟩
          · exact Or.inl ⟨b1, fun q a1 a2 a3 => by by_cases e : q = j; exact e ▸ hs; exact b2 q a1 (by omega) a3⟩
          · exact Or.inr ⟨b1, by omega, b3, b4, b5, fun q a1 a2 a3 a4 => b6 q a1 (by have : q ≠ j := fun e => a4 (e ▸ hs); omega) a3 a4⟩
      obtain ⟨R, e, q⟩ := ih (j + 1) F' L' x d (by omega) (by omega) H'
      refine ⟨R, ev_step (fun k => by simp only [assign_solved_add.l2] <;> exact rfl) ?_, q⟩
      refine ev_pos (by omega) (ev_pos (by omega) (ev_pos (by omega) (ev_pos ((hsn j (by omega) (by omega)).2 hs) ?_)))
      rw [w64 (by omega) (by omega)]; exact e
    · -- an unseen column
      have hf := P.feas (rd O a) j hra.1 hra.2 h1 (by omega)
      have u0 := P.ulo (rd O a) hra.1 hra.2
      have u1 := P.uhi T hra.1 hra.2
      have v0 := P.vneg j h1 (by omega)
      have v1 := P.vlo T h1 (show j ≤ n by omega)
      have m0 := T.lo (rd O a) j hra.1 hra.2 h1 (by omega)
      have m1 := T.hi (rd O a) j hra.1 hra.2 h1 (by omega)
      have hrow := T.row (rd O a) hra.1 hra.2
      have hlenc := T.len
      obtain ⟨t1, t2⟩ := H.todo j h1 (by omega) (by omega) hs
      have hd : wrap64 (wrap64 (rd (rd_L2 c (rd O a - 1)) (j - 1) - rd U (rd O a)) - rd V j) = M c (rd O a) j - rd U (rd O a) - rd V j := by
        rw [M_eq, w64 (n := M c (rd O a) j - rd U (rd O a)) (by omega) (by omega), w64 (by omega) (by omega)]
      -- what is left behind column j, whichever way
      have key : ∀ F1 L1 : List Int, (F1.length : Int) = n + 1 → (L1.length : Int) = n + 1 → (∀ q, 0 ≤ q → q ≠ j → rd F1 q = rd F' q ∧ rd L1 q = rd L' q) →
          (rd F1 j ∈ a :: t ∧ rd L1 j = M c (rd O (rd F1 j)) j - rd U (rd O (rd F1 j)) - rd V j ∧ ∀ s ∈ a :: t, rd L1 j ≤ M c (rd O s) j - rd U (rd O s) - rd V j) →
          ∃ R, Ev (fun k => assign_solved_add.j3 k U c V O n F1 L1 (S.set a.toNat true) a (rd O a) x d j) R ∧ Q R := by
        intro F1 L1 lf1 ll1 same dn
        have hsame : ∀ s ∈ a :: t, rd F1 s = rd F s := fun s hs' => by
          have := P.rgt s hs'
          rw [(same s this.1 (fun e => hs (e ▸ hs'))).1]; exact H.fs s hs'
        have hdone : ∀ q, 1 ≤ q → q < j + 1 → q ≤ n → q ∉ a :: t → rd F1 q ∈ a :: t ∧ rd L1 q = M c (rd O (rd F1 q)) q - rd U (rd O (rd F1 q)) - rd V q ∧ ∀ s ∈ a :: t, rd L1 q ≤ M c (rd O s) q - rd U (rd O s) - rd V q := by
          intro q a1 a2 a3 a4
          by_cases e : q = j
          · subst e; exact dn
          · have := same q (by omega) e
            rw [this.1, this.2]; exact H.done q a1 (by omega) a3 a4
        have htodo : ∀ q, 1 ≤ q → j + 1 ≤ q → q ≤ n → q ∉ a :: t → rd F1 q = rd F q ∧ rd L1 q = rd L q := by
          intro q a1 a2 a3 a4
          have := same q (by omega) (by omega)
          rw [this.1, this.2]; exact H.todo q a1 (by omega) a3 a4
        have hb := dn.2.2 a (List.mem_cons_self)
        have hl1 : rd L1 j < 1152921504606846976 := by omega
        by_cases hlt : rd L1 j < d
        · obtain ⟨R, e, q⟩ := ih (j + 1) F1 L1 j (rd L1 j) (by omega) (by omega) ⟨lf1, ll1, hsame, hdone, htodo, Or.inr ⟨h1, by omega, by omega, hs, rfl, fun q a1 a2 a3 a4 => by
            by_cases e : q = j
            · subst e; omega
            · rcases H.best with ⟨b1, b2⟩ | ⟨b1, b2, b3, b4, b5, b6⟩
              · exact absurd (b2 q a1 (by omega) a3) a4
              · have := b6 q a1 (by omega) a3 a4
                rw [(same q (by omega) e).2]; omega⟩⟩
          refine ⟨R, ev_step (fun k => by simp only [assign_solved_add.j3] <;> exact rfl) ?_, q⟩
          refine ev_pos (by omega) (ev_pos (by omega) (ev_pos hlt ?_))
          rw [w64 (by omega) (by omega)]; exact e
        · obtain ⟨R, e, q⟩ := ih (j + 1) F1 L1 x d (by omega) (by omega) ⟨lf1, ll1, hsame, hdone, htodo, by
            rcases H.best with ⟨b1, b2⟩ | ⟨b1, b2, b3, b4, b5, b6⟩
            · omega
            · refine Or.inr ⟨b1, by omega, b3, b4, by rw [(same x (by omega) (by omega)).2]; exact b5, fun q a1 a2 a3 a4 => ?_⟩
              by_cases e : q = j
              · subst e; omega
              · rw [(same q (by omega) e).2]; exact b6 q a1 (by omega) a3 a4⟩
          refine ⟨R, ev_step (fun k => by simp only [assign_solved_add.j3] <;> exact rfl) ?_, q⟩
          refine ev_pos (by omega) (ev_pos (by omega) (ev_neg hlt ?_))
          rw [w64 (by omega) (by omega)]; exact e
      have hold := P.least j h1 (by omega) (fun h => hs (List.mem_cons_of_mem _ h))
      obtain ⟨D, hD⟩ : ∃ D, D = M c (rd O a) j - rd U (rd O a) - rd V j := ⟨_, rfl⟩
      rw [← hD] at hd
      have go : ∃ R, Ev (fun k => if D < rd L' j then (if j < (F'.length : Int) then assign_solved_add.j3 k U c V O n (F'.set j.toNat a) (L'.set j.toNat D) (S.set a.toNat true) a (rd O a) x d j else none) else assign_solved_add.j3 k U c V O n F' L' (S.set a.toNat true) a (rd O a) x d j) R ∧ Q R := by
        by_cases hlt : D < rd L' j
        · have sf : ∀ q, 0 ≤ q → rd (F'.set j.toNat a) q = if q = j then a else rd F' q := fun q hq => rd_set (by omega) (by omega) hq
          have sl : ∀ q, 0 ≤ q → rd (L'.set j.toNat D) q = if q = j then D else rd L' q := fun q hq => rd_set (by omega) (by omega) hq
          have dn : rd (F'.set j.toNat a) j ∈ a :: t ∧ rd (L'.set j.toNat D) j = M c (rd O (rd (F'.set j.toNat a) j)) j - rd U (rd O (rd (F'.set j.toNat a) j)) - rd V j ∧ ∀ s ∈ a :: t, rd (L'.set j.toNat D) j ≤ M c (rd O s) j - rd U (rd O s) - rd V j := by
            rw [sf j (by omega), sl j (by omega), if_pos rfl, if_pos rfl]
            refine ⟨List.mem_cons_self, hD, fun s hs' => ?_⟩
            rcases List.mem_cons.1 hs' with rfl | hs'
            · omega
            · rcases hold with ⟨e, _⟩ | ⟨_, _, e⟩
              · rw [e] at hs'; exact absurd hs' (List.not_mem_nil)
              · have := e s hs'; omega
          obtain ⟨R, e, q⟩ := key (F'.set j.toNat a) (L'.set j.toNat D) (by rw [List.length_set]; exact lf) (by rw [List.length_set]; exact ll)
            (fun q hq hne => by rw [sf q hq, sl q hq, if_neg hne, if_neg hne]; exact ⟨rfl, rfl⟩) dn
          refine ⟨R, ?_, q⟩
          refine ev_pos hlt ?_
          refine ev_pos (by omega) ?_
          exact e
        · obtain ⟨R, e, q⟩ := key F' L' lf ll (fun q _ _ => ⟨rfl, rfl⟩) (by
            rcases hold with ⟨e, e2⟩ | ⟨e1, e2, e3⟩
            · omega
            · rw [t1, t2]
              refine ⟨List.mem_cons_of_mem _ e1, e2, fun s hs' => ?_⟩
              rcases List.mem_cons.1 hs' with rfl | hs'
              · omega
              · exact e3 s hs')
          exact ⟨R, ev_neg hlt e, q⟩
      obtain ⟨R, e, q⟩ := go
      refine ⟨R, ev_step (fun k => by simp only [assign_solved_add.l2] <;> exact rfl) ?_, q⟩
      refine ev_pos (by omega) (ev_pos (by omega) (ev_pos (by omega) (ev_neg (fun h => hs ((hsn j (by omega) (by omega)).1 h)) ?_)))
      rw [w64 (n := rd O a - 1) (by omega) (by omega), w64 (n := j - 1) (by omega) (by omega), hd]
      refine ev_pos (by omega) (ev_pos (by omega) (ev_pos (by omega) ?_))
      refine ev_pos (by omega) (ev_pos (by omega) (ev_pos (by omega) (ev_pos (by omega) (ev_pos (by omega) e))))
end
end Go.Proofs.YtaggccbndmmbhaaDoor.PAll
/- The change of the prices behind a column, and what stays true of them. -/
namespace Go.Proofs.YtaggccbndmmbhaaDoor.PAll
set_option linter.unusedVariables false
open Go Go.RowKit Go.Proofs.YtaggccbndmmbhaaDoorW.PrintWords Go.Proofs.YtaggccbndmmbhaaDoorW.PrintLast Go.Proofs.YtaggccbndmmbhaaDoorW.PrintMore Go.Proofs.YtaggccbndmmbhaaDoor.MathNum Go.Proofs.YtaggccbndmmbhaaDoor.EvWords
attribute [local irreducible] rd M rdOf

theorem Chain.mem_from {F t : List Int} (h : Chain F t) : ∀ {j : Int}, j ∈ t → j ≠ 0 → rd F j ∈ t := by
  induction h with
  | base => intro j hj z; exact absurd (List.mem_singleton.1 hj) z
  | step h0 h1 h2 _ ih =>
    intro j hj z
    rcases List.mem_cons.1 hj with rfl | hj
    · exact List.mem_cons_of_mem _ h2
    · exact List.mem_cons_of_mem _ (ih hj z)

/-- What the change of prices has done ahead of column m. -/
structure L3 (n : Int) (U V O L : List Int) (w : List Int) (d : Int) (U1 V1 L1 : List Int) (m : Int) : Prop where
  lu : (U1.length : Int) = n + 1
  lv : (V1.length : Int) = n + 1
  ll : (L1.length : Int) = n + 1
  u1 : ∀ s ∈ w, s < m → rd U1 (rd O s) = rd U (rd O s) + d
  u0 : ∀ r, 0 ≤ r → (∀ s ∈ w, s < m → rd O s ≠ r) → rd U1 r = rd U r
  v1 : ∀ j ∈ w, 1 ≤ j → j < m → rd V1 j = rd V j - d
  v0 : ∀ j, 1 ≤ j → (j < m → j ∉ w) → rd V1 j = rd V j
  l1 : ∀ j, 1 ≤ j → j < m → j ∉ w → rd L1 j = rd L j - d
  l0 : ∀ j, 0 ≤ j → m ≤ j → rd L1 j = rd L j

theorem L3.start {n d : Int} {U V O L w : List Int} (a : (U.length : Int) = n + 1) (b : (V.length : Int) = n + 1) (e : (L.length : Int) = n + 1) (hw : ∀ s ∈ w, 0 ≤ s) : L3 n U V O L w d U V L 0 :=
  ⟨a, b, e, fun s hs h => by have := hw s hs; omega, fun _ _ _ => rfl, fun j _ h1 h2 => by omega, fun _ _ _ => rfl, fun j h1 h2 => by omega, fun _ _ _ => rfl⟩

theorem L3.seen {n d m : Int} {U V O L w U1 V1 L1 : List Int} (H : L3 n U V O L w d U1 V1 L1 m) (hm0 : 0 ≤ m) (hm : m ≤ n) (hw : m ∈ w) (hr : ∀ s ∈ w, 0 ≤ rd O s ∧ rd O s ≤ n)
    (hinj : ∀ s ∈ w, ∀ s' ∈ w, rd O s = rd O s' → s = s') (x : Int) (hx : 1 ≤ m → x = rd V m - d) :
    L3 n U V O L w d (U1.set (rd O m).toNat (rd U (rd O m) + d)) (V1.set m.toNat x) L1 (m + 1) := by
  have lu := H.lu
  have lv := H.lv
  have rm := hr m hw
  have su : ∀ q, 0 ≤ q → rd (U1.set (rd O m).toNat (rd U (rd O m) + d)) q = if q = rd O m then rd U (rd O m) + d else rd U1 q := fun q hq => rd_set rm.1 (by omega) hq
  have sv : ∀ q, 0 ≤ q → rd (V1.set m.toNat x) q = if q = m then x else rd V1 q := fun q hq => rd_set hm0 (by omega) hq
  refine ⟨by rw [List.length_set]; exact lu, by rw [List.length_set]; exact lv, H.ll, fun s hs h => ?_, fun r h0 h => ?_, fun j hj h1 h2 => ?_, fun j h1 h2 => ?_, fun j h1 h2 h3 => ?_, fun j h1 h2 => H.l0 j h1 (by omega)⟩
  · rw [su _ (hr s hs).1]
    by_cases e : s = m
    · subst e; rw [if_pos rfl]
    · rw [if_neg (fun h => e (hinj s hs m hw h))]
      exact H.u1 s hs (by omega)
  · rw [su r h0, if_neg (fun e => h m hw (by omega) e.symm)]
    exact H.u0 r h0 (fun s hs hlt => h s hs (by omega))
  · rw [sv j (by omega)]
    by_cases e : j = m
    · subst e; rw [if_pos rfl]; exact hx h1
    · rw [if_neg e]; exact H.v1 j hj h1 (by omega)
  · rw [sv j (by omega), if_neg (fun e : j = m => h2 (by omega) (e ▸ hw))]
    exact H.v0 j h1 (fun h => h2 (by omega))
  · exact H.l1 j h1 (by have : j ≠ m := fun e => h3 (e ▸ hw); omega) h3
theorem L3.unseen {n d m : Int} {U V O L w U1 V1 L1 : List Int} (H : L3 n U V O L w d U1 V1 L1 m) (hm0 : 0 ≤ m) (hm : m ≤ n) (hw : m ∉ w) :
    L3 n U V O L w d U1 V1 (L1.set m.toNat (rd L m - d)) (m + 1) := by
  have ll := H.ll
  have sl : ∀ q, 0 ≤ q → rd (L1.set m.toNat (rd L m - d)) q = if q = m then rd L m - d else rd L1 q := fun q hq => rd_set hm0 (by omega) hq
  refine ⟨H.lu, H.lv, by rw [List.length_set]; exact ll, fun s hs h => ?_, fun r h0 h => ?_, fun j hj h1 h2 => ?_, fun j h1 h2 => ?_, fun j h1 h2 h3 => ?_, fun j h1 h2 => ?_⟩
  · exact H.u1 s hs (by have : s ≠ m := fun e => hw (e ▸ hs); omega)
  · exact H.u0 r h0 (fun s hs hlt => h s hs (by omega))
  · exact H.v1 j hj h1 (by have : j ≠ m := fun e => hw (e ▸ hj); omega)
  · exact H.v0 j h1 (fun h => h2 (by omega))
  · rw [sl j (by omega)]
    by_cases e : j = m
    · subst e; rw [if_pos rfl]
    · rw [if_neg e]; exact H.l1 j h1 (by omega) h3
  · rw [sl j h1, if_neg (by omega)]
    exact H.l0 j h1 (by omega)

theorem l3_ev {c : List (List Int)} {n : Int} {U V O F L w : List Int} {S : List Bool} {x d : Int} (hn0 : 0 ≤ n) (hn : n ≤ 16) (lo : (O.length : Int) = n + 1) (ls : (S.length : Int) = n + 1)
    (hs : ∀ j, 0 ≤ j → j ≤ n → (rdOf false S j = true ↔ j ∈ w)) (h0 : 0 ∈ w) (hr : ∀ s ∈ w, 0 ≤ rd O s ∧ rd O s ≤ n) (hinj : ∀ s ∈ w, ∀ s' ∈ w, rd O s = rd O s' → s = s')
    (hd0 : 0 ≤ d) (hd1 : d ≤ 4398046511104) (hU : ∀ s ∈ w, 0 ≤ rd U (rd O s) ∧ rd U (rd O s) ≤ 4398046511104) (hV : ∀ j, 1 ≤ j → j ≤ n → -4398046511104 ≤ rd V j ∧ rd V j ≤ 4398046511104)
    (hL : ∀ j, 1 ≤ j → j ≤ n → j ∉ w → 0 ≤ rd L j ∧ rd L j ≤ 1152921504606846976)
    (hx0 : 0 ≤ x) (hx1 : x ≤ n) (Q : List Int × List Int × List Int → Prop)
    (hK : ∀ U1 V1 L1, L3 n U V O L w d U1 V1 L1 (n + 1) → ∃ R, (if rd O x = 0 then Ev (fun k => assign_solved_add.l4 k U1 V1 O F x) R else Ev (fun k => assign_solved_add.l1 k U1 c V1 O n F L1 S x) R) ∧ Q R)
    (m : Nat) : ∀ (j : Int) (U1 V1 L1 : List Int), 0 ≤ j → j + m = n + 1 → L3 n U V O L w d U1 V1 L1 j → ∃ R, Ev (fun k => assign_solved_add.l3 k U1 c V1 O n F L1 S x d (n + 1) j) R ∧ Q R := by
  induction m with
  | zero =>
    intro j U1 V1 L1 h1 hm H
    have e : j = n + 1 := by omega
    subst e
    obtain ⟨R, e, q⟩ := hK U1 V1 L1 H
    refine ⟨R, ev_step (fun k => by simp only [assign_solved_add.l3] <;> exact rfl) ?_, q⟩
    refine ev_neg (by omega) (ev_pos hx0 (ev_pos (by omega) ?_))
    by_cases z : rd O x = 0
    · rw [if_pos z] at e; exact ev_pos z e
    · rw [if_neg z] at e; exact ev_neg z e
  | succ m ih =>
    intro j U1 V1 L1 h1 hm H
    have lu := H.lu
    have lv := H.lv
    have ll := H.ll
    by_cases hj : j ∈ w
    · have r := hr j hj
      have hu : rd U1 (rd O j) = rd U (rd O j) := H.u0 _ r.1 (fun s hs' h e => by have := hinj s hs' j hj e; omega)
      have bu := hU j hj
      obtain ⟨R, e, q⟩ := ih (j + 1) _ _ _ (by omega) (by omega) (H.seen h1 (by omega) hj hr hinj (wrap64 (rd V1 j - d)) (fun h => by
        have bv := hV j h (by omega)
        rw [H.v0 j h (fun h => by omega), w64 (by omega) (by omega)]))
      refine ⟨R, ev_step (fun k => by simp only [assign_solved_add.l3] <;> exact rfl) ?_, q⟩
      refine ev_pos (by omega) (ev_pos h1 (ev_pos (by omega) (ev_pos ((hs j h1 (by omega)).2 hj) ?_)))
      refine ev_pos (by omega) (ev_pos r.1 (ev_pos (by omega) (ev_pos (by omega) ?_)))
      rw [hu, w64 (n := rd U (rd O j) + d) (by omega) (by omega), w64 (n := j + 1) (by omega) (by omega)]
      exact e
    · have z : j ≠ 0 := fun e => hj (e ▸ h0)
      have bl := hL j (by omega) (by omega) hj
      obtain ⟨R, e, q⟩ := ih (j + 1) _ _ _ (by omega) (by omega) (H.unseen h1 (by omega) hj)
      refine ⟨R, ev_step (fun k => by simp only [assign_solved_add.l3] <;> exact rfl) ?_, q⟩
      refine ev_pos (by omega) (ev_pos h1 (ev_pos (by omega) (ev_neg (fun h => hj ((hs j h1 (by omega)).1 h)) ?_)))
      refine ev_pos (by omega) ?_
      rw [H.l0 j h1 (Int.le_refl _), w64 (n := rd L j - d) (by omega) (by omega), w64 (n := j + 1) (by omega) (by omega)]
      exact e

section
variable {c : List (List Int)} {n i : Int} {U V O F L : List Int} {S : List Bool} {a : Int} {t : List Int} {F' L' : List Int} {x d : Int} {U1 V1 L1 : List Int}

/-- The next column. -/
theorem L2.next (T : Tab c n) (P : Ph c n i U V O F L S a t) (H : L2 c n U V O F L a t F' L' x d (n + 1)) :
    1 ≤ x ∧ x ≤ n ∧ x ∉ a :: t ∧ d = rd L' x ∧ (∀ q, 1 ≤ q → q ≤ n → q ∉ a :: t → d ≤ rd L' q) ∧ rd F' x ∈ a :: t ∧ d = M c (rd O (rd F' x)) x - rd U (rd O (rd F' x)) - rd V x ∧ 0 ≤ d ∧ d ≤ 4398046511104 := by
  rcases H.best with ⟨_, h⟩ | ⟨b1, b2, b3, b4, b5, b6⟩
  · obtain ⟨j, x1, x2, x3⟩ := P.freeCol T
    exact absurd x3 (P.occ j (h j x1 (by omega) x2))
  · obtain ⟨e1, e2, _⟩ := H.done x b1 b2 b3 b4
    have r := P.row e1
    have f := P.feas _ x r.1 r.2 b1 b3
    have v := P.vlo T b1 b3
    have u := P.ulo _ r.1 r.2
    have hi := T.hi _ x r.1 r.2 b1 b3
    exact ⟨b1, b3, b4, b5, fun q h1 h2 h3 => b6 q h1 (by omega) h2 h3, e1, by omega, by omega, by omega⟩

/-- What stays true of the prices. -/
structure Nx (c : List (List Int)) (n i : Int) (U1 V1 O F' L1 w : List Int) (x : Int) : Prop where
  lu : (U1.length : Int) = n + 1
  lv : (V1.length : Int) = n + 1
  ll : (L1.length : Int) = n + 1
  feas : ∀ r j, 1 ≤ r → r ≤ n → 1 ≤ j → j ≤ n → rd U1 r + rd V1 j ≤ M c r j
  tight : ∀ j, 1 ≤ j → j ≤ n → rd O j ≠ 0 → rd U1 (rd O j) + rd V1 j = M c (rd O j) j
  vneg : ∀ j, 1 ≤ j → j ≤ n → rd V1 j ≤ 0
  free : ∀ j, 1 ≤ j → j ≤ n → rd O j = 0 → rd V1 j = 0
  ulo : ∀ r, 1 ≤ r → r ≤ n → 0 ≤ rd U1 r
  ch : Chain F' (x :: w)
  cht : ∀ j ∈ x :: w, j ≠ 0 → rd U1 (rd O (rd F' j)) + rd V1 j = M c (rd O (rd F' j)) j
  least : ∀ j, 1 ≤ j → j ≤ n → j ∉ w → rd F' j ∈ w ∧ rd L1 j = M c (rd O (rd F' j)) j - rd U1 (rd O (rd F' j)) - rd V1 j ∧ ∀ s ∈ w, rd L1 j ≤ M c (rd O s) j - rd U1 (rd O s) - rd V1 j

theorem nx_of (T : Tab c n) (P : Ph c n i U V O F L S a t) (H : L2 c n U V O F L a t F' L' x d (n + 1)) (H3 : L3 n U V O L' (a :: t) d U1 V1 L1 (n + 1)) : Nx c n i U1 V1 O F' L1 (a :: t) x := by
  obtain ⟨x1, x2, x3, x4, x5, x6, x7, d0, d1⟩ := H.next T P
  have hu1 : ∀ s ∈ a :: t, rd U1 (rd O s) = rd U (rd O s) + d := fun s hs => H3.u1 s hs (by have := P.rgt s hs; omega)
  have hv1 : ∀ j ∈ a :: t, 1 ≤ j → rd V1 j = rd V j - d := fun j hj h => H3.v1 j hj h (by have := P.rgt j hj; omega)
  have hv0 : ∀ j, 1 ≤ j → j ∉ a :: t → rd V1 j = rd V j := fun j h1 h2 => H3.v0 j h1 (fun _ => h2)
  have hl1 : ∀ j, 1 ≤ j → j ≤ n → j ∉ a :: t → rd L1 j = rd L' j - d := fun j h1 h2 h3 => H3.l1 j h1 (by omega) h3
  have hu0 : ∀ r, 0 ≤ r → (∀ s ∈ a :: t, rd O s ≠ r) → rd U1 r = rd U r := fun r h0 h => H3.u0 r h0 (fun s hs _ => h s hs)
  have huge : ∀ r, 1 ≤ r → rd U r ≤ rd U1 r := by
    intro r h1
    by_cases e : ∃ s ∈ a :: t, rd O s = r
    · obtain ⟨s, hs, e⟩ := e
      rw [← e, hu1 s hs]; omega
    · rw [hu0 r (by omega) (fun s hs h => e ⟨s, hs, h⟩)]; omega
  have hvle : ∀ j, 1 ≤ j → rd V1 j ≤ rd V j := by
    intro j h1
    by_cases e : j ∈ a :: t
    · rw [hv1 j e h1]; omega
    · rw [hv0 j h1 e]; omega
  have hfs := H.fs
  have hchain : Chain F' (a :: t) := P.ch.congr fun j hj _ => hfs j hj
  refine ⟨H3.lu, H3.lv, H3.ll, fun r j a1 a2 b1 b2 => ?_, fun j a1 a2 z => ?_, fun j a1 a2 => ?_, fun j a1 a2 z => ?_, fun r a1 a2 => ?_, ?_, fun j hj z => ?_, fun j a1 a2 hj => ?_⟩
  · have f := P.feas r j a1 a2 b1 b2
    by_cases e : ∃ s ∈ a :: t, rd O s = r
    · obtain ⟨s, hs, e⟩ := e
      by_cases hj : j ∈ a :: t
      · rw [← e, hu1 s hs, hv1 j hj b1, e]; omega
      · have dn := (H.done j b1 (by omega) b2 hj).2.2 s hs
        have := x5 j b1 b2 hj
        rw [e] at dn
        rw [← e, hu1 s hs, hv0 j b1 hj, e]; omega
    · rw [hu0 r (by omega) (fun s hs h => e ⟨s, hs, h⟩)]
      have := hvle j b1; omega
  · have g := P.tight j a1 a2 z
    by_cases hj : j ∈ a :: t
    · rw [hu1 j hj, hv1 j hj a1]; omega
    · rw [hu0 (rd O j) (P.rng j a1 a2).1 (fun s hs e => by have := P.rowInj hs (by omega) a2 e; exact hj (this ▸ hs)), hv0 j a1 hj]; exact g
  · have := P.vneg j a1 a2
    have := hvle j a1; omega
  · rw [hv0 j a1 (fun hj => P.occ j hj z)]; exact P.free j a1 a2 z
  · have := P.ulo r a1 a2
    have := huge r a1; omega
  · exact Chain.step (by omega) x3 x6 hchain
  · rcases List.mem_cons.1 hj with rfl | hj
    · rw [hu1 _ x6, hv0 _ x1 x3]; omega
    · have g := P.cht j hj z
      have hfm : rd F j ∈ a :: t := by
        have := P.ch.mem_from hj z
        exact this
      have r := P.rgt j hj
      rw [hfs j hj, hu1 _ hfm, hv1 j hj (by omega)]; omega
  · obtain ⟨e1, e2, e3⟩ := H.done j a1 (by omega) a2 hj
    refine ⟨e1, ?_, fun s hs => ?_⟩
    · rw [hl1 j a1 a2 hj, hu1 _ e1, hv0 j a1 hj]; omega
    · have := e3 s hs
      rw [hl1 j a1 a2 hj, hu1 s hs, hv0 j a1 hj]; omega
end
end Go.Proofs.YtaggccbndmmbhaaDoor.PAll
/- The improvement of an assignment by one row: prices stay proofs. -/
namespace Go.Proofs.YtaggccbndmmbhaaDoor.PAll
set_option linter.unusedVariables false
open Go Go.RowKit Go.Proofs.YtaggccbndmmbhaaDoorW.PrintWords Go.Proofs.YtaggccbndmmbhaaDoorW.PrintLast Go.Proofs.YtaggccbndmmbhaaDoorW.PrintMore Go.Proofs.YtaggccbndmmbhaaDoor.MathNum Go.Proofs.YtaggccbndmmbhaaDoor.EvWords
attribute [local irreducible] rd M rdOf

section
variable {c : List (List Int)} {n i : Int} {U V O F L : List Int} {S : List Bool} {a : Int} {t : List Int} {F' L' : List Int} {x d : Int} {U1 V1 L1 : List Int}

theorem Ph.seen2 (P : Ph c n i U V O F L S a t) : ∀ q, 0 ≤ q → q ≤ n → (rdOf false (S.set a.toNat true) q = true ↔ q ∈ a :: t) := by
  intro q h1 h2
  have ha := P.rgt a (List.mem_cons_self)
  rw [rdB_set ha.1 (by have := P.ls; omega) h1]
  by_cases e : q = a
  · rw [if_pos e, e]; simp
  · rw [if_neg e, P.seen q h1 h2]; simp [e]

theorem ph_next (T : Tab c n) (P : Ph c n i U V O F L S a t) (H : L2 c n U V O F L a t F' L' x d (n + 1)) (N : Nx c n i U1 V1 O F' L1 (a :: t) x) (hz : rd O x ≠ 0) :
    Ph c n i U1 V1 O F' L1 (S.set a.toNat true) x (a :: t) := by
  obtain ⟨x1, x2, x3, x4, x5, x6, x7, d0, d1⟩ := H.next T P
  refine ⟨N.lu, N.lv, P.lo, H.lf, N.ll, by rw [List.length_set]; exact P.ls, P.i1, P.i2, P.o0, N.feas, N.tight, N.vneg, N.free, P.rng, P.inj, P.cov, N.ulo, P.seen2, fun j hj => ?_, fun j hj => ?_, N.ch, N.cht, fun j h1 h2 h3 => Or.inr (N.least j h1 h2 h3)⟩
  · rcases List.mem_cons.1 hj with rfl | hj
    · exact ⟨by omega, x2⟩
    · exact P.rgt j hj
  · rcases List.mem_cons.1 hj with rfl | hj
    · exact hz
    · exact P.occ j hj

theorem back_of (T : Tab c n) (P : Ph c n i U V O F L S a t) (H : L2 c n U V O F L a t F' L' x d (n + 1)) (N : Nx c n i U1 V1 O F' L1 (a :: t) x) (hz : rd O x = 0) :
    Back c n i U1 V1 O F' x (a :: t) := by
  obtain ⟨x1, x2, x3, x4, x5, x6, x7, d0, d1⟩ := H.next T P
  have i1 := P.i1
  have o0 := P.o0
  refine ⟨P.lo, H.lf, N.ch, fun j hj => ?_, fun j h1 h2 => ?_, fun j j' a1 a2 b1 b2 n1 n2 e z => ?_, fun r h1 h2 => ?_, fun j a1 a2 _ z => N.tight j a1 a2 z, N.cht, P.occ, fun j a1 a2 _ z => N.free j a1 a2 z⟩
  · rcases List.mem_cons.1 hj with rfl | hj
    · exact ⟨by omega, x2⟩
    · exact P.rgt j hj
  · by_cases e : j = 0
    · subst e; rw [o0]; omega
    · have := P.rng j (by omega) h2; omega
  · by_cases e1 : j = 0
    · by_cases e2 : j' = 0
      · omega
      · have := P.rng j' (by omega) b2
        subst e1; rw [o0] at e; omega
    · by_cases e2 : j' = 0
      · have := P.rng j (by omega) a2
        subst e2; rw [o0] at e; omega
      · exact P.inj j j' (by omega) a2 (by omega) b2 e z
  · by_cases e : r = i
    · exact ⟨0, Int.le_refl _, by omega, by omega, by rw [o0, e]⟩
    · obtain ⟨j, a1, a2, a3⟩ := P.cov r h1 (by omega)
      exact ⟨j, by omega, a2, fun h => by rw [h, hz] at a3; omega, a3⟩
end

theorem l1_ev {c : List (List Int)} {n i : Int} {O : List Int} (T : Tab c n) (m : Nat) : ∀ (U V F L : List Int) (S : List Bool) (a : Int) (t : List Int), Ph c n i U V O F L S a t → t.length + m = n.toNat + 1 →
    ∃ R, Ev (fun k => assign_solved_add.l1 k U c V O n F L S a) R ∧ Dual c n i R.1 R.2.1 R.2.2 := by
  induction m with
  | zero =>
    intro U V F L S a t P hm
    have hl := nodup_len (n.toNat + 1) (a :: t) P.ch.nodup (fun j hj => by have := P.rgt j hj; omega)
    rw [List.length_cons] at hl
    omega
  | succ m ih =>
    intro U V F L S a t P hm
    have ha := P.rgt a (List.mem_cons_self)
    have hi1 := P.i1
    have hi2 := P.i2
    have hn := T.le
    have ls := P.ls
    have lo := P.lo
    have start : L2 c n U V O F L a t F L 0 1152921504606846976 1 := ⟨P.lf, P.ll, fun _ _ => rfl, fun q a1 a2 => by omega, fun _ _ _ _ _ => ⟨rfl, rfl⟩, Or.inl ⟨rfl, fun q a1 a2 => by omega⟩⟩
    have main := l2_ev T P (fun R => Dual c n i R.1 R.2.1 R.2.2) (fun F' L' x d H => by
      obtain ⟨x1, x2, x3, x4, x5, x6, x7, d0, d1⟩ := H.next T P
      rw [w64 (n := n + 1) (by omega) (by omega)]
      refine l3_ev (c := c) (w := a :: t) (by omega) hn lo (by rw [List.length_set]; exact ls) P.seen2 P.ch.has_zero (fun s hs => ?_) (fun s hs s' hs' e => P.rowInj hs (P.rgt s' hs').1 (P.rgt s' hs').2 e) d0 d1 (fun s hs => ?_) (fun j h1 h2 => ?_) (fun j h1 h2 h3 => ?_) (by omega) x2
        (fun R => Dual c n i R.1 R.2.1 R.2.2) (fun U1 V1 L1 H3 => ?_) (n.toNat + 1) 0 U V L' (Int.le_refl _) (by omega) (L3.start P.lu P.lv H.ll (fun s hs => (P.rgt s hs).1))
      · have := P.row hs; omega
      · have r := P.row hs
        have := P.ulo _ r.1 r.2
        have := P.uhi T r.1 r.2
        omega
      · have := P.vneg j h1 h2
        have := P.vlo T h1 h2
        omega
      · have := x5 j h1 h2 h3
        obtain ⟨e1, e2, _⟩ := H.done j h1 (by omega) h2 h3
        have r := P.row e1
        have u := P.ulo _ r.1 r.2
        have hi := T.hi _ j r.1 r.2 h1 h2
        have v := P.vlo T h1 h2
        omega
      · have N := nx_of T P H H3
        by_cases hz : rd O x = 0
        · obtain ⟨O', e, b1, b2, b3, b4, b5, b6⟩ := back_ev (c := c) (n := n) (i := i) (U := U1) (V := V1) (F := F') (by omega) _ O x (a :: t) rfl (back_of T P H N hz)
          refine ⟨(U1, V1, O'), by rw [if_pos hz]; exact e, ⟨N.lu, N.lv, b1, N.feas, b5, N.vneg, b6, fun j h1 h2 => b2 j (by omega) h2, b3, b4, N.ulo, fun r h1 h2 => ?_⟩⟩
          have f := N.feas r x h1 h2 x1 x2
          have v := N.free x x1 x2 hz
          have hi := T.hi r x h1 h2 x1 x2
          show rd U1 r ≤ _
          omega
        · obtain ⟨R, e, q⟩ := ih U1 V1 F' L1 (S.set a.toNat true) x (a :: t) (ph_next T P H N hz) (by rw [List.length_cons]; omega)
          exact ⟨R, by rw [if_neg hz]; exact e, q⟩) n.toNat 1 F L 0 1152921504606846976 (Int.le_refl _) (by omega) start
    obtain ⟨R, e, q⟩ := main
    refine ⟨R, ev_step (fun k => by simp only [assign_solved_add.l1] <;> exact rfl) ?_, q⟩
    exact ev_pos ha.1 (ev_pos (by omega) (ev_pos (by omega) e))

theorem l0_ev {c : List (List Int)} {U V O F : List Int} {n : Int} {S : List Bool} (hn : n ≤ 16) (hn0 : 0 ≤ n) {R : List Int × List Int × List Int}
    (hK : ∀ L : List Int, (L.length : Int) = n + 1 → (∀ j, 0 ≤ j → j ≤ n → rd L j = 1152921504606846976) → Ev (fun k => assign_solved_add.l1 k U c V O n F L S 0) R)
    (m : Nat) : ∀ (j : Int) (L : List Int), 0 ≤ j → j + m = n + 1 → (L.length : Int) = n + 1 → (∀ q, 0 ≤ q → q < j → rd L q = 1152921504606846976) → Ev (fun k => assign_solved_add.l0 k U c V O n F L S (n + 1) j) R := by
  induction m with
  | zero =>
    intro j L h0 hm hl hs
    exact ev_step (fun k => by simp only [assign_solved_add.l0] <;> exact rfl) (ev_neg (by omega) (hK L hl (fun q a b => hs q a (by omega))))
  | succ m ih =>
    intro j L h0 hm hl hs
    refine ev_step (fun k => by simp only [assign_solved_add.l0] <;> exact rfl) (ev_pos (by omega) (ev_pos h0 (ev_pos (by omega) ?_)))
    rw [w64 (n := j + 1) (by omega) (by omega)]
    refine ih (j + 1) _ (by omega) (by omega) (by rw [List.length_set]; exact hl) (fun q a b => ?_)
    rw [rd_set h0 (by omega) a]
    by_cases e : q = j
    · rw [if_pos e]
    · rw [if_neg e]; exact hs q a (by omega)

/-- A further row gets a column. -/
theorem add_ev {c : List (List Int)} {n i : Int} {U V O : List Int} (T : Tab c n) (h1 : 1 ≤ i) (h2 : i ≤ n) (D : Dual c n (i - 1) U V O) :
    ∃ R, Ev (fun k => assign_solved_add.f k U c i V O) R ∧ Dual c n i R.1 R.2.1 R.2.2 := by
  have hn := T.le
  have hlen := T.len
  have lo := D.lo
  have so : ∀ q, 0 ≤ q → rd (O.set (0 : Int).toNat i) q = if q = 0 then i else rd O q := fun q hq => rd_set (Int.le_refl _) (by omega) hq
  have so1 : ∀ q, 1 ≤ q → rd (O.set (0 : Int).toNat i) q = rd O q := fun q hq => by rw [so q (by omega), if_neg (by omega)]
  have hw : wrap64 ((c.length : Int) + 1) = n + 1 := by rw [w64 (by omega) (by omega)]; omega
  have P : ∀ L : List Int, (L.length : Int) = n + 1 → (∀ j, 0 ≤ j → j ≤ n → rd L j = 1152921504606846976) → Ph c n i U V (O.set (0 : Int).toNat i) (List.replicate (n + 1).toNat 0) L (List.replicate (n + 1).toNat false) 0 [] := by
    intro L hl hs
    refine ⟨D.lu, D.lv, by rw [List.length_set]; exact lo, by rw [List.length_replicate]; omega, hl, by rw [List.length_replicate]; omega, h1, h2, by rw [so 0 (Int.le_refl _), if_pos rfl], D.feas, fun j a b z => ?_, D.vneg, fun j a b z => ?_,
      fun j a b => ?_, fun j j' a1 a2 b1 b2 e z => ?_, fun r a b => ?_, D.ulo, fun j a b => ?_, fun j hj => ?_, fun j hj => ?_, Chain.base, fun j hj z => ?_, fun j a b _ => Or.inl ⟨rfl, hs j (by omega) b⟩⟩
    · rw [so1 j a] at z ⊢; exact D.tight j a b z
    · rw [so1 j a] at z; exact D.free j a b z
    · rw [so1 j a]; exact D.rng j a b
    · rw [so1 j a1] at e z; rw [so1 j' b1] at e; exact D.inj j j' a1 a2 b1 b2 e z
    · obtain ⟨j, x, y, z⟩ := D.cov r a b
      exact ⟨j, x, y, by rw [so1 j x]; exact z⟩
    · rw [rdB_rep]; simp
    · rw [List.mem_singleton.1 hj]; omega
    · rw [List.mem_singleton.1 hj, so 0 (Int.le_refl _), if_pos rfl]; omega
    · exact absurd (List.mem_singleton.1 hj) z
  have hex : ∃ R, (∀ L : List Int, (L.length : Int) = n + 1 → (∀ j, 0 ≤ j → j ≤ n → rd L j = 1152921504606846976) → Ev (fun k => assign_solved_add.l1 k U c V (O.set (0 : Int).toNat i) n (List.replicate (n + 1).toNat 0) L (List.replicate (n + 1).toNat false) 0) R) ∧ Dual c n i R.1 R.2.1 R.2.2 := by
    have all : ∀ L : List Int, (L.length : Int) = n + 1 → (∀ j, 0 ≤ j → j ≤ n → rd L j = 1152921504606846976) → L = List.replicate (n + 1).toNat 1152921504606846976 := by
      intro L hl hs
      refine List.ext_getElem (by rw [List.length_replicate]; omega) fun q h3 h4 => ?_
      rw [List.getElem_replicate]
      have := hs q (by omega) (by omega)
      rw [rd_nat L h3] at this
      exact this
    obtain ⟨R, e, q⟩ := l1_ev T (n.toNat + 1) U V (List.replicate (n + 1).toNat 0) (List.replicate (n + 1).toNat 1152921504606846976) (List.replicate (n + 1).toNat false) 0 [] (P _ (by rw [List.length_replicate]; omega) (fun j a b => rd_rep a (by omega))) (by simp)
    exact ⟨R, fun L hl hs => by rw [all L hl hs]; exact e, q⟩
  obtain ⟨R, e, q⟩ := hex
  refine ⟨R, ?_, q⟩
  simp only [assign_solved_add.f, hw]
  refine ev_pos (by omega) (ev_pos (by omega) (ev_pos (by omega) (ev_let (ev_pos (by omega) ?_))))
  rw [List.length_replicate, hlen]
  have := l0_ev (R := R) hn (by omega) e (n.toNat + 1) 0 (List.replicate (n + 1).toNat 0) (Int.le_refl _) (by omega) (by rw [List.length_replicate]; omega) (fun q a b => by omega)
  rw [show ((n + 1).toNat : Int) = n + 1 by omega]
  exact this
end Go.Proofs.YtaggccbndmmbhaaDoor.PAll
/- Both costs of a list: the sum, where the list has each column once, or the error. -/
namespace Go.Proofs.YtaggccbndmmbhaaDoor.PAll
set_option linter.unusedVariables false
open Go Go.RowKit Go.Proofs.YtaggccbndmmbhaaDoorW.PrintWords Go.Proofs.YtaggccbndmmbhaaDoorW.PrintLast Go.Proofs.YtaggccbndmmbhaaDoorW.PrintMore Go.Proofs.YtaggccbndmmbhaaDoor.MathNum Go.Proofs.YtaggccbndmmbhaaDoor.EvWords

/-- The first i numbers of a list are different columns. -/
def Pre (l : List Int) (n i : Int) : Prop := ∀ p, 0 ≤ p → p < i → 0 ≤ rd l p ∧ rd l p < n ∧ ∀ q, 0 ≤ q → q < p → rd l q ≠ rd l p
/-- A list has each column from 0 to n - 1 once. -/
def Asg (l : List Int) (n : Int) : Prop := (l.length : Int) = n ∧ Pre l n n
/-- What the first i rows cost. -/
def csum (c : List (List Int)) (l : List Int) : Nat → Int
  | 0 => 0
  | i + 1 => csum c l i + M c ((i : Int) + 1) (rd l i + 1)

theorem Pre.mono {l : List Int} {n i j : Int} (h : Pre l n i) (hj : j ≤ i) : Pre l n j := fun p a b => h p a (by omega)
theorem Pre.zero {l : List Int} {n : Int} : Pre l n 0 := fun p a b => by omega
theorem Pre.succ {l : List Int} {n i : Int} (h : Pre l n i) (h0 : 0 ≤ rd l i) (h1 : rd l i < n) (h2 : ∀ q, 0 ≤ q → q < i → rd l q ≠ rd l i) : Pre l n (i + 1) := by
  intro p a b
  by_cases e : p = i
  · subst e; exact ⟨h0, h1, h2⟩
  · exact h p a (by omega)
theorem csum_bound {c : List (List Int)} {n : Int} (T : Tab c n) {l : List Int} (i : Nat) (hi : (i : Int) ≤ n) (h : Pre l n i) : 0 ≤ csum c l i ∧ csum c l i ≤ i * 1099511627776 := by
  induction i with
  | zero => exact ⟨Int.le_refl _, by simp [csum]⟩
  | succ i ih =>
    have := ih (by omega) (h.mono (by omega))
    obtain ⟨a, b, _⟩ := h i (by omega) (by omega)
    have m0 := T.lo ((i : Int) + 1) (rd l i + 1) (by omega) (by omega) (by omega) (by omega)
    have m1 := T.hi ((i : Int) + 1) (rd l i + 1) (by omega) (by omega) (by omega) (by omega)
    simp only [csum]
    omega

theorem cell_M {c : List (List Int)} {i j : Int} : rd (rd_L2 c i) j = M c (i + 1) (j + 1) := by
  unfold M
  rw [show i + 1 - 1 = i by omega, show j + 1 - 1 = j by omega]
theorem Tab.row0 {c : List (List Int)} {n : Int} (T : Tab c n) {i : Int} (h0 : 0 ≤ i) (h1 : i < n) : ((rd_L2 c i).length : Int) = n := by
  have := T.row (i + 1) (by omega) (by omega)
  rwa [show i + 1 - 1 = i by omega] at this

end Go.Proofs.YtaggccbndmmbhaaDoor.PAll
/- Sums over the rows, and that the order of the columns does not matter to them. -/
namespace Go.Proofs.YtaggccbndmmbhaaDoor.PAll
set_option linter.unusedVariables false
open Go Go.RowKit Go.Proofs.YtaggccbndmmbhaaDoorW.PrintWords Go.Proofs.YtaggccbndmmbhaaDoorW.PrintLast Go.Proofs.YtaggccbndmmbhaaDoorW.PrintMore Go.Proofs.YtaggccbndmmbhaaDoor.MathNum Go.Proofs.YtaggccbndmmbhaaDoor.EvWords

def sumTo (h : Nat → Int) : Nat → Int
  | 0 => 0
  | n + 1 => sumTo h n + h n
theorem sumTo_congr {g h : Nat → Int} (n : Nat) (e : ∀ i, i < n → g i = h i) : sumTo g n = sumTo h n := by
  induction n with
  | zero => rfl
  | succ n ih => simp only [sumTo]; rw [ih (fun i hi => e i (by omega)), e n (by omega)]
theorem sumTo_le {g h : Nat → Int} (n : Nat) (e : ∀ i, i < n → g i ≤ h i) : sumTo g n ≤ sumTo h n := by
  induction n with
  | zero => exact Int.le_refl _
  | succ n ih => simp only [sumTo]; have := ih (fun i hi => e i (by omega)); have := e n (by omega); omega
theorem sumTo_add {g h : Nat → Int} (n : Nat) : sumTo (fun i => g i + h i) n = sumTo g n + sumTo h n := by
  induction n with
  | zero => rfl
  | succ n ih => simp only [sumTo]; rw [ih]; omega
/-- If sums are equal and each term of one is at most that of the other, the terms are equal. -/
theorem sumTo_tight {g h : Nat → Int} (n : Nat) (e : ∀ i, i < n → g i ≤ h i) (s : sumTo h n ≤ sumTo g n) : ∀ i, i < n → g i = h i := by
  induction n with
  | zero => intro i hi; omega
  | succ n ih =>
    intro i hi
    simp only [sumTo] at s
    have a := sumTo_le n (fun i hi => e i (by omega : i < n + 1))
    have b := e n (by omega)
    by_cases h : i = n
    · subst h; omega
    · exact ih (fun i hi => e i (by omega)) (by omega) i (by omega)
theorem sumTo_one {h : Nat → Int} {a : Int} {i0 : Nat} (n : Nat) (hi : i0 < n) : sumTo (fun i => if i = i0 then a else h i) n = sumTo h n - h i0 + a := by
  induction n with
  | zero => omega
  | succ n ih =>
    simp only [sumTo]
    by_cases e : n = i0
    · subst e
      rw [if_pos rfl, sumTo_congr n (h := h) (fun i hi => if_neg (by omega))]; omega
    · rw [if_neg e, ih (by omega)]; omega
theorem surj {n : Nat} {f : Nat → Nat} (h1 : ∀ a, a < n → f a < n) (h2 : ∀ a b, a < n → b < n → f a = f b → a = b) : ∀ j, j < n → ∃ i, i < n ∧ f i = j := by
  intro j hj
  apply Classical.byContradiction
  intro hno
  have hall : ∀ i, i < n → f i ≠ j := fun i a b => hno ⟨i, a, b⟩
  have := pigeon n (n - 1) (fun a => if f a < j then f a else f a - 1) (fun a ha => by
    have x := h1 a ha
    have y := hall a ha
    show (if f a < j then f a else f a - 1) < n - 1
    split <;> omega) (fun a b ha hb e => by
    have y := hall a ha
    have z := hall b hb
    have e' : (if f a < j then f a else f a - 1) = (if f b < j then f b else f b - 1) := e
    apply h2 a b ha hb
    split at e' <;> split at e' <;> omega)
  omega
theorem sumTo_perm (n : Nat) : ∀ (f : Nat → Nat) (g : Nat → Int), (∀ a, a < n → f a < n) → (∀ a b, a < n → b < n → f a = f b → a = b) → sumTo (fun i => g (f i)) n = sumTo g n := by
  induction n with
  | zero => intro _ _ _ _; rfl
  | succ n ih =>
    intro f g h1 h2
    obtain ⟨i0, a0, e0⟩ := surj h1 h2 n (by omega)
    by_cases hn : i0 = n
    · subst hn
      simp only [sumTo]
      rw [ih f g (fun a ha => by have := h1 a (by omega); have : f a ≠ i0 := fun e => by have := h2 a i0 (by omega) (by omega) (by omega); omega
                                 omega) (fun a b ha hb => h2 a b (by omega) (by omega)), e0]
    · have hv : f n < n := by
        have := h1 n (by omega)
        have : f n ≠ n := fun e => hn (h2 i0 n a0 (by omega) (by omega))
        omega
      have key := ih (fun i => if i = i0 then f n else f i) g (fun a ha => by
        show (if a = i0 then f n else f a) < n
        by_cases e : a = i0
        · rw [if_pos e]; exact hv
        · rw [if_neg e]
          have := h1 a (by omega)
          have : f a ≠ n := fun e2 => e (h2 a i0 (by omega) a0 (by omega))
          omega) (fun a b ha hb e => by
        have e' : (if a = i0 then f n else f a) = (if b = i0 then f n else f b) := e
        by_cases ea : a = i0 <;> by_cases eb : b = i0
        · omega
        · rw [if_pos ea, if_neg eb] at e'
          have := h2 n b (by omega) (by omega) e'; omega
        · rw [if_neg ea, if_pos eb] at e'
          have := h2 a n (by omega) (by omega) e'; omega
        · rw [if_neg ea, if_neg eb] at e'
          exact h2 a b (by omega) (by omega) e')
      have k2 : sumTo (fun i => g (if i = i0 then f n else f i)) n = sumTo (fun i => if i = i0 then g (f n) else g (f i)) n := sumTo_congr n (fun i hi => by by_cases e : i = i0 <;> simp [e])
      rw [k2, sumTo_one n (by omega), e0] at key
      simp only [sumTo]
      omega

theorem csum_sum (c : List (List Int)) (l : List Int) (n : Nat) : csum c l n = sumTo (fun p => M c ((p : Int) + 1) (rd l p + 1)) n := by
  induction n with
  | zero => rfl
  | succ n ih => simp only [sumTo, csum, ih]

/-- The columns of an assignment, as a function. -/
theorem Asg.fn {l : List Int} {n : Nat} (h : Asg l n) : (∀ a, a < n → (rd l (a : Int)).toNat < n) ∧ (∀ a b, a < n → b < n → (rd l (a : Int)).toNat = (rd l (b : Int)).toNat → a = b) := by
  refine ⟨fun a ha => by have := h.2 a (by omega) (by omega); omega, fun a b ha hb e => ?_⟩
  have x := h.2 a (by omega) (by omega)
  have y := h.2 b (by omega) (by omega)
  apply Classical.byContradiction
  intro hne
  by_cases hlt : a < b
  · exact y.2.2 a (by omega) (by omega) (by omega)
  · exact x.2.2 b (by omega) (by omega) (by omega)
theorem Asg.sum {l : List Int} {n : Nat} (h : Asg l n) (g : Int → Int) : sumTo (fun p => g (rd l (p : Int))) n = sumTo (fun p => g (p : Int)) n := by
  rw [← sumTo_perm n (fun a => (rd l (a : Int)).toNat) (fun p => g (p : Int)) h.fn.1 h.fn.2]
  exact sumTo_congr n (fun i hi => by have := h.2 i (by omega) (by omega); show _ = g (((rd l (i : Int)).toNat : Nat) : Int); rw [Int.toNat_of_nonneg this.1])
theorem Asg.surj {l : List Int} {n : Nat} (h : Asg l n) {j : Int} (h0 : 0 ≤ j) (h1 : j < n) : ∃ i : Nat, i < n ∧ rd l (i : Int) = j := by
  obtain ⟨i, a, e⟩ := PAll.surj h.fn.1 h.fn.2 j.toNat (by omega)
  have := h.2 i (by omega) (by omega)
  exact ⟨i, a, by omega⟩

theorem rd_ofFn {n : Nat} {f : Nat → Int} {i : Nat} (hi : i < n) : rd ((List.range n).map f) (i : Int) = f i := by
  rw [rd_nat _ (by simpa using hi)]; simp
/-- A list from a function. -/
theorem asg_of {n : Nat} {f : Nat → Int} (h1 : ∀ i, i < n → 0 ≤ f i ∧ f i < n) (h2 : ∀ i j, i < n → j < n → f i = f j → i = j) : Asg ((List.range n).map f) n := by
  refine ⟨by simp, fun p a b => ?_⟩
  obtain ⟨m, rfl⟩ := Int.eq_ofNat_of_zero_le a
  have hm : m < n := by omega
  rw [rd_ofFn hm]
  refine ⟨(h1 m hm).1, (h1 m hm).2, fun q c d => ?_⟩
  obtain ⟨q, rfl⟩ := Int.eq_ofNat_of_zero_le c
  rw [rd_ofFn (by omega)]
  intro e
  have := h2 q m (by omega) hm e; omega

/-- m is the least cost of an assignment. -/
def IsMin (c : List (List Int)) (m : Int) : Prop := (∃ l, Asg l c.length ∧ csum c l c.length = m) ∧ ∀ l, Asg l c.length → m ≤ csum c l c.length
theorem IsMin.unique {c : List (List Int)} {m m' : Int} (h : IsMin c m) (h' : IsMin c m') : m = m' := by
  obtain ⟨l, a, e⟩ := h.1
  obtain ⟨l', a', e'⟩ := h'.1
  have := h.2 l' a'
  have := h'.2 l a
  omega
end Go.Proofs.YtaggccbndmmbhaaDoor.PAll
/- The prices prove that the cost is least. -/
namespace Go.Proofs.YtaggccbndmmbhaaDoor.PAll
set_option linter.unusedVariables false
open Go Go.RowKit Go.Proofs.YtaggccbndmmbhaaDoorW.PrintWords Go.Proofs.YtaggccbndmmbhaaDoorW.PrintLast Go.Proofs.YtaggccbndmmbhaaDoorW.PrintMore Go.Proofs.YtaggccbndmmbhaaDoor.MathNum Go.Proofs.YtaggccbndmmbhaaDoor.EvWords
attribute [local irreducible] rd M rdOf

theorem solve_loop {c : List (List Int)} {n : Int} (T : Tab c n) (m : Nat) : ∀ (i : Int) (U V O : List Int), 1 ≤ i → i + m = n + 1 → Dual c n (i - 1) U V O →
    ∃ R, Ev (fun k => assign_solve.l0 k c n i U V O) R ∧ Dual c n n R.1 R.2.1 R.2.2 := by
  have hn := T.le
  induction m with
  | zero =>
    intro i U V O h1 hm D
    have e : i - 1 = n := by omega
    rw [e] at D
    exact ⟨(U, V, O), ev_step (fun k => by simp only [assign_solve.l0] <;> exact rfl) (ev_neg (by omega) (ev_now _)), D⟩
  | succ m ih =>
    intro i U V O h1 hm D
    obtain ⟨R, e, q⟩ := add_ev T h1 (by omega) D
    have q' : Dual c n (i + 1 - 1) R.1 R.2.1 R.2.2 := by rw [show i + 1 - 1 = i by omega]; exact q
    obtain ⟨R', e', q'⟩ := ih (i + 1) R.1 R.2.1 R.2.2 (by omega) (by omega) q'
    refine ⟨R', ev_step (fun k => by simp only [assign_solve.l0] <;> exact rfl) (ev_pos (by omega) (Ev.bind e ?_)), q'⟩
    rw [w64 (by omega) (by omega)]
    exact e'
theorem solve_ev {c : List (List Int)} {n : Int} (T : Tab c n) : ∃ R, Ev (fun k => assign_solve.f k c) R ∧ Dual c n n R.1 R.2.1 R.2.2 := by
  have hn := T.le
  have hl := T.len
  have hw : wrap64 ((c.length : Int) + 1) = n + 1 := by rw [w64 (by omega) (by omega)]; omega
  have z : ∀ j, 0 ≤ j → j ≤ n → rd (List.replicate (n + 1).toNat 0) j = 0 := fun j a b => rd_rep a (by omega)
  have D : Dual c n (1 - 1) (List.replicate (n + 1).toNat 0) (List.replicate (n + 1).toNat 0) (List.replicate (n + 1).toNat 0) := by
    have len : ((List.replicate (n + 1).toNat (0 : Int)).length : Int) = n + 1 := by rw [List.length_replicate]; omega
    refine ⟨len, len, len, fun r j a b d e => ?_, fun j a b h => ?_, fun j a b => ?_, fun j a b h => ?_, fun j a b => ?_, fun j j' a b a' b' h h' => ?_, fun r a b => ?_, fun r a b => ?_, fun r a b => ?_⟩
    · rw [z r (by omega) b, z j (by omega) e]; exact T.lo r j a b d e
    · exact absurd (z j (by omega) b) h
    · rw [z j (by omega) b]; omega
    · exact z j (by omega) b
    · rw [z j (by omega) b]; omega
    · exact absurd (z j (by omega) b) h'
    · omega
    · rw [z r (by omega) b]; omega
    · rw [z r (by omega) b]; omega
  obtain ⟨R, e, q⟩ := solve_loop T n.toNat 1 _ _ _ (Int.le_refl _) (by omega) D
  refine ⟨R, ?_, q⟩
  simp only [assign_solve.f, hw]
  rw [hl]
  exact ev_pos (by omega) (ev_pos (by omega) e)

section
variable {c : List (List Int)} {n : Int} {U V O : List Int}
theorem Dual.full (D : Dual c n n U V O) {j0 : Int} (h1 : 1 ≤ j0) (h2 : j0 ≤ n) : 1 ≤ rd O j0 := by
  have r := D.rng j0 h1 h2
  apply Classical.byContradiction
  intro hno
  have z : rd O j0 = 0 := by omega
  have ch : ∀ r : Nat, ∃ j : Int, r < n.toNat → 1 ≤ j ∧ j ≤ n ∧ rd O j = r + 1 := fun r => by
    by_cases h : r < n.toNat
    · obtain ⟨j, a, b, e⟩ := D.cov (r + 1) (by omega) (by omega)
      exact ⟨j, fun _ => ⟨a, b, e⟩⟩
    · exact ⟨0, fun x => absurd x h⟩
  obtain ⟨f, hf⟩ := Classical.axiomOfChoice ch
  have ne : ∀ r, r < n.toNat → f r ≠ j0 := fun r hr e => by have := (hf r hr).2.2; rw [e, z] at this; omega
  have := pigeon n.toNat (n.toNat - 1) (fun r => if f r < j0 then (f r).toNat - 1 else (f r).toNat - 2) (fun r hr => by
    have x := hf r hr
    have y := ne r hr
    show (if f r < j0 then (f r).toNat - 1 else (f r).toNat - 2) < _
    split <;> omega) (fun a b ha hb e => by
    have x := hf a ha
    have y := hf b hb
    have xa := ne a ha
    have yb := ne b hb
    have e' : (if f a < j0 then (f a).toNat - 1 else (f a).toNat - 2) = (if f b < j0 then (f b).toNat - 1 else (f b).toNat - 2) := e
    have : f a = f b := by split at e' <;> split at e' <;> omega
    rw [this] at x
    omega)
  omega

/-- The sum of all prices. -/
def prices (U V : List Int) (n : Nat) : Int := sumTo (fun i => rd U ((i : Int) + 1)) n + sumTo (fun j => rd V ((j : Int) + 1)) n

theorem Dual.lower {n : Nat} (D : Dual c n n U V O) {l : List Int} (h : Asg l n) : prices U V n ≤ csum c l n := by
  rw [csum_sum]
  have a := sumTo_le (g := fun p => rd U ((p : Int) + 1) + rd V (rd l p + 1)) (h := fun p => M c ((p : Int) + 1) (rd l p + 1)) n (fun i hi => by
    have := h.2 i (by omega) (by omega)
    exact D.feas _ _ (by omega) (by omega) (by omega) (by omega))
  rw [sumTo_add, h.sum (fun x => rd V (x + 1))] at a
  exact a
theorem Dual.list {n : Nat} (D : Dual c n n U V O) : ∃ l, Asg l n ∧ csum c l n = prices U V n := by
  have ch : ∀ r : Nat, ∃ j : Int, r < n → 1 ≤ j ∧ j ≤ n ∧ rd O j = r + 1 := fun r => by
    by_cases h : r < n
    · obtain ⟨j, a, b, e⟩ := D.cov (r + 1) (by omega) (by omega)
      exact ⟨j, fun _ => ⟨a, b, e⟩⟩
    · exact ⟨0, fun x => absurd x h⟩
  obtain ⟨f, hf⟩ := Classical.axiomOfChoice ch
  have A : Asg ((List.range n).map fun i => f i - 1) n := asg_of (fun i hi => by have := hf i hi; omega) (fun i j hi hj e => by
    have x := hf i hi
    have y := hf j hj
    have e' : f i = f j := by omega
    rw [e'] at x
    omega)
  refine ⟨_, A, ?_⟩
  rw [csum_sum]
  have e1 := sumTo_congr (g := fun p => M c ((p : Int) + 1) (rd ((List.range n).map fun i => f i - 1) p + 1)) (h := fun p => rd U ((p : Int) + 1) + rd V (rd ((List.range n).map fun i => f i - 1) p + 1)) n (fun i hi => by
    have x := hf i hi
    have := D.tight (f i) x.1 x.2.1 (by omega)
    rw [rd_ofFn hi, show f i - 1 + 1 = f i by omega]
    rw [x.2.2] at this
    omega)
  rw [e1, sumTo_add, A.sum (fun x => rd V (x + 1))]
  rfl
theorem Dual.min {n : Nat} (hl : c.length = n) (D : Dual c n n U V O) : IsMin c (prices U V n) := by
  subst hl
  exact ⟨D.list, fun l h => D.lower h⟩
/-- What the owners' places cost. -/
theorem Dual.owners {n : Nat} (D : Dual c n n U V O) : sumTo (fun j => M c (rd O ((j : Int) + 1)) ((j : Int) + 1)) n = prices U V n := by
  have e1 := sumTo_congr (g := fun j => M c (rd O ((j : Int) + 1)) ((j : Int) + 1)) (h := fun j => rd U (rd O ((j : Int) + 1)) + rd V ((j : Int) + 1)) n (fun j hj => by
    have f := D.full (j0 := (j : Int) + 1) (by omega) (by omega)
    exact (D.tight ((j : Int) + 1) (by omega) (by omega) (by omega)).symm)
  rw [e1, sumTo_add]
  have p := sumTo_perm n (fun j => (rd O ((j : Int) + 1)).toNat - 1) (fun i => rd U ((i : Int) + 1)) (fun j hj => by
    have f := D.full (j0 := (j : Int) + 1) (by omega) (by omega)
    have r := D.rng ((j : Int) + 1) (by omega) (by omega)
    show (rd O ((j : Int) + 1)).toNat - 1 < n
    omega) (fun a b ha hb e => by
    have f := D.full (j0 := (a : Int) + 1) (by omega) (by omega)
    have f' := D.full (j0 := (b : Int) + 1) (by omega) (by omega)
    have e' : (rd O ((a : Int) + 1)).toNat - 1 = (rd O ((b : Int) + 1)).toNat - 1 := e
    have := D.inj ((a : Int) + 1) ((b : Int) + 1) (by omega) (by omega) (by omega) (by omega) (by omega) (by omega)
    omega)
  have e2 := sumTo_congr (g := fun j => rd U (rd O ((j : Int) + 1))) (h := fun j => rd U ((((rd O ((j : Int) + 1)).toNat - 1 : Nat) : Int) + 1)) n (fun j hj => by
    have f := D.full (j0 := (j : Int) + 1) (by omega) (by omega)
    show rd U _ = rd U _
    congr 1; omega)
  rw [e2, p]
  rfl
end

theorem cost_walk {c : List (List Int)} {n : Nat} {U V O : List Int} (T : Tab c n) (D : Dual c n n U V O) (m : Nat) : ∀ j : Nat, j + m = n →
    Ev (fun k => assign_cost.l0 k c (sumTo (fun j => M c (rd O ((j : Int) + 1)) ((j : Int) + 1)) j) ((j : Int) + 1) U V O) (sumTo (fun j => M c (rd O ((j : Int) + 1)) ((j : Int) + 1)) n) := by
  have hn := T.le
  have hl := T.len
  have lo := D.lo
  have bnd : ∀ j : Nat, j ≤ n → 0 ≤ sumTo (fun j => M c (rd O ((j : Int) + 1)) ((j : Int) + 1)) j ∧ sumTo (fun j => M c (rd O ((j : Int) + 1)) ((j : Int) + 1)) j ≤ j * 1099511627776 := by
    intro j
    induction j with
    | zero => intro _; simp [sumTo]
    | succ j ih =>
      intro hj
      have := ih (by omega)
      have f := D.full (j0 := (j : Int) + 1) (by omega) (by omega)
      have r := D.rng ((j : Int) + 1) (by omega) (by omega)
      have m0 := T.lo (rd O ((j : Int) + 1)) ((j : Int) + 1) f r.2 (by omega) (by omega)
      have m1 := T.hi (rd O ((j : Int) + 1)) ((j : Int) + 1) f r.2 (by omega) (by omega)
      simp only [sumTo]
      omega
  induction m with
  | zero =>
    intro j hj
    have : j = n := by omega
    subst this
    exact ev_step (fun k => by simp only [assign_cost.l0] <;> exact rfl) (ev_neg (by omega) (ev_now _))
  | succ m ih =>
    intro j hj
    have f := D.full (j0 := (j : Int) + 1) (by omega) (by omega)
    have r := D.rng ((j : Int) + 1) (by omega) (by omega)
    have b1 := bnd (j + 1) (by omega)
    have row := T.row (rd O ((j : Int) + 1)) f r.2
    refine ev_step (fun k => by simp only [assign_cost.l0] <;> exact rfl) (ev_pos (by omega) (ev_pos (by omega) (ev_pos (by omega) ?_)))
    rw [w64 (n := rd O ((j : Int) + 1) - 1) (by omega) (by omega), w64 (n := (j : Int) + 1 - 1) (by omega) (by omega)]
    refine ev_pos (by omega) (ev_pos (by omega) (ev_pos (by omega) (ev_pos (by omega) ?_)))
    simp only [sumTo] at b1
    rw [M_eq, w64 (n := _ + _) (by omega) (by omega), w64 (by omega) (by omega)]
    exact ih (j + 1) (by omega)
theorem cost_ev {c : List (List Int)} {n : Int} (T : Tab c n) : ∃ m, Ev (fun k => assign_cost.f k c) m ∧ IsMin c m := by
  obtain ⟨R, e, D⟩ := solve_ev T
  have hl := T.len
  subst hl
  refine ⟨_, ?_, D.min rfl⟩
  simp only [assign_cost.f]
  refine Ev.bind e ?_
  have := cost_walk T D c.length 0 (by omega)
  rw [D.owners] at this
  exact this
end Go.Proofs.YtaggccbndmmbhaaDoor.PAll
/- A table without its first row and a column: what it holds, and its assignments. -/
namespace Go.Proofs.YtaggccbndmmbhaaDoor.PAll
set_option linter.unusedVariables false
open Go Go.RowKit Go.Proofs.YtaggccbndmmbhaaDoorW.PrintWords Go.Proofs.YtaggccbndmmbhaaDoorW.PrintLast Go.Proofs.YtaggccbndmmbhaaDoorW.PrintMore Go.Proofs.YtaggccbndmmbhaaDoor.MathNum Go.Proofs.YtaggccbndmmbhaaDoor.EvWords

def skip (j q : Int) : Int := if q < j then q else q + 1
def unskip (j q : Int) : Int := if q < j then q else q - 1
def cutAt (row : List Int) (j : Int) : List Int := row.take j.toNat ++ row.drop (j.toNat + 1)
def wout (c : List (List Int)) (j : Int) : List (List Int) := (c.drop 1).map (fun row => cutAt row j)

theorem cutAt_len {row : List Int} {j : Int} (h0 : 0 ≤ j) (h1 : j < row.length) : ((cutAt row j).length : Int) = row.length - 1 := by
  unfold cutAt; rw [List.length_append, List.length_take, List.length_drop]; omega
theorem rd_cutAt {row : List Int} {j q : Int} (h0 : 0 ≤ j) (h1 : j < row.length) (hq : 0 ≤ q) : rd (cutAt row j) q = rd row (skip j q) := by
  unfold cutAt skip rd
  rw [List.getD_eq_getElem?_getD, List.getD_eq_getElem?_getD]
  by_cases h : q < j
  · rw [if_pos h, List.getElem?_append_left (by rw [List.length_take]; omega), List.getElem?_take, if_pos (by omega)]
  · rw [if_neg h, List.getElem?_append_right (by rw [List.length_take]; omega), List.getElem?_drop, List.length_take]
    congr 2; omega
theorem rdL_wout {c : List (List Int)} {j i : Int} (h0 : 0 ≤ i) (h1 : i + 1 < c.length) : rd_L2 (wout c j) i = cutAt (rd_L2 c (i + 1)) j := by
  unfold wout rd_L2
  rw [List.getD_eq_getElem?_getD, List.getD_eq_getElem?_getD, List.getElem?_map, List.getElem?_drop, show 1 + i.toNat = (i + 1).toNat by omega, List.getElem?_eq_getElem (by omega)]
  rfl
theorem wout_len {c : List (List Int)} {j : Int} : (wout c j).length = c.length - 1 := by
  unfold wout; rw [List.length_map, List.length_drop]

attribute [local irreducible] rd rdOf

theorem M_wout {c : List (List Int)} {n : Int} (T : Tab c n) {j r q : Int} (h0 : 0 ≤ j) (h1 : j < n) (r1 : 1 ≤ r) (r2 : r ≤ n - 1) (q1 : 1 ≤ q) : M (wout c j) r q = M c (r + 1) (skip j (q - 1) + 1) := by
  have hl := T.len
  unfold M
  rw [rdL_wout (by omega) (by omega), rd_cutAt h0 (by have := T.row0 (i := r - 1 + 1) (by omega) (by omega); omega) (by omega), show r - 1 + 1 = r + 1 - 1 by omega, show skip j (q - 1) + 1 - 1 = skip j (q - 1) by omega]
theorem skip_rng {j q n : Int} (h0 : 0 ≤ j) (h1 : j < n) (q0 : 0 ≤ q) (q1 : q < n - 1) : 0 ≤ skip j q ∧ skip j q < n ∧ skip j q ≠ j := by
  unfold skip; split <;> omega
theorem skip_inj {j q q' : Int} (e : skip j q = skip j q') : q = q' := by
  unfold skip at e; split at e <;> split at e <;> omega
theorem skip_mono {j q q' : Int} (h : q ≤ q') : skip j q ≤ skip j q' := by
  unfold skip; split <;> split <;> omega
theorem skip_le {j q q' : Int} (h : skip j q ≤ skip j q') : q ≤ q' := by
  unfold skip at h; split at h <;> split at h <;> omega
theorem skip_unskip {j q : Int} (h : q ≠ j) : skip j (unskip j q) = q := by
  unfold skip unskip
  by_cases e : q < j
  · rw [if_pos e, if_pos e]
  · rw [if_neg e, if_neg (by omega)]; omega
theorem unskip_rng {j q n : Int} (h0 : 0 ≤ j) (h1 : j < n) (h : q ≠ j) (q0 : 0 ≤ q) (q1 : q < n) : 0 ≤ unskip j q ∧ unskip j q < n - 1 := by
  unfold unskip; split <;> omega

theorem Tab.wout {c : List (List Int)} {n : Int} (T : Tab c n) {j : Int} (h0 : 0 ≤ j) (h1 : j < n) : Tab (PAll.wout c j) (n - 1) := by
  have hl := T.len
  have hn := T.le
  refine ⟨by rw [wout_len]; omega, by omega, fun r a b => ?_, fun r q a b d e => ?_, fun r q a b d e => ?_⟩
  · have row := T.row0 (i := r - 1 + 1) (by omega) (by omega)
    rw [rdL_wout (by omega) (by omega), cutAt_len h0 (by omega)]; omega
  · have s := skip_rng h0 h1 (q := q - 1) (by omega) (by omega)
    rw [M_wout T h0 h1 a b d]; exact T.lo _ _ (by omega) (by omega) (by omega) (by omega)
  · have s := skip_rng h0 h1 (q := q - 1) (by omega) (by omega)
    rw [M_wout T h0 h1 a b d]; exact T.hi _ _ (by omega) (by omega) (by omega) (by omega)

theorem without_loop {n j : Int} (h0 : 0 ≤ j) (h1 : j < n) (hn : n ≤ 16) {y : List (List Int)} (hy : ∀ i : Int, 0 ≤ i → i < y.length → ((rd_L2 y i).length : Int) = n) (hyl : y.length ≤ 16) (m : Nat) : ∀ i : Nat, i + m = y.length →
    Ev (fun k => assign_without.l0 k j ((y.take i).map fun row => cutAt row j) y (y.length : Int) (i : Int)) (y.map fun row => cutAt row j) := by
  induction m with
  | zero =>
    intro i hi
    rw [List.take_of_length_le (by omega)]
    exact ev_step (fun k => by simp only [assign_without.l0] <;> exact rfl) (ev_neg (by omega) (ev_now _))
  | succ m ih =>
    intro i hi
    have row := hy i (by omega) (by omega)
    refine ev_step (fun k => by simp only [assign_without.l0] <;> exact rfl) (ev_pos (by omega) (ev_pos (by omega) (ev_pos (by omega) (ev_let ?_))))
    rw [w64 (n := j + 1) (by omega) (by omega)]
    refine ev_pos (by omega) (ev_pos (by omega) (ev_pos (by rw [List.length_take]; simp only [List.length_nil]; omega) (ev_let ?_)))
    refine ev_pos (by omega) (ev_pos (by omega) (ev_pos (by rw [List.length_append, List.length_take, List.length_drop]; simp only [List.length_nil]; omega) (ev_pos (by rw [List.length_map, List.length_take]; omega) ?_)))
    rw [w64 (by omega) (by omega)]
    have := ih (i + 1) (by omega)
    rw [List.take_succ_eq_append_getElem (by omega), List.map_append, ← rdL_nat y (by omega)] at this
    have e : ([] ++ (rd_L2 y (i : Int)).take j.toNat ++ (rd_L2 y (i : Int)).drop (j + 1).toNat) = cutAt (rd_L2 y (i : Int)) j := by
      unfold cutAt; rw [List.nil_append, show (j + 1).toNat = j.toNat + 1 by omega]
    rw [e]
    exact this
theorem without_ev {c : List (List Int)} {n : Int} (T : Tab c n) {j : Int} (h0 : 0 ≤ j) (h1 : j < n) : Ev (fun k => assign_without.f k c j) (PAll.wout c j) := by
  have hl := T.len
  have hn := T.le
  simp only [assign_without.f]
  refine ev_pos (by omega) (ev_let ?_)
  have hy : ∀ i : Int, 0 ≤ i → i < (c.drop 1).length → ((rd_L2 (c.drop 1) i).length : Int) = n := by
    intro i a b
    rw [List.length_drop] at b
    have : rd_L2 (c.drop 1) i = rd_L2 c (i + 1) := by
      unfold rd_L2
      rw [List.getD_eq_getElem?_getD, List.getD_eq_getElem?_getD, List.getElem?_drop, show 1 + i.toNat = (i + 1).toNat by omega]
    rw [this]
    exact T.row0 (by omega) (by omega)
  have := without_loop h0 h1 hn hy (by rw [List.length_drop]; omega) (c.drop 1).length 0 (by omega)
  exact this

theorem sumTo_front (h : Nat → Int) (n : Nat) : sumTo h (n + 1) = h 0 + sumTo (fun i => h (i + 1)) n := by
  induction n with
  | zero => simp [sumTo]
  | succ n ih => rw [sumTo, ih]; simp only [sumTo]; omega

theorem rd_cons0 {a : Int} {l : List Int} : rd (a :: l) 0 = a := by unfold rd; rfl
theorem rd_cons {a : Int} {l : List Int} {i : Int} (h : 1 ≤ i) : rd (a :: l) i = rd l (i - 1) := by
  unfold rd
  rw [List.getD_eq_getElem?_getD, List.getD_eq_getElem?_getD, show i.toNat = (i - 1).toNat + 1 by omega, List.getElem?_cons_succ]
theorem rd_map {l : List Int} {f : Int → Int} {i : Int} (h0 : 0 ≤ i) (h1 : i < l.length) : rd (l.map f) i = f (rd l i) := by
  unfold rd
  rw [List.getD_eq_getElem?_getD, List.getD_eq_getElem?_getD, List.getElem?_map, List.getElem?_eq_getElem (by omega)]; rfl

/-- A first column, and an assignment of what is left. -/
theorem asg_cons {l : List Int} {n j : Int} (h0 : 0 ≤ j) (h1 : j < n) (h : Asg l (n - 1)) : Asg (j :: l.map (skip j)) n := by
  have hl := h.1
  refine ⟨by rw [List.length_cons, List.length_map]; omega, fun p a b => ?_⟩
  by_cases e : p = 0
  · subst e
    rw [rd_cons0]
    exact ⟨h0, h1, fun q a b => by omega⟩
  · have hp := h.2 (p - 1) (by omega) (by omega)
    have s := skip_rng h0 h1 (q := rd l (p - 1)) hp.1 hp.2.1
    rw [rd_cons (by omega), rd_map (by omega) (by omega)]
    refine ⟨s.1, s.2.1, fun q c d => ?_⟩
    by_cases e : q = 0
    · subst e; rw [rd_cons0]; exact fun e => s.2.2 e.symm
    · rw [rd_cons (by omega), rd_map (by omega) (by omega)]
      exact fun e => hp.2.2 (q - 1) (by omega) (by omega) (skip_inj e)
theorem csum_cons {c : List (List Int)} {n : Nat} (T : Tab c ((n : Int) + 1)) {l : List Int} {j : Int} (h0 : 0 ≤ j) (h1 : j < (n : Int) + 1) (h : Asg l n) :
    csum c (j :: l.map (skip j)) (n + 1) = M c 1 (j + 1) + csum (wout c j) l n := by
  have hl := h.1
  rw [csum_sum, sumTo_front, csum_sum]
  congr 1
  · show M c _ (rd (j :: _) 0 + 1) = _
    rw [rd_cons0]; rfl
  refine sumTo_congr n fun i hi => ?_
  have hp := h.2 i (by omega) (by omega)
  rw [M_wout T h0 (by omega) (by omega) (by omega) (by omega), rd_cons (by omega), rd_map (by omega) (by omega)]
  rw [show ((i + 1 : Nat) : Int) - 1 = (i : Int) by omega, show rd l (i : Int) + 1 - 1 = rd l (i : Int) by omega]
  rfl
/-- Each assignment is one of these. -/
theorem asg_uncons {l : List Int} {n : Int} (hn : 1 ≤ n) (h : Asg l n) : ∃ l', Asg l' (n - 1) ∧ l = rd l 0 :: l'.map (skip (rd l 0)) := by
  have hl := h.1
  have h00 := h.2 0 (by omega) (by omega)
  cases l with
  | nil => rw [List.length_nil] at hl; omega
  | cons j r =>
    rw [rd_cons0] at h00 ⊢
    rw [List.length_cons] at hl
    have hr : ∀ p, 0 ≤ p → p < n - 1 → 0 ≤ rd r p ∧ rd r p < n ∧ rd r p ≠ j ∧ ∀ q, 0 ≤ q → q < p → rd r q ≠ rd r p := by
      intro p a b
      have hp := h.2 (p + 1) (by omega) (by omega)
      rw [rd_cons (by omega), show p + 1 - 1 = p by omega] at hp
      refine ⟨hp.1, hp.2.1, fun e => hp.2.2 0 (by omega) (by omega) (by rw [rd_cons0, e]), fun q c d => ?_⟩
      have := hp.2.2 (q + 1) (by omega) (by omega)
      rwa [rd_cons (by omega), show q + 1 - 1 = q by omega] at this
    refine ⟨r.map (unskip j), ⟨by rw [List.length_map]; omega, fun p a b => ?_⟩, ?_⟩
    · have x := hr p a b
      rw [rd_map a (by omega)]
      have u := unskip_rng h00.1 h00.2.1 x.2.2.1 x.1 x.2.1
      refine ⟨u.1, u.2, fun q c d e => ?_⟩
      rw [rd_map c (by omega)] at e
      have y := hr q c (by omega)
      have : rd r q = rd r p := by rw [← skip_unskip y.2.2.1, e, skip_unskip x.2.2.1]
      exact x.2.2.2 q c d this
    · rw [List.map_map]
      congr 1
      refine List.ext_getElem (by simp) fun i h1 h2 => ?_
      rw [List.getElem_map]
      have := hr (i : Int) (by omega) (by omega)
      rw [rd_nat r h1] at this
      exact (skip_unskip this.2.2.1).symm
end Go.Proofs.YtaggccbndmmbhaaDoor.PAll
/- Solve answers the lexicographically least of the assignments of least cost. -/
namespace Go.Proofs.YtaggccbndmmbhaaDoor.PAll
set_option linter.unusedVariables false
open Go Go.RowKit Go.Proofs.YtaggccbndmmbhaaDoorW.PrintWords Go.Proofs.YtaggccbndmmbhaaDoorW.PrintLast Go.Proofs.YtaggccbndmmbhaaDoorW.PrintMore Go.Proofs.YtaggccbndmmbhaaDoor.MathNum Go.Proofs.YtaggccbndmmbhaaDoor.EvWords
attribute [local irreducible] rd M rdOf

/-- l is the lexicographically least assignment that costs m; m is the least cost. -/
structure Best (c : List (List Int)) (n : Nat) (l : List Int) (m : Int) : Prop where
  asg : Asg l n
  cost : csum c l n = m
  min : ∀ l', Asg l' n → m ≤ csum c l' n
  lex : ∀ l', Asg l' n → csum c l' n = m → ∀ i : Nat, i < n → (∀ p : Nat, p < i → rd l' p = rd l p) → rd l i ≤ rd l' i

theorem Best.isMin {c : List (List Int)} {l : List Int} {m : Int} (h : Best c c.length l m) : IsMin c m := ⟨⟨l, h.asg, h.cost⟩, h.min⟩
theorem Best.unique {c : List (List Int)} {n : Nat} {l l' : List Int} {m m' : Int} (h : Best c n l m) (h' : Best c n l' m') : l = l' ∧ m = m' := by
  have hm : m = m' := by
    have a := h.min l' h'.asg
    have b := h'.min l h.asg
    rw [h'.cost] at a; rw [h.cost] at b; omega
  subst hm
  refine ⟨?_, rfl⟩
  have all : ∀ i : Nat, i < n → rd l i = rd l' i := by
    intro i
    induction i using Nat.strongRecOn with
    | _ i ih =>
      intro hi
      have a := h.lex l' h'.asg h'.cost i hi (fun p hp => (ih p hp (by omega)).symm)
      have b := h'.lex l h.asg h.cost i hi (fun p hp => ih p hp (by omega))
      omega
  have la := h.asg.1
  have lb := h'.asg.1
  refine List.ext_getElem (by omega) fun i h1 h2 => ?_
  have := all i (by omega)
  rwa [rd_nat l h1, rd_nat l' h2] at this

theorem best_nil {c : List (List Int)} : Best c 0 [] 0 :=
  ⟨⟨rfl, fun p a b => by omega⟩, rfl, fun l' _ => Int.le_refl _, fun l' _ _ i hi => by omega⟩

/-- The first column with which the least cost can be reached, and the best of what is left. -/
theorem best_cons {c : List (List Int)} {n : Nat} (T : Tab c ((n : Int) + 1)) {j : Int} (h0 : 0 ≤ j) (h1 : j < (n : Int) + 1) {l : List Int} {m m' : Int} (hm : IsMin c m) (B : Best (wout c j) n l m') (e : M c 1 (j + 1) + m' = m)
    (hfirst : ∀ q, 0 ≤ q → q < j → ∀ m'', IsMin (wout c q) m'' → M c 1 (q + 1) + m'' ≠ m) : Best c (n + 1) (j :: l.map (skip j)) m := by
  have hl := T.len
  have hlen : c.length = n + 1 := by omega
  have hc : csum c (j :: l.map (skip j)) (n + 1) = m := by rw [csum_cons T h0 h1 B.asg, B.cost, e]
  have hla := B.asg.1
  have cast : ((n + 1 : Nat) : Int) = (n : Int) + 1 := by omega
  have hsub : (n : Int) + 1 - 1 = n := by omega
  have A : Asg (j :: l.map (skip j)) ((n + 1 : Nat) : Int) := by
    rw [cast]; exact asg_cons h0 h1 (by rw [hsub]; exact B.asg)
  refine ⟨A, hc, fun l' h => ?_, fun l' h hc' i hi hp => ?_⟩
  · have := hm.2 l' (by rw [hlen]; exact h); rwa [hlen] at this
  · rw [cast] at h
    obtain ⟨r, hr, er⟩ := asg_uncons (by omega) h
    rw [hsub] at hr
    have h00 := h.2 0 (by omega) (by omega)
    obtain ⟨v, hv⟩ : ∃ v, v = rd l' 0 := ⟨_, rfl⟩
    rw [← hv] at er h00
    have hcc := csum_cons T h00.1 h00.2.1 hr
    rw [← er, hc'] at hcc
    have hv0 : j ≤ v := by
      apply Classical.byContradiction
      intro hlt
      -- the least cost of the table without column v
      have hwl : (wout c v).length = n := by rw [wout_len, hlen]; omega
      have Tv := T.wout h00.1 h00.2.1
      have : IsMin (wout c v) (csum (wout c v) r n) := by
        refine ⟨⟨r, by rw [hwl]; exact hr, by rw [hwl]⟩, fun r' h' => ?_⟩
        rw [hwl] at h' ⊢
        have a := asg_cons h00.1 h00.2.1 (l := r') (by rw [hsub]; exact h')
        have := hm.2 _ (by rw [hlen, cast]; exact a)
        rw [hlen, csum_cons T h00.1 h00.2.1 h'] at this
        omega
      exact hfirst v h00.1 (by omega) _ this hcc.symm
    by_cases hi0 : i = 0
    · subst hi0
      show rd (j :: _) 0 ≤ rd l' 0
      rw [rd_cons0, ← hv]; exact hv0
    · have e0 := hp 0 (by omega)
      have e0' : rd l' 0 = rd (j :: l.map (skip j)) 0 := e0
      rw [rd_cons0, ← hv] at e0'
      subst e0'
      rw [er]
      rw [rd_cons (by omega), rd_cons (by omega), rd_map (by omega) (by omega), rd_map (by omega) (by have := hr.1; omega)]
      apply skip_mono
      have hx := B.lex r hr (by have := hcc; omega) (i - 1) (by omega) (fun p hp' => ?_)
      · rwa [show ((i - 1 : Nat) : Int) = (i : Int) - 1 by omega] at hx
      · have := hp (p + 1) (by omega)
        rw [er, rd_cons (by omega), rd_cons (by omega), rd_map (by omega) (by have := hr.1; omega), rd_map (by omega) (by omega), show ((p + 1 : Nat) : Int) - 1 = p by omega] at this
        exact skip_inj this

/-- With some first column the least cost can be reached. -/
theorem first_exists {c : List (List Int)} {n : Nat} (T : Tab c ((n : Int) + 1)) {m : Int} (hm : IsMin c m) : ∃ q, 0 ≤ q ∧ q < (n : Int) + 1 ∧ ∀ m'', IsMin (wout c q) m'' → M c 1 (q + 1) + m'' = m := by
  have hl := T.len
  have hlen : c.length = n + 1 := by omega
  have cast : ((n + 1 : Nat) : Int) = (n : Int) + 1 := by omega
  have hsub : (n : Int) + 1 - 1 = n := by omega
  obtain ⟨l', h, e⟩ := hm.1
  rw [hlen] at h e
  rw [cast] at h
  obtain ⟨r, hr, er⟩ := asg_uncons (by omega) h
  rw [hsub] at hr
  have h00 := h.2 0 (by omega) (by omega)
  obtain ⟨v, hv⟩ : ∃ v, v = rd l' 0 := ⟨_, rfl⟩
  rw [← hv] at er h00
  have hcc := csum_cons T h00.1 h00.2.1 hr
  rw [← er, e] at hcc
  refine ⟨v, h00.1, h00.2.1, fun m'' h'' => ?_⟩
  have hwl : (wout c v).length = n := by rw [wout_len, hlen]; omega
  have a := h''.2 r (by rw [hwl]; exact hr)
  rw [hwl] at a
  obtain ⟨r2, hr2, e2⟩ := h''.1
  rw [hwl] at hr2 e2
  have b := hm.2 _ (by rw [hlen, cast]; exact asg_cons h00.1 h00.2.1 (l := r2) (by rw [hsub]; exact hr2))
  rw [hlen, csum_cons T h00.1 h00.2.1 hr2, e2] at b
  omega

theorem rd_names {names : List Int} {j : Int} (h0 : 0 ≤ j) (h1 : j < names.length) {q : Int} (hq : 0 ≤ q) : rd (([] ++ names.take j.toNat) ++ names.drop (j + 1).toNat) q = rd names (skip j q) := by
  have : (([] ++ names.take j.toNat) ++ names.drop (j + 1).toNat) = cutAt names j := by unfold cutAt; rw [List.nil_append, show (j + 1).toNat = j.toNat + 1 by omega]
  rw [this, rd_cutAt h0 h1 hq]
theorem names_len {names : List Int} {j : Int} (h0 : 0 ≤ j) (h1 : j < names.length) : (([] ++ names.take j.toNat) ++ names.drop (j + 1).toNat).length = names.length - 1 := by
  rw [List.nil_append, List.length_append, List.length_take, List.length_drop]; omega

theorem IsMin.rng {c : List (List Int)} {n m : Int} (T : Tab c n) (h : IsMin c m) : 0 ≤ m ∧ m ≤ 17592186044416 := by
  obtain ⟨l, a, e⟩ := h.1
  have hl := T.len
  have hn := T.le
  have := csum_bound T (l := l) c.length (by omega) (by rw [← hl]; exact a.2)
  omega

theorem solve_l2 {best : Int} {n : Nat} {names out : List Int} {c : List (List Int)} {left : Int} (T : Tab c ((n : Int) + 1)) (hm : IsMin c left) (hnl : names.length = n + 1) (hol : out.length ≤ 16)
    (R : List Int × Int × Int) (hR : ∀ l, Best c (n + 1) l left → R = (out ++ l.map (rd names), best, 0))
    (hK : ∀ j m', 0 ≤ j → j < (n : Int) + 1 → IsMin (wout c j) m' → ∃ l', Best (wout c j) n l' m' ∧
        Ev (fun k => assign_Solve.l1 k best (([] ++ names.take j.toNat) ++ names.drop (j + 1).toNat) (out ++ [rd names j]) m' (wout c j)) ((out ++ [rd names j]) ++ l'.map (rd (([] ++ names.take j.toNat) ++ names.drop (j + 1).toNat)), best, 0))
    (d : Nat) : ∀ j : Int, 0 ≤ j → j + d = (n : Int) + 1 → (∀ q, 0 ≤ q → q < j → ∀ m'', IsMin (wout c q) m'' → M c 1 (q + 1) + m'' ≠ left) →
      Ev (fun k => assign_Solve.l2 k best names out left c (rd_L2 c 0) ((rd_L2 c 0).length : Int) j) R := by
  have hl := T.len
  have hn := T.le
  have row := T.row0 (i := 0) (Int.le_refl _) (by omega)
  induction d with
  | zero =>
    intro j h0 hj hf
    obtain ⟨q, q0, q1, hq⟩ := first_exists T hm
    obtain ⟨mq, _, hmq⟩ := cost_ev (T.wout q0 q1)
    exact absurd (hq mq hmq) (hf q q0 (by omega) mq hmq)
  | succ d ih =>
    intro j h0 hj hf
    have h1 : j < (n : Int) + 1 := by omega
    obtain ⟨mj, ej, hmj⟩ := cost_ev (T.wout h0 h1)
    have b1 := hmj.rng (T.wout h0 h1)
    have b2 := T.lo 1 (j + 1) (by omega) (by omega) (by omega) (by omega)
    have b3 := T.hi 1 (j + 1) (by omega) (by omega) (by omega) (by omega)
    refine ev_step (fun k => by simp only [assign_Solve.l2] <;> exact rfl) (ev_pos (by omega) (ev_pos h0 (ev_pos (by omega) ?_)))
    refine Ev.bind (without_ev T h0 h1) (Ev.bind ej ?_)
    rw [cell_M (i := 0) (j := j), show (0 : Int) + 1 = 1 by omega, w64 (n := M c 1 (j + 1) + mj) (by omega) (by omega)]
    by_cases e : M c 1 (j + 1) + mj = left
    · obtain ⟨l', B, e'⟩ := hK j mj h0 h1 hmj
      have hla := B.asg.1
      refine ev_pos e (ev_pos (by omega) (ev_pos (by omega) (ev_let (ev_pos (by omega) (ev_let (ev_pos (by rw [List.length_take]; simp only [List.length_nil]; omega) (ev_let ?_)))))))
      rw [w64 (n := j + 1) (by omega) (by omega)]
      refine ev_pos (by omega) (ev_pos (by omega) (ev_let (ev_pos (by rw [List.length_append, List.length_take, List.length_drop]; simp only [List.length_nil]; omega) ?_)))
      rw [show left - M c 1 (j + 1) = mj by omega, w64 (n := mj) (by omega) (by omega)]
      refine ev_eq e' ?_
      rw [hR _ (best_cons T h0 h1 hm B e hf), List.map_cons, List.append_assoc, List.map_map]
      congr 2
      show rd names j :: _ = rd names j :: _
      congr 1
      refine List.map_congr_left fun q hq => ?_
      obtain ⟨i, hi, rfl⟩ := List.getElem_of_mem hq
      have := B.asg.2 i (by omega) (by omega)
      rw [rd_nat l' hi] at this
      rw [rd_names h0 (by omega) this.1]; rfl
    · refine ev_neg e ?_
      rw [w64 (n := j + 1) (by omega) (by omega)]
      exact ih (j + 1) (by omega) (by omega) (fun q q0 q1 m'' h'' => by
        by_cases eq : q = j
        · subst eq; rw [h''.unique hmj]; exact e
        · exact hf q q0 (by omega) m'' h'')

theorem solve_l1 {best : Int} (n : Nat) : ∀ (names out : List Int) (left : Int) (c : List (List Int)), Tab c n → IsMin c left → names.length = n → out.length + n ≤ 16 →
    ∃ l, Best c n l left ∧ Ev (fun k => assign_Solve.l1 k best names out left c) (out ++ l.map (rd names), best, 0) := by
  induction n with
  | zero =>
    intro names out left c T hm hnl hol
    have hl := T.len
    have hlen : c.length = 0 := by omega
    have : left = 0 := by
      obtain ⟨l, _, e⟩ := hm.1
      rw [hlen] at e
      simpa [csum] using e.symm
    subst this
    refine ⟨[], best_nil, ?_⟩
    rw [List.map_nil, List.append_nil]
    exact ev_step (fun k => by simp only [assign_Solve.l1] <;> exact rfl) (ev_neg (by omega) (ev_now _))
  | succ n ih =>
    intro names out left c T hm hnl hol
    have cast : ((n + 1 : Nat) : Int) = (n : Int) + 1 := by omega
    have hsub : (n : Int) + 1 - 1 = n := by omega
    rw [cast] at T
    have hl := T.len
    -- the best list of this table
    have hK : ∀ j m', 0 ≤ j → j < (n : Int) + 1 → IsMin (wout c j) m' → ∃ l', Best (wout c j) n l' m' ∧
        Ev (fun k => assign_Solve.l1 k best (([] ++ names.take j.toNat) ++ names.drop (j + 1).toNat) (out ++ [rd names j]) m' (wout c j)) ((out ++ [rd names j]) ++ l'.map (rd (([] ++ names.take j.toNat) ++ names.drop (j + 1).toNat)), best, 0) := by
      intro j m' h0 h1 h'
      exact ih _ _ m' (wout c j) (by have := T.wout h0 h1; rwa [hsub] at this) h' (by rw [names_len h0 (by omega), hnl]; omega) (by rw [List.length_append]; simp only [List.length_cons, List.length_nil]; omega)
    -- it exists: the first column from the left
    have hex : ∃ l, Best c (n + 1) l left := by
      obtain ⟨q, q0, q1, hq⟩ := first_exists T hm
      have main : ∀ d : Nat, ∀ j : Int, 0 ≤ j → j + d = q → (∀ p, 0 ≤ p → p < j → ∀ m'', IsMin (wout c p) m'' → M c 1 (p + 1) + m'' ≠ left) → ∃ l, Best c (n + 1) l left := by
        intro d
        induction d with
        | zero =>
          intro j h0 hj hf
          have : j = q := by omega
          subst this
          obtain ⟨mq, _, hmq⟩ := cost_ev (T.wout q0 q1)
          obtain ⟨l', B, _⟩ := hK j mq q0 q1 hmq
          exact ⟨_, best_cons T q0 q1 hm B (hq mq hmq) hf⟩
        | succ d ih2 =>
          intro j h0 hj hf
          have h1 : j < (n : Int) + 1 := by omega
          obtain ⟨mj, _, hmj⟩ := cost_ev (T.wout h0 h1)
          by_cases e : M c 1 (j + 1) + mj = left
          · obtain ⟨l', B, _⟩ := hK j mj h0 h1 hmj
            exact ⟨_, best_cons T h0 h1 hm B e hf⟩
          · exact ih2 (j + 1) (by omega) (by omega) (fun p p0 p1 m'' h'' => by
              by_cases eq : p = j
              · subst eq; rw [h''.unique hmj]; exact e
              · exact hf p p0 (by omega) m'' h'')
      exact main q.toNat 0 (Int.le_refl _) (by omega) (fun p p0 p1 => by omega)
    obtain ⟨l, B⟩ := hex
    refine ⟨l, B, ?_⟩
    refine ev_step (fun k => by simp only [assign_Solve.l1] <;> exact rfl) (ev_pos (by omega) (ev_pos (by omega) ?_))
    exact solve_l2 T hm hnl (by omega) _ (fun l2 B2 => by rw [(B2.unique B).1]) hK (n + 1) 0 (Int.le_refl _) (by omega) (fun p p0 p1 => by omega)

theorem solve_l0 {c : List (List Int)} {best : Int} {n : Nat} (hn : n ≤ 16) {R : List Int × Int × Int} (hK : ∀ names : List Int, names.length = n → (∀ q : Nat, q < n → rd names q = q) → Ev (fun k => assign_Solve.l1 k best names [] best c) R)
    (d : Nat) : ∀ (j : Nat) (names : List Int), j + d = n → names.length = j → (∀ q : Nat, q < j → rd names q = q) → Ev (fun k => assign_Solve.l0 k c best names (n : Int) (j : Int)) R := by
  induction d with
  | zero =>
    intro j names hj hl hs
    have : j = n := by omega
    subst this
    exact ev_step (fun k => by simp only [assign_Solve.l0] <;> exact rfl) (ev_neg (by omega) (hK names hl hs))
  | succ d ih =>
    intro j names hj hl hs
    refine ev_step (fun k => by simp only [assign_Solve.l0] <;> exact rfl) (ev_pos (by omega) (ev_pos (by omega) ?_))
    rw [w64 (by omega) (by omega)]
    refine ih (j + 1) _ (by omega) (by rw [List.length_append]; simp only [List.length_cons, List.length_nil]; omega) (fun q hq => ?_)
    rw [rd_nat _ (by rw [List.length_append]; simp only [List.length_cons, List.length_nil]; omega)]
    by_cases e : q = j
    · subst e
      rw [List.getElem_append_right (by omega)]; simp [hl]
    · rw [List.getElem_append_left (by omega), ← rd_nat names (by omega)]; exact hs q (by omega)

/-- Solve of a valid table. -/
theorem Solve_ev {c : List (List Int)} (h : chk c = 0) : ∃ l m, Best c c.length l m ∧ Ev (fun k => assign_Solve.f k c) (l, m, 0) := by
  have T := tab_of h
  have hn := T.le
  obtain ⟨m, em, hm⟩ := cost_ev T
  obtain ⟨l, B, _⟩ := solve_l1 (best := m) c.length (List.replicate c.length 0) [] m c T hm (by simp) (by simp only [List.length_nil]; omega)
  refine ⟨l, m, B, ?_⟩
  simp only [assign_Solve.f]
  refine Ev.bind (acheck_ev c) (ev_pos h (Ev.bind em ?_))
  refine solve_l0 (n := c.length) (by omega) (fun names hl hs => ?_) c.length 0 [] (by omega) rfl (fun q hq => by omega)
  obtain ⟨l2, B2, e⟩ := solve_l1 (best := m) c.length names [] m c T hm hl (by simp only [List.length_nil]; omega)
  rw [(B2.unique B).1] at e
  refine ev_eq e ?_
  rw [List.nil_append]
  congr 1
  refine List.ext_getElem (by simp) fun i h1 h2 => ?_
  rw [List.getElem_map]
  have := B.asg.2 i (by omega) (by have := B.asg.1; omega)
  rw [rd_nat l h2] at this
  have hx := hs (l[i]).toNat (by omega)
  rwa [Int.toNat_of_nonneg this.1] at hx
end Go.Proofs.YtaggccbndmmbhaaDoor.PAll
/- Fit: the table of the squares of the ways, and what both answer. -/
namespace Go.Proofs.YtaggccbndmmbhaaDoor.PAll
set_option linter.unusedVariables false
open Go Go.RowKit Go.Proofs.YtaggccbndmmbhaaDoorW.PrintWords Go.Proofs.YtaggccbndmmbhaaDoorW.PrintLast Go.Proofs.YtaggccbndmmbhaaDoorW.PrintMore Go.Proofs.YtaggccbndmmbhaaDoor.MathNum Go.Proofs.YtaggccbndmmbhaaDoor.EvWords

def d2 (a b : S52) : Int := (a.f0 - b.f0) * (a.f0 - b.f0) + (a.f1 - b.f1) * (a.f1 - b.f1)
def tbl (q p : List S52) : List (List Int) := q.map fun a => p.map (d2 a)
theorem inR_pOk {a : S52} (h : inR a) : pOk a := ⟨⟨h.1, h.2.1⟩, h.2.2.1, h.2.2.2⟩
theorem dist_ok {a b : S52} (ha : inR a) (hb : inR b) : Ev (fun k => geom_Dist2.f k a.f0 a.f1 b.f0 b.f1) (d2 a b, 0) := by
  have v := valid_ev (ps := [(⟨a.f0, a.f1⟩ : S52), (⟨b.f0, b.f1⟩ : S52)]) (rs := []) (by simp) (by simp)
  have h1 := inR_pOk ha
  have h2 := inR_pOk hb
  have h : (cOk a.f0 ∧ cOk a.f1) ∧ (cOk b.f0 ∧ cOk b.f1) := ⟨h1, h2⟩
  simp only [geom_Dist2.f]
  refine Ev.bind v (ev_pos (by simpa [pOk] using h) ?_)
  rw [minus_ok h.1.1 h.1.2 h.2.1 h.2.2]
  unfold cOk at h
  simp only [Option.bind_some]
  rw [dot_ok (by omega) (by omega) (by omega) (by omega)]
  exact ev_now _
theorem rdist_ok {a b : S52} (ha : inR a) (hb : inR b) : dancestudioref03_Dist2.f a.f0 a.f1 b.f0 b.f1 = some (d2 a b, 0) := by
  have h1 := inR_pOk ha
  have h2 := inR_pOk hb
  have h : (cOk a.f0 ∧ cOk a.f1) ∧ (cOk b.f0 ∧ cOk b.f1) := ⟨h1, h2⟩
  unfold dancestudioref03_Dist2.f
  rw [rValid, rValid, square_ok h.1.1 h.1.2 h.2.1 h.2.2]
  simp [h, d2]
theorem d2_range {a b : S52} (ha : inR a) (hb : inR b) : 0 ≤ d2 a b ∧ d2 a b ≤ 8589934592 := by
  unfold inR at *
  have m1 := mul_bound (a := a.f0 - b.f0) (b := a.f0 - b.f0) (m := 65536) (n := 65536) (by omega) (by omega)
  have m2 := mul_bound (a := a.f1 - b.f1) (b := a.f1 - b.f1) (m := 65536) (n := 65536) (by omega) (by omega)
  have s1 : 0 ≤ (a.f0 - b.f0) * (a.f0 - b.f0) := by
    rcases Int.le_total 0 (a.f0 - b.f0) with h | h
    · exact Int.mul_nonneg h h
    · exact Int.mul_nonneg_of_nonpos_of_nonpos h h
  have s2 : 0 ≤ (a.f1 - b.f1) * (a.f1 - b.f1) := by
    rcases Int.le_total 0 (a.f1 - b.f1) with h | h
    · exact Int.mul_nonneg h h
    · exact Int.mul_nonneg_of_nonpos_of_nonpos h h
  unfold d2
  omega
theorem tbl_len (q p : List S52) : (tbl q p).length = q.length := by unfold tbl; rw [List.length_map]
theorem tbl_chk {q p : List S52} (h : q.length = p.length) (hp : p.length ≤ 16) (rp : ∀ a ∈ p, inR a) (rq : ∀ a ∈ q, inR a) : chk (tbl q p) = 0 := by
  unfold chk
  rw [tbl_len, if_neg (by omega), if_pos ?_, if_pos ?_]
  · rw [List.all_eq_true]
    intro r hr
    unfold tbl at hr
    obtain ⟨a, ha, rfl⟩ := List.mem_map.1 hr
    rw [List.all_eq_true]
    intro x hx
    obtain ⟨b, hb, rfl⟩ := List.mem_map.1 hx
    have := d2_range (rq a ha) (rp b hb)
    exact valOk_iff.2 (by omega)
  · rw [List.all_eq_true]
    intro r hr
    unfold tbl at hr
    obtain ⟨a, ha, rfl⟩ := List.mem_map.1 hr
    unfold lenOk
    simp [h]
theorem take_mapI {g : S52 → Int} (p : List S52) {i : Nat} (h : i < p.length) : (p.take i).map g ++ [g p[i]] = (p.take (i + 1)).map g := by
  rw [List.take_add_one, List.getElem?_eq_getElem h, List.map_append]; rfl
theorem take_tbl (q p : List S52) {i : Nat} (h : i < q.length) : tbl (q.take i) p ++ [p.map (d2 q[i])] = tbl (q.take (i + 1)) p := by
  unfold tbl
  rw [List.take_add_one, List.getElem?_eq_getElem h, List.map_append]; rfl
section
variable {s : ByteArray} {p q : List S52} (hp : p.length ≤ 16) (hq : q.length = p.length) (rp : ∀ a ∈ p, inR a) (rq : ∀ a ∈ q, inR a) {R : List Int × Int × Int}
include hp hq rp rq
theorem fit_l0 (hR : Ev (fun k => assign_Solve.f k (tbl q p)) R) (d : Nat) : ∀ i : Nat, i + d = q.length → Ev (fun k => formation_Fit.l0 k (tbl (q.take i) p) q (q.length : Int) (i : Int) s p) R := by
  induction d with
  | zero =>
    intro i hi
    rw [List.take_of_length_le (by omega)]
    exact ev_step (fun k => by simp only [formation_Fit.l0] <;> exact rfl) (ev_neg (by omega) (Ev.bind hR (ev_now _)))
  | succ d ih =>
    intro i hi
    have hlt : i < q.length := by omega
    have ra := rq q[i] (List.getElem_mem hlt)
    refine ev_step (fun k => by simp only [formation_Fit.l0] <;> exact rfl) (ev_pos (by omega) (ev_pos (by omega) (ev_pos (by omega) ?_)))
    rw [rdT q hlt]
    have inner : ∀ e j : Nat, j + e = p.length → Ev (fun k => formation_Fit.l1 k (tbl (q.take i) p) ((p.take j).map (d2 q[i])) q (q.length : Int) (i : Int) p (p.length : Int) (j : Int) s p q[i].f0 q[i].f1) R := by
      intro e
      induction e with
      | zero =>
        intro j hj
        refine ev_step (fun k => by simp only [formation_Fit.l1] <;> exact rfl) (ev_neg (by omega) (ev_pos (by rw [tbl_len, List.length_take]; omega) ?_))
        rw [w64 (by omega) (by omega), List.take_of_length_le (show p.length ≤ j by omega), take_tbl q p hlt]
        exact ih (i + 1) (by omega)
      | succ e ihe =>
        intro j hj
        have hjl : j < p.length := by omega
        refine ev_step (fun k => by simp only [formation_Fit.l1] <;> exact rfl) (ev_pos (by omega) (ev_pos (by omega) (ev_pos (by omega) ?_)))
        simp only [rdT p hjl]
        refine Ev.bind (dist_ok ra (rp p[j] (List.getElem_mem hjl))) (ev_pos (by rw [List.length_map, List.length_take]; omega) ?_)
        rw [w64 (by omega) (by omega), take_mapI p hjl]
        exact ihe (j + 1) (by omega)
    exact inner p.length 0 (by omega)
theorem rfit_l0 (hR : Ev (fun k => dancestudioref11_Solve.f k (tbl q p)) R) (d : Nat) : ∀ i : Nat, i + d = q.length → Ev (fun k => dancestudioref45_Fit.l0 k q (tbl (q.take i) p) (i : Int) s p) R := by
  induction d with
  | zero =>
    intro i hi
    rw [List.take_of_length_le (by omega)]
    exact ev_step (fun k => by simp only [dancestudioref45_Fit.l0] <;> exact rfl) (ev_neg (by omega) (Ev.bind hR (ev_now _)))
  | succ d ih =>
    intro i hi
    have hlt : i < q.length := by omega
    have ra := rq q[i] (List.getElem_mem hlt)
    refine ev_step (fun k => by simp only [dancestudioref45_Fit.l0] <;> exact rfl) (ev_pos (by omega) (ev_pos (by omega) ?_))
    simp only [rdT q hlt, rvalid_ev, Option.bind_some]
    refine ev_pos (decide_eq_true ra) ?_
    have inner : ∀ e j : Nat, j + e = p.length → Ev (fun k => dancestudioref45_Fit.l1 k q (tbl (q.take i) p) (i : Int) ((p.take j).map (d2 q[i])) (j : Int) s p) R := by
      intro e
      induction e with
      | zero =>
        intro j hj
        refine ev_step (fun k => by simp only [dancestudioref45_Fit.l1] <;> exact rfl) (ev_neg (by omega) (ev_pos (by rw [tbl_len, List.length_take]; omega) ?_))
        rw [w64 (by omega) (by omega), List.take_of_length_le (show p.length ≤ j by omega), take_tbl q p hlt]
        exact ih (i + 1) (by omega)
      | succ e ihe =>
        intro j hj
        have hjl : j < p.length := by omega
        refine ev_step (fun k => by simp only [dancestudioref45_Fit.l1] <;> exact rfl) (ev_pos (by omega) (ev_pos (by omega) (ev_pos (by omega) (ev_pos (by omega) ?_))))
        simp only [rdT q hlt, rdT p hjl, rdist_ok ra (rp p[j] (List.getElem_mem hjl)), Option.bind_some]
        refine ev_pos (by rw [List.length_map, List.length_take]; omega) ?_
        rw [w64 (by omega) (by omega), take_mapI p hjl]
        exact ihe (j + 1) (by omega)
    exact inner p.length 0 (by omega)
end
/-- What Fit answers. -/
def FitR (l : Bs) (p q : List S52) (R : List Int × Int × Int) : Prop :=
  (chkF l p ≠ 0 ∧ R = ([], 0, chkF l p)) ∨ (chkF l p = 0 ∧ q.length ≠ p.length ∧ R = ([], 0, 2)) ∨ (chkF l p = 0 ∧ q.length = p.length ∧ ¬ (∀ a ∈ q, inR a) ∧ R = ([], 0, 1)) ∨
    (chkF l p = 0 ∧ q.length = p.length ∧ (∀ a ∈ q, inR a) ∧ R.2.2 = 0 ∧ Best (tbl q p) p.length R.1 R.2.1)
theorem all_mem {p : List S52} : (∀ j (h : j < p.length), inR p[j]) ↔ ∀ a ∈ p, inR a :=
  ⟨fun h a ha => by obtain ⟨j, hj, rfl⟩ := List.getElem_of_mem ha; exact h j hj, fun h j hj => h _ (List.getElem_mem hj)⟩
theorem fit_ev (l : Bs) (p q : List S52) (hn : q.length ≤ maxLen) : ∃ R, FitR l p q R ∧ Ev (fun k => formation_Fit.f k (mkB l) p q) R := by
  unfold formation_Fit.f
  by_cases h0 : chkF l p = 0
  · obtain ⟨h1, h2, h3, _⟩ := chkF_ok h0
    have c0 := check_ev l p
    rw [h0] at c0
    by_cases h4 : q.length = p.length
    · obtain ⟨b, hb, eb⟩ := cf_ev q (by unfold maxLen at hn; omega)
      by_cases h5 : ∀ a ∈ q, inR a
      · obtain ⟨s, m, B, e⟩ := Solve_ev (tbl_chk h4 h2 (all_mem.1 h3) h5)
        rw [tbl_len, h4] at B
        refine ⟨(s, m, 0), Or.inr (Or.inr (Or.inr ⟨h0, h4, h5, rfl, B⟩)), Ev.bind c0 (ev_pos rfl (ev_pos (by omega) (Ev.bind eb ?_)))⟩
        have := hb.2 (all_mem.2 h5)
        subst this
        exact ev_neg (by simp) (fit_l0 h2 h4 (all_mem.1 h3) h5 e q.length 0 (by omega))
      · refine ⟨([], 0, 1), Or.inr (Or.inr (Or.inl ⟨h0, h4, h5, rfl⟩)), Ev.bind c0 (ev_pos rfl (ev_pos (by omega) (Ev.bind eb ?_)))⟩
        cases b with
        | false => exact absurd (all_mem.1 (hb.1 rfl)) h5
        | true => exact ev_pos (c := true = true) rfl (ev_now _)
    · exact ⟨([], 0, 2), Or.inr (Or.inl ⟨h0, h4, rfl⟩), Ev.bind c0 (ev_pos rfl (ev_neg (by omega) (ev_now _)))⟩
  · exact ⟨([], 0, chkF l p), Or.inl ⟨h0, rfl⟩, Ev.bind (check_ev l p) (ev_neg h0 (ev_now _))⟩
theorem FitR.unique {l : Bs} {p q : List S52} {R R' : List Int × Int × Int} (h : FitR l p q R) (h' : FitR l p q R') : R = R' := by
  rcases h with ⟨a, e⟩ | ⟨a, b, e⟩ | ⟨a, b, c, e⟩ | ⟨a, b, c, e, B⟩
  · rcases h' with ⟨a', e'⟩ | ⟨a', _⟩ | ⟨a', _⟩ | ⟨a', _⟩
    · rw [e, e']
    all_goals exact absurd a' a
  · rcases h' with ⟨a', e'⟩ | ⟨a', b', e'⟩ | ⟨a', b', _⟩ | ⟨a', b', _⟩
    · exact absurd a a'
    · rw [e, e']
    all_goals exact absurd b' b
  · rcases h' with ⟨a', e'⟩ | ⟨a', b', e'⟩ | ⟨a', b', c', e'⟩ | ⟨a', b', c', _⟩
    · exact absurd a a'
    · exact absurd b b'
    · rw [e, e']
    · exact absurd c' c
  · rcases h' with ⟨a', e'⟩ | ⟨a', b', e'⟩ | ⟨a', b', c', e'⟩ | ⟨a', b', c', e', B'⟩
    · exact absurd a a'
    · exact absurd b b'
    · exact absurd c c'
    · obtain ⟨x, y⟩ := B.unique B'
      exact Prod.ext x (Prod.ext y (by rw [e, e']))
theorem ints_ev (a : List Int) (ha : a.length ≤ 16) : Ev (fun k => dancestudioref45_Ints.f k a a) true := by
  unfold dancestudioref45_Ints.f
  refine ev_pos rfl ?_
  have go : ∀ d i : Nat, i + d = a.length → Ev (fun k => dancestudioref45_Ints.l0 k a a (i : Int)) true := by
    intro d
    induction d with
    | zero => intro i hi; exact ev_step (fun k => by simp only [dancestudioref45_Ints.l0] <;> exact rfl) (ev_neg (by omega) (ev_now _))
    | succ d ih =>
      intro i hi
      refine ev_step (fun k => by simp only [dancestudioref45_Ints.l0] <;> exact rfl) (ev_pos (by omega) (ev_pos (by omega) (ev_pos (by omega) (ev_pos (c := rd a (i : Int) = rd a (i : Int)) rfl ?_))))
      rw [w64 (by omega) (by omega)]
      exact ih (i + 1) (by omega)
  exact go a.length 0 (by omega)
theorem FitR.len {l : Bs} {p q : List S52} {R : List Int × Int × Int} (h : FitR l p q R) : R.1.length ≤ 16 := by
  rcases h with ⟨a, e⟩ | ⟨a, b, e⟩ | ⟨a, b, c, e⟩ | ⟨a, b, c, e, B⟩
  · subst e; simp
  · subst e; simp
  · subst e; simp
  · have h1 := (chkF_ok a).2.1
    have := B.asg.1
    omega
end Go.Proofs.YtaggccbndmmbhaaDoor.PAll
