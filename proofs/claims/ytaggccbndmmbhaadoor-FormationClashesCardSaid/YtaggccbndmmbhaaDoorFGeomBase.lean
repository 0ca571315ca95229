/- The chapter's examples, and which points and radii are valid. -/
import Derived.Test.YtaggccbndmmbhaaDoorBase
import Derived.Test.YtaggccbndmmbhaaDoorPAllf38
import Derived.Test.YtaggccbndmmbhaaDoorPAllf46
import Derived.Test.YtaggccbndmmbhaaDoorPAllf59
import Derived.Test.YtaggccbndmmbhaaDoorChk
namespace Go.Proofs.YtaggccbndmmbhaaDoor.PAll
set_option linter.unusedVariables false
open Go Go.RowKit Go.Proofs.YtaggccbndmmbhaaDoorW.PrintWords Go.Proofs.YtaggccbndmmbhaaDoorW.PrintLast Go.Proofs.YtaggccbndmmbhaaDoorW.PrintMore Go.Proofs.YtaggccbndmmbhaaDoor.MathNum Go.Proofs.YtaggccbndmmbhaaDoor.EvWords

set_option maxRecDepth 100000 in

/-- A number that a coordinate can be. -/
def cOk (x : Int) : Prop := -32768 ≤ x ∧ x ≤ 32768
instance (x : Int) : Decidable (cOk x) := by unfold cOk; exact inferInstance
def pOk (p : S52) : Prop := cOk p.f0 ∧ cOk p.f1
instance (p : S52) : Decidable (pOk p) := by unfold pOk; exact inferInstance
def rOk (r : Int) : Prop := 0 ≤ r ∧ r ≤ 32768
instance (r : Int) : Decidable (rOk r) := by unfold rOk; exact inferInstance

theorem rdT_nat (c : List S52) {i : Nat} (h : i < c.length) : rd_T52 c (i : Int) = c[i] := by
  unfold rd_T52
  rw [List.getD_eq_getElem?_getD, Int.toNat_natCast, List.getElem?_eq_getElem h]; rfl
theorem grd_nat (c : List Int) {i : Nat} (h : i < c.length) : rd c (i : Int) = c[i] := by
  unfold rd
  rw [List.getD_eq_getElem?_getD, Int.toNat_natCast, List.getElem?_eq_getElem h]; rfl

theorem valid_l1 {rs : List Int} (hr : rs.length ≤ 9223372036854775807) (R : Bool) (hy : (∀ r ∈ rs, rOk r) → R = true) (hn : ¬ (∀ r ∈ rs, rOk r) → R = false) (d : Nat) : ∀ i : Nat, i + d = rs.length → (∀ r ∈ rs.take i, rOk r) →
    Ev (fun k => geom_valid.l1 k rs (rs.length : Int) (i : Int)) R := by
  induction d with
  | zero =>
    intro i hi hp
    rw [List.take_of_length_le (by omega)] at hp
    rw [hy hp]
    exact ev_step (fun k => by simp only [geom_valid.l1] <;> exact rfl) (ev_neg (by omega) (ev_now _))
  | succ d ih =>
    intro i hi hp
    have hlt : i < rs.length := by omega
    refine ev_step (fun k => by simp only [geom_valid.l1] <;> exact rfl) (ev_pos (by omega) (ev_pos (by omega) (ev_pos (by omega) ?_)))
    rw [grd_nat rs hlt]
    by_cases h0 : rs[i] < 0
    · rw [hn fun h => by have := (h _ (List.getElem_mem hlt)).1; omega]
      exact ev_pos h0 (ev_now _)
    · refine ev_neg h0 ?_
      by_cases h1 : rs[i] > 32768
      · rw [hn fun h => by have := (h _ (List.getElem_mem hlt)).2; omega]
        exact ev_pos h1 (ev_now _)
      · refine ev_neg h1 ?_
        rw [w64 (by omega) (by omega)]
        refine ih (i + 1) (by omega) (fun r hm => ?_)
        rw [List.take_succ_eq_append_getElem hlt] at hm
        rcases List.mem_append.1 hm with hm | hm
        · exact hp r hm
        · rw [List.mem_singleton.1 hm]; exact ⟨by omega, by omega⟩
theorem valid_l0 {ps : List S52} {rs : List Int} (hp0 : ps.length ≤ 9223372036854775807) (hr : rs.length ≤ 9223372036854775807) (R : Bool) (hy : (∀ p ∈ ps, pOk p) → (∀ r ∈ rs, rOk r) → R = true) (hn : ¬ ((∀ p ∈ ps, pOk p) ∧ (∀ r ∈ rs, rOk r)) → R = false) (d : Nat) :
    ∀ i : Nat, i + d = ps.length → (∀ p ∈ ps.take i, pOk p) → Ev (fun k => geom_valid.l0 k rs ps (ps.length : Int) (i : Int)) R := by
  induction d with
  | zero =>
    intro i hi hp
    rw [List.take_of_length_le (by omega)] at hp
    refine ev_step (fun k => by simp only [geom_valid.l0] <;> exact rfl) (ev_neg (by omega) ?_)
    exact valid_l1 hr R (hy hp) (fun h => hn fun h' => h h'.2) rs.length 0 (by omega) (by simp)
  | succ d ih =>
    intro i hi hp
    have hlt : i < ps.length := by omega
    refine ev_step (fun k => by simp only [geom_valid.l0] <;> exact rfl) (ev_pos (by omega) (ev_pos (by omega) (ev_pos (by omega) ?_)))
    rw [rdT_nat ps hlt]
    have bad : ¬ pOk ps[i] → R = false := fun h => hn fun h' => h (h'.1 _ (List.getElem_mem hlt))
    by_cases h0 : ps[i].f0 < -32768
    · rw [bad fun h => by have := h.1.1; omega]
      exact ev_pos h0 (ev_now _)
    · refine ev_neg h0 ?_
      by_cases h1 : ps[i].f0 > 32768
      · rw [bad fun h => by have := h.1.2; omega]
        exact ev_pos h1 (ev_now _)
      · refine ev_neg h1 ?_
        by_cases h2 : ps[i].f1 < -32768
        · rw [bad fun h => by have := h.2.1; omega]
          exact ev_pos h2 (ev_now _)
        · refine ev_neg h2 ?_
          by_cases h3 : ps[i].f1 > 32768
          · rw [bad fun h => by have := h.2.2; omega]
            exact ev_pos h3 (ev_now _)
          · refine ev_neg h3 ?_
            rw [w64 (by omega) (by omega)]
            refine ih (i + 1) (by omega) (fun p hm => ?_)
            rw [List.take_succ_eq_append_getElem hlt] at hm
            rcases List.mem_append.1 hm with hm | hm
            · exact hp p hm
            · rw [List.mem_singleton.1 hm]; exact ⟨⟨by omega, by omega⟩, ⟨by omega, by omega⟩⟩
theorem valid_ev {ps : List S52} {rs : List Int} (hp : ps.length ≤ 9223372036854775807) (hr : rs.length ≤ 9223372036854775807) : Ev (fun k => geom_valid.f k ps rs) (decide ((∀ p ∈ ps, pOk p) ∧ (∀ r ∈ rs, rOk r))) := by
  simp only [geom_valid.f]
  exact valid_l0 hp hr _ (fun a b => by simpa using ⟨a, b⟩) (fun h => by simpa using h) ps.length 0 (by omega) (by simp)

theorem rValid (x y : Int) : dancestudioref03_Valid.f x y = some (decide (cOk x ∧ cOk y)) := by
  unfold dancestudioref03_Valid.f cOk
  by_cases h1 : x ≥ -32768
  · by_cases h2 : x ≤ 32768
    · by_cases h3 : y ≥ -32768
      · rw [if_pos h1, if_pos h2, if_pos h3]; exact congrArg some (decide_eq_decide.2 (by omega))
      · rw [if_pos h1, if_pos h2, if_neg h3]; exact congrArg some (decide_eq_false (by omega)).symm
    · rw [if_pos h1, if_neg h2]; exact congrArg some (decide_eq_false (by omega)).symm
  · rw [if_neg h1]; exact congrArg some (decide_eq_false (by omega)).symm
theorem rRadius (r : Int) : dancestudioref03_Radius.f r = some (decide (rOk r)) := by
  unfold dancestudioref03_Radius.f rOk
  by_cases h1 : r ≥ 0
  · rw [if_pos h1]; exact congrArg some (decide_eq_decide.2 (by omega))
  · rw [if_neg h1]; exact congrArg some (decide_eq_false (by omega)).symm

theorem minus_ok {a b c d : Int} (ha : cOk a) (hb : cOk b) (hc : cOk c) (hd : cOk d) : geom_minus.f a b c d = some (a - c, b - d) := by
  unfold geom_minus.f cOk at *
  rw [w64 (by omega) (by omega), w64 (by omega) (by omega)]
/-- Products of small numbers. -/
theorem mul_bound {a b m n : Int} (ha : -m ≤ a ∧ a ≤ m) (hb : -n ≤ b ∧ b ≤ n) : -(m * n) ≤ a * b ∧ a * b ≤ m * n := by
  have hm : 0 ≤ m := by omega
  have hn : 0 ≤ n := by omega
  constructor
  · by_cases h : 0 ≤ a
    · have h1 : a * (-n) ≤ a * b := Int.mul_le_mul_of_nonneg_left hb.1 h
      have h2 : a * n ≤ m * n := Int.mul_le_mul_of_nonneg_right ha.2 hn
      have h3 : a * (-n) = -(a * n) := Int.mul_neg a n
      omega
    · have h1 : (-a) * b ≤ (-a) * n := Int.mul_le_mul_of_nonneg_left hb.2 (by omega)
      have h2 : (-a) * n ≤ m * n := Int.mul_le_mul_of_nonneg_right (by omega) hn
      have h3 : (-a) * b = -(a * b) := Int.neg_mul a b
      omega
  · by_cases h : 0 ≤ a
    · have h1 : a * b ≤ a * n := Int.mul_le_mul_of_nonneg_left hb.2 h
      have h2 : a * n ≤ m * n := Int.mul_le_mul_of_nonneg_right ha.2 hn
      omega
    · have h1 : (-a) * (-n) ≤ (-a) * b := Int.mul_le_mul_of_nonneg_left hb.1 (by omega)
      have h2 : (-a) * n ≤ m * n := Int.mul_le_mul_of_nonneg_right (by omega) hn
      have h3 : (-a) * b = -(a * b) := Int.neg_mul a b
      have h4 : (-a) * (-n) = -((-a) * n) := Int.mul_neg (-a) n
      omega
theorem dot_ok {a b c d : Int} (ha : -131072 ≤ a ∧ a ≤ 131072) (hb : -131072 ≤ b ∧ b ≤ 131072) (hc : -131072 ≤ c ∧ c ≤ 131072) (hd : -131072 ≤ d ∧ d ≤ 131072) : geom_dot.f a b c d = some (a * c + b * d) := by
  unfold geom_dot.f
  have h1 := mul_bound ha hc
  have h2 := mul_bound hb hd
  rw [w64 (n := a * c) (by omega) (by omega), w64 (n := b * d) (by omega) (by omega), w64 (by omega) (by omega)]
theorem cross_ok {a b c d : Int} (ha : -131072 ≤ a ∧ a ≤ 131072) (hb : -131072 ≤ b ∧ b ≤ 131072) (hc : -131072 ≤ c ∧ c ≤ 131072) (hd : -131072 ≤ d ∧ d ≤ 131072) : geom_cross.f a b c d = some (a * d - b * c) := by
  unfold geom_cross.f
  have h1 := mul_bound ha hd
  have h2 := mul_bound hb hc
  rw [w64 (n := a * d) (by omega) (by omega), w64 (n := b * c) (by omega) (by omega), w64 (by omega) (by omega)]
theorem square_ok {a b c d : Int} (ha : cOk a) (hb : cOk b) (hc : cOk c) (hd : cOk d) : dancestudioref03_square.f a b c d = some ((a - c) * (a - c) + (b - d) * (b - d)) := by
  unfold dancestudioref03_square.f
  unfold cOk at *
  have x : -131072 ≤ a - c ∧ a - c ≤ 131072 := by omega
  have y : -131072 ≤ b - d ∧ b - d ≤ 131072 := by omega
  have h1 := mul_bound x x
  have h2 := mul_bound y y
  rw [w64 (n := a - c) (by omega) (by omega), w64 (n := b - d) (by omega) (by omega), w64 (n := (a - c) * (a - c)) (by omega) (by omega), w64 (n := (b - d) * (b - d)) (by omega) (by omega), w64 (by omega) (by omega)]
end Go.Proofs.YtaggccbndmmbhaaDoor.PAll
