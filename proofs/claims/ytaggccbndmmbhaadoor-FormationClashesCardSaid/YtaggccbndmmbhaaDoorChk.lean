/- Texts of the proof, laid end to end. -/
import Derived.RowKit
import Derived.Test.YtaggccbndmmbhaaDoorBase
import Derived.Test.YtaggccbndmmbhaaDoorPAllf11
import Derived.Test.YtaggccbndmmbhaaDoorPAllf12
import Derived.Test.YtaggccbndmmbhaaDoorPAllf29
import Derived.Test.YtaggccbndmmbhaaDoorPAllf32
import Derived.Lib.IndexMore
import Derived.Test.YtaggccbndmmbhaaDoorPAllf13
import Derived.KernelRfl
/- Plain facts about rounded quotients, square roots, greatest common divisors and the order of products, without any program. -/
namespace Go.Proofs.YtaggccbndmmbhaaDoor.MathNum
open Go.RowKit

theorem w64 {n : Int} (h1 : -9223372036854775808 ≤ n) (h2 : n ≤ 9223372036854775807) : wrap64 n = n := by
  unfold wrap64; omega

theorem mul_range {a b A B : Int} (h1 : -A ≤ a) (h2 : a ≤ A) (h3 : 0 ≤ b) (h4 : b ≤ B) : -(A * B) ≤ a * b ∧ a * b ≤ A * B := by
  have hA : 0 ≤ A := by omega
  have k1 : a * b ≤ A * b := Int.mul_le_mul_of_nonneg_right h2 h3
  have k2 : A * b ≤ A * B := Int.mul_le_mul_of_nonneg_left h4 hA
  have k3 : -A * b ≤ a * b := Int.mul_le_mul_of_nonneg_right h1 h3
  have k4 : -A * b = -(A * b) := Int.neg_mul A b
  omega

theorem mul_range2 {a b A B : Int} (h1 : -A ≤ a) (h2 : a ≤ A) (h3 : -B ≤ b) (h4 : b ≤ B) : -(A * B) ≤ a * b ∧ a * b ≤ A * B := by
  rcases Int.le_total 0 b with h | h
  · exact mul_range h1 h2 h h4
  · have := mul_range (a := a) (b := -b) (B := B) h1 h2 (by omega) (by omega)
    rw [Int.mul_neg] at this
    omega

/-- Go's quotient and remainder by a positive number, corrected, are the floor and its remainder. -/
theorem tdiv_floor {a b : Int} (hb : 0 < b) : (a.tmod b < 0 → a.tdiv b - 1 = a / b ∧ a.tmod b + b = a % b) ∧ (¬ a.tmod b < 0 → a.tdiv b = a / b ∧ a.tmod b = a % b) := by
  have e := Int.mul_tdiv_add_tmod a b
  have l := Int.tmod_lt_of_pos a hb
  have l2 : -b < a.tmod b := by
    have := Int.lt_tmod_of_pos a hb
    exact this
  constructor
  · intro h
    have := (Int.ediv_emod_unique (a := a) (b := b) (r := a.tmod b + b) (q := a.tdiv b - 1) hb).mpr ⟨by rw [Int.mul_sub, Int.mul_one]; omega, by omega, by omega⟩
    exact ⟨this.1.symm, this.2.symm⟩
  · intro h
    have := (Int.ediv_emod_unique (a := a) (b := b) (r := a.tmod b) (q := a.tdiv b) hb).mpr ⟨by omega, by omega, l⟩
    exact ⟨this.1.symm, this.2.symm⟩

theorem ediv_range {a b A : Int} (hb : 0 < b) (h1 : -A ≤ a) (h2 : a ≤ A) : -A ≤ a / b ∧ a / b ≤ A := by
  have hA : 0 ≤ A := by omega
  constructor
  · have : -A * b ≤ a := by
      have : -A * b ≤ -A * 1 := Int.mul_le_mul_of_nonpos_left (by omega) (by omega)
      omega
    exact Int.le_ediv_of_mul_le hb this
  · have : a < (A + 1) * b := by
      have : (A + 1) * 1 ≤ (A + 1) * b := Int.mul_le_mul_of_nonneg_left (by omega) (by omega)
      omega
    have := Int.ediv_lt_of_lt_mul hb this
    omega

/-- a / b, rounded to the nearest, halves to the even number, for a positive b. -/
def near (a b : Int) : Int := if 2 * (a % b) > b ∨ 2 * (a % b) = b ∧ (a / b) % 2 ≠ 0 then a / b + 1 else a / b

/-- What 'near' is, by its own words. -/
theorem near_spec {a b : Int} (hb : 0 < b) : ∃ q r : Int, a = b * q + r ∧ 0 ≤ r ∧ r < b ∧ near a b = (if 2 * r > b ∨ 2 * r = b ∧ q % 2 ≠ 0 then q + 1 else q) ∧ q = a / b ∧ r = a % b :=
  ⟨a / b, a % b, (Int.mul_ediv_add_emod a b).symm, Int.emod_nonneg a (by omega), Int.emod_lt_of_pos a hb, rfl, rfl, rfl⟩

theorem near_of {a b q r : Int} (hb : 0 < b) (e : a = b * q + r) (h0 : 0 ≤ r) (h1 : r < b) : near a b = (if 2 * r > b ∨ 2 * r = b ∧ q % 2 ≠ 0 then q + 1 else q) := by
  have := (Int.ediv_emod_unique (a := a) (b := b) (r := r) (q := q) hb).mpr ⟨by omega, h0, h1⟩
  unfold near
  rw [this.1, this.2]

/-- Exact to half a unit, halves to the even number. -/
theorem near_off {a b : Int} (hb : 0 < b) : 2 * (a - near a b * b) ≤ b ∧ -b ≤ 2 * (a - near a b * b) ∧ (2 * (a - near a b * b) = b ∨ 2 * (a - near a b * b) = -b → near a b % 2 = 0) := by
  obtain ⟨q, r, e, h0, h1, hn, _, _⟩ := near_spec (a := a) hb
  rw [hn]
  split
  · have : (q + 1) * b = b * q + b := by rw [Int.add_mul, Int.mul_comm]; omega
    rw [this]; omega
  · have : q * b = b * q := Int.mul_comm q b
    rw [this]; omega

/-- It is the only such number. -/
theorem near_unique {a b n : Int} (hb : 0 < b) (h1 : 2 * (a - n * b) ≤ b) (h2 : -b ≤ 2 * (a - n * b)) (h3 : 2 * (a - n * b) = b ∨ 2 * (a - n * b) = -b → n % 2 = 0) : near a b = n := by
  obtain ⟨g1, g2, g3⟩ := near_off (a := a) hb
  generalize near a b = m at *
  -- m and n differ by at most one
  have k1 : (m - n) * b ≤ b := by rw [Int.sub_mul]; omega
  have k2 : -b ≤ (m - n) * b := by rw [Int.sub_mul]; omega
  have l1 : m - n ≤ 1 := by
    apply Int.not_lt.mp; intro h
    have : 2 * b ≤ (m - n) * b := Int.mul_le_mul_of_nonneg_right (by omega) (by omega)
    omega
  have l2 : -1 ≤ m - n := by
    apply Int.not_lt.mp; intro h
    have : (m - n) * b ≤ -2 * b := Int.mul_le_mul_of_nonneg_right (by omega) (by omega)
    omega
  have h : m = n ∨ m = n + 1 ∨ m = n - 1 := by omega
  rcases h with h | h | h
  · exact h
  · subst h
    rw [Int.add_mul] at *
    have a1 := h3 (Or.inl (by omega))
    have a2 := g3 (Or.inr (by omega))
    omega
  · subst h
    rw [Int.sub_mul] at *
    have a1 := h3 (Or.inr (by omega))
    have a2 := g3 (Or.inl (by omega))
    omega

theorem near_neg {a b : Int} (hb : 0 < b) : near (-a) b = -near a b := by
  obtain ⟨g1, g2, g3⟩ := near_off (a := a) hb
  apply near_unique hb
  · rw [Int.neg_mul]; omega
  · rw [Int.neg_mul]; omega
  · intro h
    rw [Int.neg_mul] at h
    have := g3 (by omega)
    omega

theorem near_exact {b q : Int} (hb : 0 < b) : near (b * q) b = q := by
  rw [near_of hb (q := q) (r := 0) (by omega) (by omega) hb]
  rw [if_neg (by omega)]

theorem near_shift {a b c : Int} (hb : 0 < b) (hc : c % 2 = 0) : near (a + c * b) b = near a b + c := by
  obtain ⟨g1, g2, g3⟩ := near_off (a := a) hb
  apply near_unique hb
  · rw [Int.add_mul]; omega
  · rw [Int.add_mul]; omega
  · intro h
    rw [Int.add_mul] at h
    have := g3 (by omega)
    omega

theorem near_lo {a b m : Int} (hb : 0 < b) (h : m * b ≤ a) : m ≤ near a b := by
  obtain ⟨q, r, e, h0, h1, hn, hq, _⟩ := near_spec (a := a) hb
  have : m ≤ q := by rw [hq]; exact Int.le_ediv_of_mul_le hb h
  rw [hn]; split <;> omega

theorem near_hi {a b m : Int} (hb : 0 < b) (h : a ≤ m * b) : near a b ≤ m := by
  have := near_lo (a := -a) (m := -m) hb (by rw [Int.neg_mul]; omega)
  rw [near_neg hb] at this
  omega

theorem near_range {a b A : Int} (hb : 0 < b) (h1 : -A ≤ a) (h2 : a ≤ A) : -A ≤ near a b ∧ near a b ≤ A := by
  have hA : 0 ≤ A := by omega
  have k : A * 1 ≤ A * b := Int.mul_le_mul_of_nonneg_left (by omega) hA
  exact ⟨near_lo hb (by rw [Int.neg_mul]; omega), near_hi hb (by omega)⟩

/-- -1, 0 or 1, as a is less than, equal to or greater than b. -/
def cmp3 (a b : Int) : Int := if a < b then -1 else if a > b then 1 else 0

theorem cmp3_lt {a b : Int} (h : a < b) : cmp3 a b = -1 := by unfold cmp3; rw [if_pos h]
theorem cmp3_gt {a b : Int} (h : b < a) : cmp3 a b = 1 := by unfold cmp3; rw [if_neg (by omega), if_pos h]
theorem cmp3_eq {a b : Int} (h : a = b) : cmp3 a b = 0 := by unfold cmp3; rw [if_neg (by omega), if_neg (by omega)]
theorem cmp3_swap (a b : Int) : cmp3 b a = -cmp3 a b := by unfold cmp3; split <;> split <;> (try split) <;> omega
theorem cmp3_range (a b : Int) : -1 ≤ cmp3 a b ∧ cmp3 a b ≤ 1 := by unfold cmp3; split <;> (try split) <;> omega
theorem cmp3_cases (a b : Int) : (a < b ∧ cmp3 a b = -1) ∨ (a = b ∧ cmp3 a b = 0) ∨ (b < a ∧ cmp3 a b = 1) := by
  rcases Int.lt_trichotomy a b with h | h | h
  · exact Or.inl ⟨h, cmp3_lt h⟩
  · exact Or.inr (Or.inl ⟨h, cmp3_eq h⟩)
  · exact Or.inr (Or.inr ⟨h, cmp3_gt h⟩)

end Go.Proofs.YtaggccbndmmbhaaDoor.MathNum
/- Words for what a printed function answers once it has rounds enough. -/
namespace Go.Proofs.YtaggccbndmmbhaaDoor.EvWords
open Go Go.RowKit Go.Proofs.YtaggccbndmmbhaaDoorW.PrintWords Go.Proofs.YtaggccbndmmbhaaDoorW.PrintLast Go.Proofs.YtaggccbndmmbhaaDoorW.PrintMore Go.Proofs.YtaggccbndmmbhaaDoor.MathNum

theorem ev_pos {α : Type} {c : Prop} [Decidable c] (h : c) {A B : Nat → Option α} {r : α} (e : Ev A r) : Ev (fun k => if c then A k else B k) r := by
  simp only [if_pos h]; exact e
theorem ev_neg {α : Type} {c : Prop} [Decidable c] (h : ¬ c) {A B : Nat → Option α} {r : α} (e : Ev B r) : Ev (fun k => if c then A k else B k) r := by
  simp only [if_neg h]; exact e
theorem ev_now {α : Type} (r : α) : Ev (fun _ => some r) r := Ev.now r
theorem ev_eq {α : Type} {g : Nat → Option α} {r r' : α} (e : Ev g r) (h : r = r') : Ev g r' := h ▸ e
theorem ev_some {α : Type} {g : Nat → Option α} {r : α} (e : Ev g r) : ∃ k, g k = some r := e.rounds
/-- A step of a loop, or of a join: the number of rounds goes down by one. -/
theorem ev_step {α : Type} {g f : Nat → Option α} {r : α} (h : ∀ k, g (k + 1) = f k) (e : Ev f r) : Ev g r := Ev.step h e
theorem ev_let {α β : Type} {a : α} {f : Nat → α → Option β} {r : β} (e : Ev (fun n => f n a) r) : Ev (fun n => (some a).bind (f n)) r := by
  simpa only [Option.bind_some] using e

/-- A list's element behind a store. -/
theorem rd_set {l : List Int} {i j v : Int} (h0 : 0 ≤ i) (h1 : i < l.length) (hj : 0 ≤ j) : rd (l.set i.toNat v) j = if j = i then v else rd l j := by
  unfold rd
  rw [List.getD_eq_getElem?_getD, List.getElem?_set, List.getD_eq_getElem?_getD]
  by_cases h : j = i
  · subst h
    rw [if_pos rfl, if_pos rfl, if_pos (by omega)]; rfl
  · rw [if_neg (by omega), if_neg h]
theorem rdB_set {l : List Bool} {i j : Int} {v : Bool} (h0 : 0 ≤ i) (h1 : i < l.length) (hj : 0 ≤ j) : rdOf false (l.set i.toNat v) j = if j = i then v else rdOf false l j := by
  unfold rdOf
  rw [List.getD_eq_getElem?_getD, List.getElem?_set, List.getD_eq_getElem?_getD]
  by_cases h : j = i
  · subst h
    rw [if_pos rfl, if_pos rfl, if_pos (by omega)]; rfl
  · rw [if_neg (by omega), if_neg h]
theorem rd_rep {n : Nat} {v j : Int} (h0 : 0 ≤ j) (h1 : j < n) : rd (List.replicate n v) j = v := by
  unfold rd
  rw [List.getD_eq_getElem?_getD, List.getElem?_replicate, if_pos (by omega)]; rfl
theorem rdB_rep {n : Nat} {j : Int} : rdOf false (List.replicate n false) j = false := by
  unfold rdOf
  rw [List.getD_eq_getElem?_getD, List.getElem?_replicate]
  split <;> rfl
end Go.Proofs.YtaggccbndmmbhaaDoor.EvWords
/- Check of formations: what both answer. -/
namespace Go.Proofs.YtaggccbndmmbhaaDoor.PAll
set_option linter.unusedVariables false
open Go Go.RowKit Go.Proofs.YtaggccbndmmbhaaDoorW.PrintWords Go.Proofs.YtaggccbndmmbhaaDoorW.PrintLast Go.Proofs.YtaggccbndmmbhaaDoorW.PrintMore Go.Proofs.YtaggccbndmmbhaaDoor.MathNum Go.Proofs.YtaggccbndmmbhaaDoor.EvWords

abbrev Bs := List UInt8
def mkB (l : Bs) : ByteArray := ⟨l.toArray⟩
theorem ex_mk (s : ByteArray) : ∃ l, s = mkB l := ⟨s.data.toList, by obtain ⟨⟨l⟩⟩ := s; rfl⟩
theorem size_mk (l : Bs) : (mkB l).size = l.length := rfl
theorem toList_mk (l : Bs) : (mkB l).toList = l := ByteArray.toList_eq _
theorem mk_extract (l : Bs) (a b : Nat) : (mkB l).extract a b = mkB ((l.drop a).take (b - a)) := by
  rw [Lib.extract_eq]; rfl
theorem bt_mk {l : Bs} {i : Nat} (h : i < l.length) : bt (mkB l) (i : Int) = (l[i].toNat : Int) := by
  unfold bt
  rw [dif_pos (by rw [Int.toNat_natCast, size_mk]; exact h)]
  rfl
def okc (c : Int) : Prop := (97 ≤ c ∧ c ≤ 122) ∨ (48 ≤ c ∧ c ≤ 57) ∨ c = 45
theorem small_ev (c : Int) : ident_small.f c = some (decide (97 ≤ c ∧ c ≤ 122)) := by
  unfold ident_small.f; by_cases h : 97 ≤ c <;> simp [h]
theorem digit_ev (c : Int) : ident_digit.f c = some (decide (48 ≤ c ∧ c ≤ 57)) := by
  unfold ident_digit.f; by_cases h : 48 ≤ c <;> simp [h]
theorem rletter_ev (c : Int) : dancestudioref05_letter.f c = some (decide (97 ≤ c ∧ c ≤ 122)) := by
  unfold dancestudioref05_letter.f; by_cases h : c ≥ 97 <;> simp [h]
theorem rdigit_ev (c : Int) : dancestudioref05_digit.f c = some (decide (48 ≤ c ∧ c ≤ 57)) := by
  unfold dancestudioref05_digit.f; by_cases h : c ≥ 48 <;> simp [h]

section
variable (l : Bs)
theorem name_l0 (hs : l.length ≤ 24) (d : Nat) : ∀ i : Nat, i + d = l.length → ∃ b : Bool, (b = true ↔ ∀ j : Nat, i ≤ j → j < l.length → okc (bt (mkB l) j)) ∧ Ev (fun k => ident_Valid.l0 k (mkB l) (l.length : Int) (i : Int)) b := by
  induction d with
  | zero =>
    intro i hi
    exact ⟨true, ⟨fun _ j h1 h2 => by omega, fun _ => rfl⟩, ev_step (fun k => by simp only [ident_Valid.l0] <;> exact rfl) (ev_neg (by omega) (ev_now _))⟩
  | succ d ih =>
    intro i hi
    obtain ⟨b, hb, eb⟩ := ih (i + 1) (by omega)
    have next : okc (bt (mkB l) i) → (b = true ↔ ∀ j : Nat, i ≤ j → j < l.length → okc (bt (mkB l) j)) := fun h => by
      rw [hb]
      exact ⟨fun q j h1 h2 => by by_cases e : j = i; exact e ▸ h; exact q j (by omega) h2, fun q j h1 h2 => q j (by omega) h2⟩
    have go : Ev (fun k => ident_Valid.l0 k (mkB l) (l.length : Int) (wrap64 ((i : Int) + 1))) b := by
      rw [w64 (by omega) (by omega)]; exact eb
    by_cases h1 : 97 ≤ bt (mkB l) i ∧ bt (mkB l) i ≤ 122
    · refine ⟨b, next (Or.inl h1), ev_step (fun k => by simp only [ident_Valid.l0] <;> exact rfl) (ev_pos (by omega) (ev_pos (by omega) (ev_pos (by rw [size_mk]; omega) ?_)))⟩
      simp only [small_ev, Option.bind_some]
      exact ev_pos (by simpa using h1) go
    · by_cases h2 : 48 ≤ bt (mkB l) i ∧ bt (mkB l) i ≤ 57
      · refine ⟨b, next (Or.inr (Or.inl h2)), ev_step (fun k => by simp only [ident_Valid.l0] <;> exact rfl) (ev_pos (by omega) (ev_pos (by omega) (ev_pos (by rw [size_mk]; omega) ?_)))⟩
        simp only [small_ev, digit_ev, Option.bind_some]
        exact ev_neg (by simpa using h1) (ev_pos (by simpa using h2) go)
      · by_cases h3 : bt (mkB l) i = 45
        · refine ⟨b, next (Or.inr (Or.inr h3)), ev_step (fun k => by simp only [ident_Valid.l0] <;> exact rfl) (ev_pos (by omega) (ev_pos (by omega) (ev_pos (by rw [size_mk]; omega) ?_)))⟩
          simp only [small_ev, digit_ev, Option.bind_some]
          exact ev_neg (by simpa using h1) (ev_neg (by simpa using h2) (ev_pos h3 go))
        · refine ⟨false, ⟨fun h => by (cases h), fun h => absurd (h i (Nat.le_refl _) (by omega)) (by unfold okc; omega)⟩, ev_step (fun k => by simp only [ident_Valid.l0] <;> exact rfl) (ev_pos (by omega) (ev_pos (by omega) (ev_pos (by rw [size_mk]; omega) ?_)))⟩
          simp only [small_ev, digit_ev, Option.bind_some]
          exact ev_neg (by simpa using h1) (ev_neg (by simpa using h2) (ev_neg h3 (ev_now _)))
def okr (i : Nat) : Prop := okc (bt (mkB l) i) ∧ (bt (mkB l) i = 45 → i + 1 < l.length ∧ bt (mkB l) (i + 1 : Nat) ≠ 45)
theorem rname_l0 (hs : l.length ≤ 24) (d : Nat) : ∀ i : Nat, i + d = l.length → ∃ b : Bool, (b = true ↔ ∀ j : Nat, i ≤ j → j < l.length → okr l j) ∧ Ev (fun k => dancestudioref05_Valid.l0 k (mkB l) (i : Int)) b := by
  induction d with
  | zero =>
    intro i hi
    exact ⟨true, ⟨fun _ j h1 h2 => by omega, fun _ => rfl⟩, ev_step (fun k => by simp only [dancestudioref05_Valid.l0] <;> exact rfl) (ev_neg (by rw [size_mk]; omega) (ev_now _))⟩
  | succ d ih =>
    intro i hi
    obtain ⟨b, hb, eb⟩ := ih (i + 1) (by omega)
    have next : okr l i → (b = true ↔ ∀ j : Nat, i ≤ j → j < l.length → okr l j) := fun h => by
      rw [hb]
      exact ⟨fun q j h1 h2 => by by_cases e : j = i; exact e ▸ h; exact q j (by omega) h2, fun q j h1 h2 => q j (by omega) h2⟩
    have bad : ¬ okr l i → (false = true ↔ ∀ j : Nat, i ≤ j → j < l.length → okr l j) := fun h => ⟨fun h => by (cases h), fun q => absurd (q i (Nat.le_refl _) (by omega)) h⟩
    have go : Ev (fun k => dancestudioref05_Valid.l0 k (mkB l) (wrap64 ((i : Int) + 1))) b := by
      rw [w64 (by omega) (by omega)]; exact eb
    have w1 : wrap64 ((i : Int) + 1) = ((i + 1 : Nat) : Int) := by rw [w64 (by omega) (by omega)]; omega
    have w2 : wrap64 ((l.length : Int) - 1) = (l.length : Int) - 1 := w64 (by omega) (by omega)
    -- the join behind the byte's kind
    have j2 : okc (bt (mkB l) i) → ∃ b' : Bool, (b' = true ↔ ∀ j : Nat, i ≤ j → j < l.length → okr l j) ∧ Ev (fun k => dancestudioref05_Valid.j2 k (mkB l) (i : Int) (bt (mkB l) i) false) b' := by
      intro hok
      by_cases h45 : bt (mkB l) i = 45
      · by_cases hl : i + 1 = l.length
        · refine ⟨false, bad (fun q => by have := (q.2 h45).1; omega), ev_step (fun k => by simp only [dancestudioref05_Valid.j2] <;> exact rfl) (ev_neg (by simp) (ev_pos h45 (ev_pos (by rw [size_mk, w2]; omega) (ev_now _))))⟩
        · by_cases hn : bt (mkB l) ((i + 1 : Nat) : Int) = 45
          · refine ⟨false, bad (fun q => (q.2 h45).2 hn), ev_step (fun k => by simp only [dancestudioref05_Valid.j2] <;> exact rfl) (ev_neg (by simp) (ev_pos h45 (ev_neg (by rw [size_mk, w2]; omega) (ev_pos (by omega) (ev_pos (by rw [w1, size_mk]; omega) (ev_pos (by rw [w1]; exact hn) (ev_now _)))))))⟩
          · refine ⟨b, next ⟨hok, fun _ => ⟨by omega, hn⟩⟩, ev_step (fun k => by simp only [dancestudioref05_Valid.j2] <;> exact rfl) (ev_neg (by simp) (ev_pos h45 (ev_neg (by rw [size_mk, w2]; omega) (ev_pos (by omega) (ev_pos (by rw [w1, size_mk]; omega) (ev_neg (by rw [w1]; exact hn) go))))))⟩
      · exact ⟨b, next ⟨hok, fun h => absurd h h45⟩, ev_step (fun k => by simp only [dancestudioref05_Valid.j2] <;> exact rfl) (ev_neg (by simp) (ev_neg h45 go))⟩
    by_cases h1 : 97 ≤ bt (mkB l) i ∧ bt (mkB l) i ≤ 122
    · obtain ⟨b', hb', e'⟩ := j2 (Or.inl h1)
      refine ⟨b', hb', ev_step (fun k => by simp only [dancestudioref05_Valid.l0] <;> exact rfl) (ev_pos (by rw [size_mk]; omega) (ev_pos (by omega) ?_))⟩
      simp only [rletter_ev, Option.bind_some]
      exact ev_pos (by simpa using h1) e'
    · by_cases h2 : 48 ≤ bt (mkB l) i ∧ bt (mkB l) i ≤ 57
      · obtain ⟨b', hb', e'⟩ := j2 (Or.inr (Or.inl h2))
        refine ⟨b', hb', ev_step (fun k => by simp only [dancestudioref05_Valid.l0] <;> exact rfl) (ev_pos (by rw [size_mk]; omega) (ev_pos (by omega) ?_))⟩
        simp only [rletter_ev, rdigit_ev, Option.bind_some]
        exact ev_neg (by simpa using h1) (ev_pos (by simpa using h2) e')
      · by_cases h3 : bt (mkB l) i = 45
        · obtain ⟨b', hb', e'⟩ := j2 (Or.inr (Or.inr h3))
          refine ⟨b', hb', ev_step (fun k => by simp only [dancestudioref05_Valid.l0] <;> exact rfl) (ev_pos (by rw [size_mk]; omega) (ev_pos (by omega) ?_))⟩
          simp only [rletter_ev, rdigit_ev, Option.bind_some]
          refine ev_neg (by simpa using h1) (ev_neg (by simpa using h2) ?_)
          rw [show (bt (mkB l) i != 45) = false by rw [h3]; rfl]
          exact e'
        · refine ⟨false, bad (fun q => by have := q.1; unfold okc at this; omega), ev_step (fun k => by simp only [dancestudioref05_Valid.l0] <;> exact rfl) (ev_pos (by rw [size_mk]; omega) (ev_pos (by omega) ?_))⟩
          simp only [rletter_ev, rdigit_ev, Option.bind_some]
          refine ev_neg (by simpa using h1) (ev_neg (by simpa using h2) ?_)
          rw [show (bt (mkB l) i != 45) = true by simpa using h3]
          exact ev_step (fun k => by simp only [dancestudioref05_Valid.j2] <;> exact rfl) (ev_pos (c := true = true) rfl (ev_now _))
/-- A name. -/
def nameOk : Prop := 1 ≤ l.length ∧ l.length ≤ 24 ∧ (97 ≤ bt (mkB l) (0 : Nat) ∧ bt (mkB l) (0 : Nat) ≤ 122) ∧ ∀ j : Nat, j < l.length → okr l j
theorem rname_ev : ∃ b : Bool, (b = true ↔ nameOk l) ∧ Ev (fun k => dancestudioref05_Valid.f k (mkB l)) b := by
  have bad : Ev (fun k => dancestudioref05_Valid.j0 k (mkB l) true) false := ev_step (fun k => by simp only [dancestudioref05_Valid.j0] <;> exact rfl) (ev_pos (c := true = true) rfl (ev_now _))
  unfold dancestudioref05_Valid.f
  by_cases h1 : l.length < 1
  · exact ⟨false, ⟨fun h => by (cases h), fun h => by (unfold nameOk at h; omega)⟩, ev_pos (by rw [size_mk]; omega) bad⟩
  by_cases h2 : l.length > 24
  · exact ⟨false, ⟨fun h => by (cases h), fun h => by (unfold nameOk at h; omega)⟩, ev_neg (by rw [size_mk]; omega) (ev_pos (by rw [size_mk]; omega) bad)⟩
  by_cases h3 : 97 ≤ bt (mkB l) (0 : Nat) ∧ bt (mkB l) (0 : Nat) ≤ 122
  · obtain ⟨b, hb, eb⟩ := rname_l0 l (by omega) (l.length - 1) 1 (by omega)
    refine ⟨b, ?_, ev_neg (by rw [size_mk]; omega) (ev_neg (by rw [size_mk]; omega) (ev_pos (by rw [size_mk]; omega) ?_))⟩
    · rw [hb]
      constructor
      · intro q
        exact ⟨by omega, by omega, h3, fun j hj => by
          by_cases e : j = 0
          · subst e; exact ⟨Or.inl h3, fun h => by omega⟩
          · exact q j (by omega) hj⟩
      · intro q j _ h; exact q.2.2.2 j h
    · simp only [rletter_ev, Option.bind_some]
      have h3' : 97 ≤ bt (mkB l) 0 ∧ bt (mkB l) 0 ≤ 122 := h3
      rw [decide_eq_true h3']
      exact ev_step (fun k => by simp only [dancestudioref05_Valid.j0] <;> exact rfl) (ev_neg (by simp) eb)
  · refine ⟨false, ⟨fun h => by (cases h), fun h => absurd h.2.2.1 h3⟩, ev_neg (by rw [size_mk]; omega) (ev_neg (by rw [size_mk]; omega) (ev_pos (by rw [size_mk]; omega) ?_))⟩
    simp only [rletter_ev, Option.bind_some]
    have h3' : ¬ (97 ≤ bt (mkB l) 0 ∧ bt (mkB l) 0 ≤ 122) := h3
    rw [decide_eq_false h3']
    exact bad
theorem u8_45 (c : UInt8) : (c.toNat : Int) = 45 ↔ c = 45 := ⟨fun h => UInt8.toNat_inj.1 (by have : (45 : UInt8).toNat = 45 := rfl; omega), fun h => by subst h; rfl⟩
theorem twice45 : Lib.contains l [45, 45] = true ↔ ∃ i : Nat, i + 1 < l.length ∧ bt (mkB l) i = 45 ∧ bt (mkB l) (i + 1 : Nat) = 45 := by
  have occ : ∀ i : Nat, Lib.occAt l [45, 45] i = true ↔ (i + 1 < l.length ∧ bt (mkB l) i = 45 ∧ bt (mkB l) (i + 1 : Nat) = 45) := by
    intro i
    unfold Lib.occAt
    by_cases h : i + 1 < l.length
    · rw [← List.getElem_cons_drop (show i < l.length by omega), ← List.getElem_cons_drop h, bt_mk (show i < l.length by omega), bt_mk h, u8_45, u8_45]
      simp only [List.isPrefixOf, Bool.and_true, Bool.and_eq_true, beq_iff_eq, h, true_and]
      exact ⟨fun q => ⟨q.1.symm, q.2.symm⟩, fun q => ⟨q.1.symm, q.2.symm⟩⟩
    · refine ⟨fun q => ?_, fun q => absurd q.1 h⟩
      have := (List.isPrefixOf_iff_prefix.1 q).length_le
      simp at this
      omega
  unfold Lib.contains
  rw [decide_eq_true_iff]
  rcases Lib.index_spec l [45, 45] with ⟨e, h⟩ | ⟨i, e, hi, h, _⟩
  · rw [e]
    refine ⟨fun q => by omega, fun ⟨i, q⟩ => ?_⟩
    have := h i (by omega)
    rw [(occ i).2 q] at this; cases this
  · rw [e]
    exact ⟨fun _ => ⟨i, (occ i).1 h⟩, fun _ => by omega⟩
theorem suffix_ev (h1 : 1 ≤ l.length) (h2 : l.length ≤ 24) : strings_HasSuffix.f (mkB l) ⟨#[45]⟩ = some (decide (bt (mkB l) (l.length - 1 : Nat) = 45)) := by
  unfold strings_HasSuffix.f stringslite_HasSuffix.f
  have e1 : ((⟨#[45]⟩ : ByteArray).size : Int) = 1 := rfl
  rw [e1, size_mk, w64 (by omega) (by omega), if_pos (by omega), if_pos (by omega), if_pos (by omega)]
  simp only [Option.bind_some]
  have e2 : ((l.length : Int) - 1).toNat = l.length - 1 := by omega
  have e3 : (⟨#[45]⟩ : ByteArray).toList = [45] := ByteArray.toList_eq _
  rw [e2, mk_extract, toList_mk, e3, bt_mk (by omega), ← List.getElem_cons_drop (show l.length - 1 < l.length by omega), show l.length - (l.length - 1) = 1 by omega]
  congr 1
  have := u8_45 l[l.length - 1]
  simp only [List.take_succ_cons, List.take_zero]
  rw [Bool.eq_iff_iff]
  simp [this]
theorem name_ev : ∃ b : Bool, (b = true ↔ nameOk l) ∧ Ev (fun k => ident_Valid.f k (mkB l)) b := by
  have bad : Ev (fun k => ident_Valid.j0 k (mkB l) true) false := ev_step (fun k => by simp only [ident_Valid.j0] <;> exact rfl) (ev_pos (c := true = true) rfl (ev_now _))
  unfold ident_Valid.f
  by_cases h1 : l = []
  · exact ⟨false, ⟨fun h => by (cases h), fun h => by (unfold nameOk at h; subst h1; simp at h)⟩, ev_pos (by rw [toList_mk]; exact h1) bad⟩
  have h1' : 1 ≤ l.length := by cases l with | nil => exact absurd rfl h1 | cons a t => simp
  by_cases h2 : l.length > 24
  · exact ⟨false, ⟨fun h => by (cases h), fun h => by (unfold nameOk at h; omega)⟩, ev_neg (by rw [toList_mk]; exact h1) (ev_pos (by rw [size_mk]; omega) bad)⟩
  have pre : ∀ {b : Bool}, Ev (fun k => (ident_small.f (bt (mkB l) 0)).bind fun t102 => (if t102 = true then ((strings_HasSuffix.f (mkB l) (⟨#[45]⟩ : ByteArray)).bind fun t103 => (if t103 = true then (ident_Valid.j0 k (mkB l) true) else ((strings_Contains.f (mkB l) (⟨#[45, 45]⟩ : ByteArray)).bind fun t104 => (ident_Valid.j0 k (mkB l) t104)))) else (ident_Valid.j0 k (mkB l) true))) b → Ev (fun k => ident_Valid.f k (mkB l)) b := fun e => by
    unfold ident_Valid.f
    exact ev_neg (by rw [toList_mk]; exact h1) (ev_neg (by rw [size_mk]; omega) (ev_pos (by rw [size_mk]; omega) e))
  have e4 : strings_Contains.f (mkB l) ⟨#[45, 45]⟩ = some (Lib.contains l [45, 45]) := by
    unfold strings_Contains.f
    rw [if_pos (by rw [size_mk]; omega)]; rfl
  by_cases h3 : 97 ≤ bt (mkB l) (0 : Nat) ∧ bt (mkB l) (0 : Nat) ≤ 122
  · have h3' : 97 ≤ bt (mkB l) 0 ∧ bt (mkB l) 0 ≤ 122 := h3
    by_cases h4 : bt (mkB l) (l.length - 1 : Nat) = 45
    · refine ⟨false, ⟨fun h => by (cases h), fun h => by (have := ((h.2.2.2 (l.length - 1) (by omega)).2 h4).1; omega)⟩, pre ?_⟩
      simp only [small_ev, Option.bind_some, suffix_ev l h1' (by omega)]
      exact ev_pos (by simpa using h3') (ev_pos (by simpa using h4) bad)
    · by_cases h5 : Lib.contains l [45, 45] = true
      · obtain ⟨i, q1, q2, q3⟩ := (twice45 l).1 h5
        refine ⟨false, ⟨fun h => by (cases h), fun h => absurd q3 ((h.2.2.2 i (by omega)).2 q2).2⟩, pre ?_⟩
        simp only [small_ev, Option.bind_some, suffix_ev l h1' (by omega), e4, h5]
        exact ev_pos (by simpa using h3') (ev_neg (by simpa using h4) bad)
      · obtain ⟨b, hb, eb⟩ := name_l0 l (by omega) l.length 0 (by omega)
        have h5' : Lib.contains l [45, 45] = false := by simpa using h5
        refine ⟨b, ?_, pre ?_⟩
        · rw [hb]
          refine ⟨fun q => ⟨h1', by omega, h3, fun j hj => ⟨q j (by omega) hj, fun e => ?_⟩⟩, fun q j _ hj => (q.2.2.2 j hj).1⟩
          by_cases hl : j + 1 < l.length
          · exact ⟨hl, fun e' => h5 ((twice45 l).2 ⟨j, hl, e, e'⟩)⟩
          · exact absurd (by rw [show l.length - 1 = j by omega]; exact e) h4
        · simp only [small_ev, Option.bind_some, suffix_ev l h1' (by omega), e4, h5']
          exact ev_pos (by simpa using h3') (ev_neg (by simpa using h4) (ev_step (fun k => by simp only [ident_Valid.j0] <;> exact rfl) (ev_neg (by simp) eb)))
  · have h3' : ¬ (97 ≤ bt (mkB l) 0 ∧ bt (mkB l) 0 ≤ 122) := h3
    refine ⟨false, ⟨fun h => by (cases h), fun h => absurd h.2.2.1 h3⟩, pre ?_⟩
    simp only [small_ev, Option.bind_some]
    exact ev_neg (by simpa using h3') bad
end
/-- A point in range. -/
def inR (p : S52) : Prop := -32768 ≤ p.f0 ∧ p.f0 ≤ 32768 ∧ -32768 ≤ p.f1 ∧ p.f1 ≤ 32768
instance (p : S52) : Decidable (inR p) := by unfold inR; infer_instance
theorem outside_ev (x y : Int) : formation_outside.f x y = some (!decide (-32768 ≤ x ∧ x ≤ 32768 ∧ -32768 ≤ y ∧ y ≤ 32768)) := by
  unfold formation_outside.f
  by_cases h1 : x < -32768
  · rw [if_pos h1, decide_eq_false (by omega)]; rfl
  · rw [if_neg h1]
    by_cases h2 : x > 32768
    · rw [if_pos h2, decide_eq_false (by omega)]; rfl
    · rw [if_neg h2]
      by_cases h3 : y < -32768
      · rw [if_pos h3, decide_eq_false (by omega)]; rfl
      · rw [if_neg h3]
        by_cases h4 : y > 32768
        · rw [decide_eq_true h4, decide_eq_false (by omega)]; rfl
        · rw [decide_eq_false h4, decide_eq_true (by omega)]; rfl
theorem rvalid_ev (x y : Int) : dancestudioref03_Valid.f x y = some (decide (-32768 ≤ x ∧ x ≤ 32768 ∧ -32768 ≤ y ∧ y ≤ 32768)) := by
  unfold dancestudioref03_Valid.f
  by_cases h1 : x ≥ -32768
  · rw [if_pos h1]
    by_cases h2 : x ≤ 32768
    · rw [if_pos h2]
      by_cases h3 : y ≥ -32768
      · rw [if_pos h3]; congr 1; exact decide_eq_decide.2 (by omega)
      · rw [if_neg h3, decide_eq_false (by omega)]
    · rw [if_neg h2, decide_eq_false (by omega)]
  · rw [if_neg h1, decide_eq_false (by omega)]
theorem rdT (l : List S52) {i : Nat} (h : i < l.length) : rd_T52 l (i : Int) = l[i] := by
  unfold rd_T52
  rw [List.getD_eq_getElem?_getD, Int.toNat_natCast, List.getElem?_eq_getElem h]; rfl
theorem cf_l0 (l : List S52) (hn : l.length < 9223372036854775807) (d : Nat) : ∀ i : Nat, i + d = l.length → ∃ r : Int, (r < 0 ↔ ∀ j (h : j < l.length), i ≤ j → inR l[j]) ∧ Ev (fun k => api_Point_53.l0 k l (l.length : Int) (i : Int)) r := by
  induction d with
  | zero =>
    intro i hi
    exact ⟨-1, ⟨fun _ j h1 h2 => by omega, fun _ => by omega⟩, ev_step (fun k => by simp only [api_Point_53.l0] <;> exact rfl) (ev_neg (by omega) (ev_now _))⟩
  | succ d ih =>
    intro i hi
    have hlt : i < l.length := by omega
    obtain ⟨r, hr, er⟩ := ih (i + 1) (by omega)
    by_cases h : inR l[i]
    · refine ⟨r, ?_, ev_step (fun k => by simp only [api_Point_53.l0] <;> exact rfl) (ev_pos (by omega) (ev_pos (by omega) (ev_pos (by omega) ?_)))⟩
      · rw [hr]
        exact ⟨fun q j h1 h2 => by by_cases e : j = i; (subst e; exact h); exact q j h1 (by omega), fun q j h1 h2 => q j h1 (by omega)⟩
      · simp only [outside_ev, Option.bind_some, rdT l hlt]
        rw [decide_eq_true (show -32768 ≤ l[i].f0 ∧ l[i].f0 ≤ 32768 ∧ -32768 ≤ l[i].f1 ∧ l[i].f1 ≤ 32768 from h), w64 (by omega) (by omega)]
        exact ev_neg (by simp) er
    · refine ⟨(i : Int), ⟨fun q => by omega, fun q => absurd (q i hlt (Nat.le_refl _)) h⟩, ev_step (fun k => by simp only [api_Point_53.l0] <;> exact rfl) (ev_pos (by omega) (ev_pos (by omega) (ev_pos (by omega) ?_)))⟩
      simp only [outside_ev, Option.bind_some, rdT l hlt]
      rw [decide_eq_false (show ¬ (-32768 ≤ l[i].f0 ∧ l[i].f0 ≤ 32768 ∧ -32768 ≤ l[i].f1 ∧ l[i].f1 ≤ 32768) from h)]
      exact ev_pos (by simp) (ev_now _)
theorem cf_ev (l : List S52) (hn : l.length < 9223372036854775807) : ∃ b : Bool, (b = false ↔ ∀ j (h : j < l.length), inR l[j]) ∧ Ev (fun k => api_Point_30.f k l) b := by
  obtain ⟨r, hr, er⟩ := cf_l0 l hn l.length 0 (by omega)
  refine ⟨decide (r ≥ 0), ?_, Ev.bind er (ev_now _)⟩
  rw [decide_eq_false_iff_not, show ¬ r ≥ 0 ↔ r < 0 by omega, hr]
  exact ⟨fun q j h => q j h (Nat.zero_le _), fun q j h _ => q j h⟩
open Classical in
/-- What Check says. -/
noncomputable def chkF (l : Bs) (p : List S52) : Int := if ¬ nameOk l then 8 else if p.length = 0 then 4 else if p.length > 16 then 3 else if ¬ (∀ j (h : j < p.length), inR p[j]) then 1 else if (p.map ptP).Nodup then 0 else 7
theorem check_ev (l : Bs) (p : List S52) : Ev (fun k => formation_Check.f k (mkB l) p) (chkF l p) := by
  unfold formation_Check.f
  obtain ⟨b, hb, eb⟩ := name_ev l
  refine Ev.bind eb ?_
  unfold chkF
  cases b with
  | false =>
    rw [if_pos (show ¬ nameOk l from fun h => by have := hb.2 h; cases this)]
    exact ev_neg (by simp) (ev_now _)
  | true =>
    rw [if_neg (show ¬ ¬ nameOk l from fun h => h (hb.1 rfl))]
    refine ev_pos (c := true = true) rfl ?_
    by_cases h1 : p.length = 0
    · rw [if_pos h1]; exact ev_pos (by omega) (ev_now _)
    rw [if_neg h1]
    refine ev_neg (by omega) ?_
    by_cases h2 : p.length > 16
    · rw [if_pos h2]; exact ev_pos (by omega) (ev_now _)
    rw [if_neg h2]
    refine ev_neg (by omega) ?_
    obtain ⟨c, hc, ec⟩ := cf_ev p (by omega)
    refine Ev.bind ec ?_
    cases c with
    | true =>
      rw [if_pos (show ¬ (∀ j (h : j < p.length), inR p[j]) from fun h => by have := hc.2 h; cases this)]
      exact ev_pos (c := true = true) rfl (ev_now _)
    | false =>
      rw [if_neg (show ¬ ¬ (∀ j (h : j < p.length), inR p[j]) from fun h => h (hc.1 rfl))]
      refine ev_neg (by simp) ?_
      by_cases h3 : (p.map ptP).Nodup
      · simp only [if_pos h3]; exact ev_now _
      · simp only [if_neg h3]; exact ev_now _
open Classical in
noncomputable def dupF (p : List S52) : Int := if (p.map ptP).Nodup then 0 else 7
theorem dupF_0 {p : List S52} (h : ∀ a b (ha : a < p.length) (hb : b < p.length), a < b → ptP p[a] ≠ ptP p[b]) : dupF p = 0 := by
  unfold dupF
  refine if_pos (List.pairwise_iff_getElem.2 fun i j hi hj hij => ?_)
  rw [List.getElem_map, List.getElem_map]
  exact h i j (by simpa using hi) (by simpa using hj) hij
theorem dupF_7 {p : List S52} {a b : Nat} (ha : a < p.length) (hb : b < p.length) (hab : a < b) (h : ptP p[a] = ptP p[b]) : dupF p = 7 := by
  unfold dupF
  refine if_neg fun q => ?_
  have := List.pairwise_iff_getElem.1 q a b (by simpa using ha) (by simpa using hb) hab
  rw [List.getElem_map, List.getElem_map] at this
  exact this h
section
variable (s : ByteArray) (p : List S52)
theorem frchk_l1 (hn : p.length ≤ 16) (d : Nat) : ∀ i : Nat, i + d = p.length → (∀ a b (ha : a < p.length) (hb : b < p.length), a < b → b < i → ptP p[a] ≠ ptP p[b]) → Ev (fun k => dancestudioref45_Check.l1 k (i : Int) s p) (dupF p) := by
  induction d with
  | zero =>
    intro i hi h
    rw [dupF_0 fun a b ha hb hab => h a b ha hb hab (by omega)]
    exact ev_step (fun k => by simp only [dancestudioref45_Check.l1] <;> exact rfl) (ev_neg (by omega) (ev_now _))
  | succ d ih =>
    intro i hi h
    have hlt : i < p.length := by omega
    have l2 : ∀ (e k : Nat), k + e = i → (∀ q (hq : q < p.length), q < k → ptP p[q] ≠ ptP p[i]) → Ev (fun n => dancestudioref45_Check.l2 n (i : Int) (k : Int) s p) (dupF p) := by
      intro e
      induction e with
      | zero =>
        intro k hk hq
        refine ev_step (fun n => by simp only [dancestudioref45_Check.l2] <;> exact rfl) (ev_neg (by omega) ?_)
        rw [w64 (by omega) (by omega)]
        refine ih (i + 1) (by omega) fun a b ha hb hab hbi => ?_
        by_cases eb : b = i
        · subst eb; exact hq a ha (by omega)
        · exact h a b ha hb hab (by omega)
      | succ e ihe =>
        intro k hk hq
        have hklt : k < p.length := by omega
        refine ev_step (fun n => by simp only [dancestudioref45_Check.l2] <;> exact rfl) (ev_pos (by omega) (ev_pos (by omega) (ev_pos (by omega) (ev_pos (by omega) (ev_pos (by omega) ?_)))))
        rw [rdT p hlt, rdT p hklt]
        by_cases hd : ptP p[k] = ptP p[i]
        · rw [dupF_7 hklt hlt (by omega) hd]
          refine ev_pos ?_ (ev_now _)
          simp only [ptP, Prod.mk.injEq] at hd
          rw [hd.1, hd.2]; simp
        · refine ev_neg ?_ ?_
          · intro z
            simp only [Bool.and_eq_true, beq_iff_eq] at z
            exact hd (by simp only [ptP, Prod.mk.injEq]; exact ⟨z.1.symm, z.2.symm⟩)
          · rw [w64 (by omega) (by omega)]
            refine ihe (k + 1) (by omega) fun q hq' hqk => ?_
            by_cases eq : q = k
            · subst eq; exact hd
            · exact hq q hq' (by omega)
    exact ev_step (fun k => by simp only [dancestudioref45_Check.l1] <;> exact rfl) (ev_pos (by omega) (l2 i 0 (by omega) fun q _ hq => by omega))
open Classical in
theorem frchk_l0 (hn : p.length ≤ 16) (d : Nat) : ∀ i : Nat, i + d = p.length → Ev (fun k => dancestudioref45_Check.l0 k (i : Int) s p) (if (∀ j (h : j < p.length), i ≤ j → inR p[j]) then dupF p else 1) := by
  induction d with
  | zero =>
    intro i hi
    rw [if_pos (fun j h1 h2 => by omega)]
    exact ev_step (fun k => by simp only [dancestudioref45_Check.l0] <;> exact rfl) (ev_neg (by omega) (frchk_l1 s p hn p.length 0 (by omega) fun a b _ _ _ h => by omega))
  | succ d ih =>
    intro i hi
    have hlt : i < p.length := by omega
    have := ih (i + 1) (by omega)
    refine ev_step (fun k => by simp only [dancestudioref45_Check.l0] <;> exact rfl) (ev_pos (by omega) (ev_pos (by omega) ?_))
    simp only [rvalid_ev, Option.bind_some, rdT p hlt]
    by_cases h : inR p[i]
    · rw [decide_eq_true (show -32768 ≤ p[i].f0 ∧ p[i].f0 ≤ 32768 ∧ -32768 ≤ p[i].f1 ∧ p[i].f1 ≤ 32768 from h), w64 (by omega) (by omega)]
      refine ev_pos (c := true = true) rfl (ev_eq this ?_)
      have e : (∀ j (h : j < p.length), i + 1 ≤ j → inR p[j]) ↔ (∀ j (h : j < p.length), i ≤ j → inR p[j]) := ⟨fun q j h1 h2 => by by_cases e : j = i; (subst e; exact h); exact q j h1 (by omega), fun q j h1 h2 => q j h1 (by omega)⟩
      by_cases z : (∀ j (h : j < p.length), i + 1 ≤ j → inR p[j])
      · rw [if_pos z, if_pos (e.1 z)]
      · rw [if_neg z, if_neg (fun y => z (e.2 y))]
    · rw [decide_eq_false (show ¬ (-32768 ≤ p[i].f0 ∧ p[i].f0 ≤ 32768 ∧ -32768 ≤ p[i].f1 ∧ p[i].f1 ≤ 32768) from h), if_neg (fun q => h (q i hlt (Nat.le_refl _)))]
      exact ev_neg (by simp) (ev_now _)
end
theorem rcheck_ev (l : Bs) (p : List S52) : Ev (fun k => dancestudioref45_Check.f k (mkB l) p) (chkF l p) := by
  unfold dancestudioref45_Check.f
  obtain ⟨b, hb, eb⟩ := rname_ev l
  refine Ev.bind eb ?_
  unfold chkF
  cases b with
  | false =>
    rw [if_pos (show ¬ nameOk l from fun h => by have := hb.2 h; cases this)]
    exact ev_neg (by simp) (ev_now _)
  | true =>
    rw [if_neg (show ¬ ¬ nameOk l from fun h => h (hb.1 rfl))]
    refine ev_pos (c := true = true) rfl ?_
    by_cases h1 : p.length = 0
    · rw [if_pos h1]; exact ev_pos (by omega) (ev_now _)
    rw [if_neg h1]
    refine ev_neg (by omega) ?_
    by_cases h2 : p.length > 16
    · rw [if_pos h2]; exact ev_pos (by omega) (ev_now _)
    rw [if_neg h2]
    refine ev_neg (by omega) (ev_eq (frchk_l0 (mkB l) p (by omega) p.length 0 (by omega)) ?_)
    by_cases h3 : ∀ j (h : j < p.length), inR p[j]
    · rw [if_pos (fun j h _ => h3 j h), if_neg (show ¬ ¬ (∀ j (h : j < p.length), inR p[j]) from fun q => q h3)]; rfl
    · rw [if_neg (fun q => h3 fun j h => q j h (Nat.zero_le _)), if_pos h3]
theorem chkF_ok {l : Bs} {p : List S52} (h : chkF l p = 0) : 1 ≤ p.length ∧ p.length ≤ 16 ∧ (∀ j (h : j < p.length), inR p[j]) ∧ (p.map ptP).Nodup ∧ nameOk l := by
  unfold chkF at h
  by_cases h0 : nameOk l
  · rw [if_neg (show ¬ ¬ nameOk l from fun q => q h0)] at h
    by_cases h1 : p.length = 0
    · rw [if_pos h1] at h; omega
    rw [if_neg h1] at h
    by_cases h2 : p.length > 16
    · rw [if_pos h2] at h; omega
    rw [if_neg h2] at h
    by_cases h3 : ∀ j (h : j < p.length), inR p[j]
    · rw [if_neg (show ¬ ¬ (∀ j (h : j < p.length), inR p[j]) from fun q => q h3)] at h
      by_cases h4 : (p.map ptP).Nodup
      · exact ⟨by omega, by omega, h3, h4, h0⟩
      · rw [if_neg h4] at h; omega
    · rw [if_pos (show ¬ (∀ j (h : j < p.length), inR p[j]) from h3)] at h; omega
  · rw [if_pos h0] at h; omega
theorem chkF_of {l : Bs} {p : List S52} (h0 : nameOk l) (h1 : 1 ≤ p.length) (h2 : p.length ≤ 16) (h3 : ∀ j (h : j < p.length), inR p[j]) (h4 : (p.map ptP).Nodup) : chkF l p = 0 := by
  unfold chkF
  rw [if_neg (show ¬ ¬ nameOk l from fun q => q h0), if_neg (by omega), if_neg (by omega), if_neg (show ¬ ¬ (∀ j (h : j < p.length), inR p[j]) from fun q => q h3), if_pos h4]
end Go.Proofs.YtaggccbndmmbhaaDoor.PAll
/- The chapter's examples. -/
namespace Go.Proofs.YtaggccbndmmbhaaDoor.PAll
open Go Go.RowKit Go.Proofs.YtaggccbndmmbhaaDoorW.PrintWords Go.Proofs.YtaggccbndmmbhaaDoorW.PrintLast Go.Proofs.YtaggccbndmmbhaaDoorW.PrintMore Go.Proofs.YtaggccbndmmbhaaDoor.MathNum Go.Proofs.YtaggccbndmmbhaaDoor.EvWords
set_option maxRecDepth 100000 in
theorem awake_all (k : Nat) : dancestudiolaw45_awake.f (k + 60) = some true := by kernel_rfl
theorem awake_ev : Ev (fun k => dancestudiolaw45_awake.f k) true := ⟨60, fun k hk => by obtain ⟨m, rfl⟩ : ∃ m, k = m + 60 := ⟨k - 60, by omega⟩; exact awake_all m⟩
theorem awake_out : Ev (fun k => (dancestudiolaw45_awake.f k).bind fun t => some t) true := Ev.bind awake_ev (ev_now _)
end Go.Proofs.YtaggccbndmmbhaaDoor.PAll
