/- What the improvement of an assignment by one row does: prices stay proofs, and the row gets a column. -/
import Derived.Test.YtbmflpflmjfabaaPAllx0
import Derived.Test.YtbmflpflmjfabaaPAllf31
import Derived.Test.YtbmflpflmjfabaaMathNum
import Derived.Test.YtbmflpflmjfabaaEvWords
import Derived.Test.YtbmflpflmjfabaaAsgCheck
namespace Go.Proofs.Ytbmflpflmjfabaa.PAll
set_option linter.unusedVariables false
open Go Go.RowKit Go.Proofs.YtbmflpflmjfabaaW.PrintWords Go.Proofs.YtbmflpflmjfabaaW.PrintLast Go.Proofs.YtbmflpflmjfabaaW.PrintMore Go.Proofs.Ytbmflpflmjfabaa.MathNum Go.Proofs.Ytbmflpflmjfabaa.EvWords

/-- The cost of row r and column j, both from 1 on. -/
def M (c : List (List Int)) (r j : Int) : Int := rd (rd_L1 c (r - 1)) (j - 1)
/-- A valid table. -/
structure Tab (c : List (List Int)) (n : Int) : Prop where
  len : (c.length : Int) = n
  le : n ≤ 16
  row : ∀ r, 1 ≤ r → r ≤ n → ((rd_L1 c (r - 1)).length : Int) = n
  lo : ∀ r j, 1 ≤ r → r ≤ n → 1 ≤ j → j ≤ n → 0 ≤ M c r j
  hi : ∀ r j, 1 ≤ r → r ≤ n → 1 ≤ j → j ≤ n → M c r j ≤ 1099511627776

theorem tab_of {c : List (List Int)} (h : chk c = 0) : Tab c c.length := by
  obtain ⟨h1, h2, h3⟩ := chk_zero h
  have hr : ∀ r : Int, 1 ≤ r → r ≤ c.length → rd_L1 c (r - 1) ∈ c := by
    intro r a b
    obtain ⟨m, hm⟩ := Int.eq_ofNat_of_zero_le (show 0 ≤ r - 1 by omega)
    rw [hm, rdL_nat c (by omega)]; exact List.getElem_mem _
  have hv : ∀ r j : Int, 1 ≤ r → r ≤ c.length → 1 ≤ j → j ≤ c.length → M c r j ∈ rd_L1 c (r - 1) := by
    intro r j a b e f
    have hl := h2 _ (hr r a b)
    unfold M
    obtain ⟨m, hm⟩ := Int.eq_ofNat_of_zero_le (show 0 ≤ j - 1 by omega)
    rw [hm, rd_nat _ (by omega)]; exact List.getElem_mem _
  exact ⟨rfl, by omega, fun r a b => by rw [h2 _ (hr r a b)], fun r j a b e f => (h3 _ (hr r a b) _ (hv r j a b e f)).1, fun r j a b e f => (h3 _ (hr r a b) _ (hv r j a b e f)).2⟩

theorem pigeon (n : Nat) : ∀ (m : Nat) (f : Nat → Nat), (∀ a, a < n → f a < m) → (∀ a b, a < n → b < n → f a = f b → a = b) → n ≤ m := by
  induction n with
  | zero => intro m f _ _; omega
  | succ n ih =>
    intro m f h1 h2
    have hm : 0 < m := by have := h1 0 (by omega); omega
    have := ih (m - 1) (fun a => if f a = m - 1 then f n else f a) (fun a ha => by
      have a1 := h1 a (by omega)
      have a2 := h1 n (by omega)
      by_cases e : f a = m - 1
      · rw [if_pos e]
        have : f n ≠ m - 1 := fun e2 => by have := h2 a n (by omega) (by omega) (by omega); omega
        omega
      · rw [if_neg e]; omega) (fun a b ha hb e => by
      by_cases e1 : f a = m - 1 <;> by_cases e2 : f b = m - 1
      · exact h2 a b (by omega) (by omega) (by omega)
      · rw [if_pos e1, if_neg e2] at e
        have := h2 n b (by omega) (by omega) e; omega
      · rw [if_neg e1, if_pos e2] at e
        have := h2 a n (by omega) (by omega) e; omega
      · rw [if_neg e1, if_neg e2] at e
        exact h2 a b (by omega) (by omega) e)
    omega

/-- Rows 1 to i have columns; prices prove that they are least. -/
structure Dual (c : List (List Int)) (n i : Int) (U V O : List Int) : Prop where
  lu : (U.length : Int) = n + 1
  lv : (V.length : Int) = n + 1
  lo : (O.length : Int) = n + 1
  feas : ∀ r j, 1 ≤ r → r ≤ n → 1 ≤ j → j ≤ n → rd U r + rd V j ≤ M c r j
  tight : ∀ j, 1 ≤ j → j ≤ n → rd O j ≠ 0 → rd U (rd O j) + rd V j = M c (rd O j) j
  vneg : ∀ j, 1 ≤ j → j ≤ n → rd V j ≤ 0
  free : ∀ j, 1 ≤ j → j ≤ n → rd O j = 0 → rd V j = 0
  rng : ∀ j, 1 ≤ j → j ≤ n → 0 ≤ rd O j ∧ rd O j ≤ i
  inj : ∀ j j', 1 ≤ j → j ≤ n → 1 ≤ j' → j' ≤ n → rd O j = rd O j' → rd O j ≠ 0 → j = j'
  cov : ∀ r, 1 ≤ r → r ≤ i → ∃ j, 1 ≤ j ∧ j ≤ n ∧ rd O j = r
  ulo : ∀ r, 1 ≤ r → r ≤ n → 0 ≤ rd U r
  uhi : ∀ r, 1 ≤ r → r ≤ n → rd U r ≤ 1099511627776

theorem free_col {n i : Int} {O : List Int} (hn : 0 ≤ n) (hi : i < n) (hi0 : 0 ≤ i) (rng : ∀ j, 1 ≤ j → j ≤ n → 0 ≤ rd O j ∧ rd O j ≤ i)
    (inj : ∀ j j', 1 ≤ j → j ≤ n → 1 ≤ j' → j' ≤ n → rd O j = rd O j' → rd O j ≠ 0 → j = j') : ∃ j, 1 ≤ j ∧ j ≤ n ∧ rd O j = 0 := by
  apply Classical.byContradiction
  intro hno
  have hall : ∀ j, 1 ≤ j → j ≤ n → rd O j ≠ 0 := fun j a b e => hno ⟨j, a, b, e⟩
  have := pigeon n.toNat i.toNat (fun a => (rd O ((a : Int) + 1)).toNat - 1) (fun a ha => by
    have r := rng ((a : Int) + 1) (by omega) (by omega)
    have z := hall ((a : Int) + 1) (by omega) (by omega)
    show _ - 1 < _
    omega) (fun a b ha hb e => by
    have r1 := rng ((a : Int) + 1) (by omega) (by omega)
    have r2 := rng ((b : Int) + 1) (by omega) (by omega)
    have z1 := hall ((a : Int) + 1) (by omega) (by omega)
    have z2 := hall ((b : Int) + 1) (by omega) (by omega)
    have e' : (rd O ((a : Int) + 1)).toNat - 1 = (rd O ((b : Int) + 1)).toNat - 1 := e
    have := inj ((a : Int) + 1) ((b : Int) + 1) (by omega) (by omega) (by omega) (by omega) (by omega) z1
    omega)
  omega

/-- Seen columns, the last one first: each but 0 was come to from one that was seen before it. -/
inductive Chain (F : List Int) : List Int → Prop
  | base : Chain F [0]
  | step {j : Int} {t : List Int} : j ≠ 0 → j ∉ t → rd F j ∈ t → Chain F t → Chain F (j :: t)

theorem Chain.suffix {F : List Int} {a b : List Int} {j : Int} (h : Chain F (a ++ j :: b)) : Chain F (j :: b) := by
  induction a with
  | nil => exact h
  | cons x a ih =>
    cases a with
    | nil =>
      rw [List.nil_append] at ih
      cases h with
      | step _ _ _ h => exact h
    | cons y a =>
      cases h with
      | step _ _ _ h => exact ih h
theorem Chain.has_zero {F : List Int} {t : List Int} (h : Chain F t) : (0 : Int) ∈ t := by
  induction h with
  | base => simp
  | step _ _ _ _ ih => exact List.mem_cons_of_mem _ ih
theorem Chain.congr {F G : List Int} {t : List Int} (h : Chain F t) (e : ∀ j ∈ t, j ≠ 0 → rd G j = rd F j) : Chain G t := by
  induction h with
  | base => exact Chain.base
  | step h0 h1 h2 _ ih => exact Chain.step h0 h1 (by rw [e _ (List.mem_cons_self) h0]; exact h2) (ih fun j hj hz => e j (List.mem_cons_of_mem _ hj) hz)

/-- Behind the search: the column a is a hole; the columns on the way back get each other's rows. -/
structure Back (c : List (List Int)) (n i : Int) (U V O F : List Int) (a : Int) (t : List Int) : Prop where
  lo : (O.length : Int) = n + 1
  lf : (F.length : Int) = n + 1
  ch : Chain F (a :: t)
  rgt : ∀ j ∈ a :: t, 0 ≤ j ∧ j ≤ n
  rng : ∀ j, 0 ≤ j → j ≤ n → 0 ≤ rd O j ∧ rd O j ≤ i
  inj : ∀ j j', 0 ≤ j → j ≤ n → 0 ≤ j' → j' ≤ n → j ≠ a → j' ≠ a → rd O j = rd O j' → rd O j ≠ 0 → j = j'
  cov : ∀ r, 1 ≤ r → r ≤ i → ∃ j, 0 ≤ j ∧ j ≤ n ∧ j ≠ a ∧ rd O j = r
  tight : ∀ j, 1 ≤ j → j ≤ n → j ≠ a → rd O j ≠ 0 → rd U (rd O j) + rd V j = M c (rd O j) j
  cht : ∀ j ∈ a :: t, j ≠ 0 → rd U (rd O (rd F j)) + rd V j = M c (rd O (rd F j)) j
  occ : ∀ j ∈ t, rd O j ≠ 0
  free : ∀ j, 1 ≤ j → j ≤ n → j ≠ a → rd O j = 0 → rd V j = 0

theorem back_ev {c : List (List Int)} {n i : Int} {U V F : List Int} (hn : 0 ≤ n) (m : Nat) : ∀ (O : List Int) (a : Int) (t : List Int), t.length = m → Back c n i U V O F a t →
    ∃ O', Ev (fun k => assign_solved_add.l4 k U V O F a) (U, V, O') ∧ (O'.length : Int) = n + 1 ∧ (∀ j, 0 ≤ j → j ≤ n → 0 ≤ rd O' j ∧ rd O' j ≤ i) ∧
      (∀ j j', 1 ≤ j → j ≤ n → 1 ≤ j' → j' ≤ n → rd O' j = rd O' j' → rd O' j ≠ 0 → j = j') ∧ (∀ r, 1 ≤ r → r ≤ i → ∃ j, 1 ≤ j ∧ j ≤ n ∧ rd O' j = r) ∧
      (∀ j, 1 ≤ j → j ≤ n → rd O' j ≠ 0 → rd U (rd O' j) + rd V j = M c (rd O' j) j) ∧ (∀ j, 1 ≤ j → j ≤ n → rd O' j = 0 → rd V j = 0) := by
  induction m using Nat.strongRecOn with
  | _ m ih =>
  intro O a t hm B
  by_cases h0 : a = 0
  · subst h0
    refine ⟨O, ?_, B.lo, B.rng, fun j j' a1 a2 b1 b2 e z => B.inj j j' (by omega) a2 (by omega) b2 (by omega) (by omega) e z, fun r h1 h2 => ?_, fun j a1 a2 z => B.tight j a1 a2 (by omega) z, fun j a1 a2 z => B.free j a1 a2 (by omega) z⟩
    · exact ev_step (fun k => by simp only [assign_solved_add.l4] <;> exact rfl) (ev_pos (show (0 : Int) = 0 from rfl) (ev_now _))
    · obtain ⟨j, x, y, z, e⟩ := B.cov r h1 h2
      exact ⟨j, by omega, y, e⟩
  · have hc := B.ch
    have ha := B.rgt a (List.mem_cons_self)
    have lo := B.lo
    have lf := B.lf
    obtain ⟨hz, hnot, hf, hct⟩ : a ≠ 0 ∧ a ∉ t ∧ rd F a ∈ t ∧ Chain F t := by
      cases hc with
      | base => exact absurd rfl h0
      | step a1 a2 a3 a4 => exact ⟨a1, a2, a3, a4⟩
    obtain ⟨p, t2, ht⟩ := List.append_of_mem hf
    have hfr := B.rgt (rd F a) (List.mem_cons_of_mem _ hf)
    have hfa : rd F a ≠ a := fun e => hnot (e ▸ hf)
    have hfo := B.occ _ hf
    have hset : ∀ j, 0 ≤ j → rd (O.set a.toNat (rd O (rd F a))) j = if j = a then rd O (rd F a) else rd O j := fun j hj => rd_set (by omega) (by omega) hj
    have hsub : ∀ j ∈ rd F a :: t2, j ∈ t := fun j hj => by rw [ht]; exact List.mem_append_right _ hj
    have nb : Back c n i U V (O.set a.toNat (rd O (rd F a))) F (rd F a) t2 := by
      refine ⟨by rw [List.length_set]; exact lo, lf, ?_, fun j hj => B.rgt j (List.mem_cons_of_mem _ (hsub j hj)), fun j a1 a2 => ?_, fun j j' a1 a2 b1 b2 n1 n2 e z => ?_, fun r h1 h2 => ?_, fun j a1 a2 n1 z => ?_, fun j hj hz => ?_, fun j hj => ?_, fun j a1 a2 n1 z => ?_⟩
      · rw [ht] at hct; exact hct.suffix
      · rw [hset j a1]
        split
        · exact B.rng _ hfr.1 hfr.2
        · exact B.rng j a1 a2
      · rw [hset j a1] at e z
        rw [hset j' b1] at e
        by_cases e1 : j = a <;> by_cases e2 : j' = a
        · omega
        · rw [if_pos e1] at e z
          rw [if_neg e2] at e
          exact absurd (B.inj (rd F a) j' hfr.1 hfr.2 b1 b2 hfa e2 e z) (fun h => n2 h.symm)
        · rw [if_neg e1] at e z
          rw [if_pos e2] at e
          exact absurd (B.inj j (rd F a) a1 a2 hfr.1 hfr.2 e1 hfa e z) n1
        · rw [if_neg e1] at e z
          rw [if_neg e2] at e
          exact B.inj j j' a1 a2 b1 b2 e1 e2 e z
      · obtain ⟨j, x, y, z, e⟩ := B.cov r h1 h2
        by_cases e1 : j = rd F a
        · exact ⟨a, ha.1, ha.2, fun h => hfa h.symm, by rw [hset a ha.1, if_pos rfl, ← e1]; exact e⟩
        · exact ⟨j, x, y, e1, by rw [hset j x, if_neg z]; exact e⟩
      · rw [hset j (by omega)] at z ⊢
        by_cases e1 : j = a
        · subst e1
          rw [if_pos rfl]
          exact B.cht j (List.mem_cons_self) h0
        · rw [if_neg e1] at z ⊢
          exact B.tight j a1 a2 e1 z
      · have hjt := hsub j hj
        have hjc : rd F j ∈ t := by
          have hs : Chain F (rd F a :: t2) := by rw [ht] at hct; exact hct.suffix
          have : rd F j ∈ rd F a :: t2 := by
            clear ih B hset hsub
            generalize rd F a :: t2 = q at hs hj
            induction hs with
            | base => simp at hj; exact absurd hj hz
            | step s0 s1 s2 s3 ih =>
              rcases List.mem_cons.1 hj with rfl | hj
              · exact List.mem_cons_of_mem _ s2
              · exact List.mem_cons_of_mem _ (ih hj)
          exact hsub _ this
        have hr := B.rgt _ (List.mem_cons_of_mem _ hjc)
        have hne : rd F j ≠ a := fun e => hnot (e ▸ hjc)
        rw [hset _ hr.1, if_neg hne]
        exact B.cht j (List.mem_cons_of_mem _ hjt) hz
      · have hjt := hsub j (List.mem_cons_of_mem _ hj)
        have hne : j ≠ a := fun e => hnot (e ▸ hjt)
        rw [hset j (B.rgt j (List.mem_cons_of_mem _ hjt)).1, if_neg hne]
        exact B.occ j hjt
      · rw [hset j (by omega)] at z
        by_cases e1 : j = a
        · rw [if_pos e1] at z; exact absurd z hfo
        · rw [if_neg e1] at z; exact B.free j a1 a2 e1 z
    have hlen : t2.length < m := by rw [← hm, ht]; simp; omega
    obtain ⟨O', e, r⟩ := ih t2.length hlen _ _ _ rfl nb
    refine ⟨O', ?_, r⟩
    refine ev_step (fun k => by simp only [assign_solved_add.l4] <;> exact rfl) ?_
    exact ev_neg h0 (ev_pos (by omega) (ev_pos (by omega) (ev_pos (by omega) (ev_pos (by omega) (ev_pos (by omega) e)))))
end Go.Proofs.Ytbmflpflmjfabaa.PAll
