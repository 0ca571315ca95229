/- Lists of columns as matchings. -/
import Derived.Test.YtaacihkhckpecaaPAllx0
import Derived.Test.YtaacihkhckpecaaPAllf21
import Derived.Test.YtaacihkhckpecaaMatMatch
import Derived.Test.YtaacihkhckpecaaMatValid
namespace Go.Proofs.Ytaacihkhckpecaa.PAll
set_option linter.unusedVariables false
open Go Go.RowKit Go.Proofs.YtaacihkhckpecaaW.PrintWords Go.Proofs.YtaacihkhckpecaaW.PrintLast Go.Proofs.YtaacihkhckpecaaW.PrintMore Go.Proofs.Ytaacihkhckpecaa.MathNum Go.Proofs.Ytaacihkhckpecaa.EvWords

/-- The places of a list, from the row i on. -/
def pm : Nat → List Int → List (Nat × Nat)
  | _, [] => []
  | i, x :: t => if x = -1 then pm (i + 1) t else (i, x.toNat) :: pm (i + 1) t
theorem pm_mem : ∀ {i : Nat} {xs : List Int} {p : Nat × Nat}, p ∈ pm i xs → ∃ j, ∃ h : j < xs.length, xs[j] ≠ -1 ∧ p = (i + j, xs[j].toNat) := by
  intro i xs
  induction xs generalizing i with
  | nil => intro p h; simp [pm] at h
  | cons x t ih =>
    intro p h
    have rec' : p ∈ pm (i + 1) t → ∃ j, ∃ h : j < (x :: t).length, (x :: t)[j] ≠ -1 ∧ p = (i + j, (x :: t)[j].toNat) := fun h => by
      obtain ⟨j, hj, g1, g2⟩ := ih h
      exact ⟨j + 1, by simpa using hj, by simpa using g1, by rw [g2]; simp; omega⟩
    unfold pm at h
    by_cases hx : x = -1
    · rw [if_pos hx] at h; exact rec' h
    · rw [if_neg hx] at h
      rcases List.mem_cons.1 h with rfl | h
      · exact ⟨0, by simp, by simpa using hx, by simp⟩
      · exact rec' h
theorem pm_mt {l : List (List Bool)} {tk : List Bool} : ∀ {xs : List Int} {i : Nat}, (∀ j (h : j < xs.length), xs[j] = -1 ∨ 0 ≤ xs[j] ∧ Ed l tk (i + j) xs[j].toNat ∧ ∀ q (hq : q < j), xs[q]'(by omega) ≠ xs[j]) → Mt l tk i (pm i xs) := by
  intro xs
  induction xs with
  | nil => intro i _; exact ⟨by simp [pm], by simp [pm], by simp [pm]⟩
  | cons x t ih =>
    intro i h
    have tl : Mt l tk (i + 1) (pm (i + 1) t) := ih fun j hj => by
      have := h (j + 1) (by simpa using hj)
      simp only [List.getElem_cons_succ] at this
      rcases this with g | ⟨g1, g2, g3⟩
      · exact Or.inl g
      · refine Or.inr ⟨g1, by rw [show i + 1 + j = i + (j + 1) by omega]; exact g2, fun q hq => ?_⟩
        have := g3 (q + 1) (by omega)
        simpa using this
    unfold pm
    by_cases hx : x = -1
    · rw [if_pos hx]; exact tl.tail
    · rw [if_neg hx]
      have h0 := h 0 (by simp)
      simp only [List.getElem_cons_zero] at h0
      rcases h0 with g | ⟨g1, g2, _⟩
      · exact absurd g hx
      · refine ⟨?_, ?_, ?_⟩
        · rw [List.pairwise_cons]; exact ⟨fun p hp => by have := (tl.ok p hp).1; simp; omega, tl.rows⟩
        · rw [List.pairwise_cons]
          refine ⟨fun p hp => ?_, tl.cols⟩
          obtain ⟨j, hj, g3, rfl⟩ := pm_mem hp
          have := h (j + 1) (by simpa using hj)
          simp only [List.getElem_cons_succ] at this
          rcases this with g | ⟨g4, _, g5⟩
          · exact absurd g g3
          · have := g5 0 (by omega)
            simp only [List.getElem_cons_zero] at this
            simp only
            omega
        · intro p hp
          rcases List.mem_cons.1 hp with rfl | hp
          · exact ⟨Nat.le_refl _, by simpa using g2⟩
          · exact ⟨by have := (tl.ok p hp).1; omega, (tl.ok p hp).2⟩
theorem VM_mt {l : List (List Bool)} {mm : List Int} (h : VM l mm) : Mt l (free l) 0 (pm 0 mm) := by
  have hm := h.2.1
  refine pm_mt fun j hj => ?_
  have f := h.2.2 j (by omega)
  unfold Fits at f
  rw [ow_get hj] at f
  rcases f with f | ⟨f1, f2, f3, f4⟩
  · exact Or.inl f
  · refine Or.inr ⟨f1, ⟨by omega, by rw [free_len]; omega, ?_, fun g => by unfold free at g; exact sb_rep g⟩, fun q hq => ?_⟩
    · rw [show ((mm[j].toNat : Nat) : Int) = mm[j] by omega, Nat.zero_add]; exact f3
    · have := f4 q hq
      rw [ow_get (by omega)] at this; exact this
theorem pm_len : ∀ (xs : List Int) (i : Nat), (pm i xs).length ≤ xs.length := by
  intro xs
  induction xs with
  | nil => intro i; simp [pm]
  | cons x t ih =>
    intro i
    have := ih (i + 1)
    unfold pm
    split <;> simp <;> omega
/-- The law's number of columns. -/
theorem size_loop {mm : List Int} (hm : mm.length ≤ 24) (d : Nat) : ∀ (i n : Nat), i + d = mm.length → n ≤ i → Ev (fun k => dancestudiolaw10_size.l0 k mm (n : Int) (i : Int)) (((n + (pm i (mm.drop i)).length : Nat)) : Int) := by
  induction d with
  | zero =>
    intro i n hi hn
    rw [List.drop_eq_nil_of_le (by omega)]
    exact ev_step (fun k => by simp only [dancestudiolaw10_size.l0] <;> exact rfl) (ev_neg (by omega) (by simp only [pm, List.length_nil, Nat.add_zero]; exact ev_now _))
  | succ d ih =>
    intro i n hi hn
    rw [List.drop_eq_getElem_cons (by omega)]
    refine ev_step (fun k => by simp only [dancestudiolaw10_size.l0] <;> exact rfl) (ev_pos (by omega) (ev_pos (by omega) ?_))
    have e : rd mm (i : Int) = mm[i] := ow_get (by omega)
    rw [e]
    unfold pm
    by_cases h : mm[i] = -1
    · rw [if_pos h]
      refine ev_pos h ?_
      rw [w64 (by omega) (by omega)]
      exact ih (i + 1) n (by omega) (by omega)
    · rw [if_neg h]
      refine ev_neg h ?_
      rw [w64 (n := (n : Int) + 1) (by omega) (by omega), w64 (n := (i : Int) + 1) (by omega) (by omega)]
      have := ih (i + 1) (n + 1) (by omega) (by omega)
      rw [List.length_cons, show n + ((pm (i + 1) (mm.drop (i + 1))).length + 1) = n + 1 + (pm (i + 1) (mm.drop (i + 1))).length by omega]
      exact this
theorem sizeOf_ev {mm : List Int} (hm : mm.length ≤ 24) : Ev (fun k => dancestudiolaw10_size.f k mm) (((pm 0 mm).length : Nat) : Int) := by
  simp only [dancestudiolaw10_size.f]
  have := size_loop hm mm.length 0 0 (by omega) (by omega)
  simpa using this
theorem Mt.uncons {l : List (List Bool)} {tk : List Bool} {i c : Nat} {qs : List (Nat × Nat)} (h : Mt l tk i ((i, c) :: qs)) : Ed l tk i c ∧ Mt l (tk.set c true) (i + 1) qs := by
  have hE := (h.ok (i, c) (by simp)).2
  have r := h.rows
  have k := h.cols
  rw [List.pairwise_cons] at r k
  refine ⟨hE, r.2, k.2, fun p hp => ?_⟩
  obtain ⟨g1, g2⟩ := h.ok p (by simp [hp])
  have := r.1 p hp
  have := k.1 p hp
  exact ⟨by simp at *; omega, (Ed_set hE.2.1).2 ⟨g2, fun e => by simp at *; omega⟩⟩
theorem Mt.up {l : List (List Bool)} {tk : List Bool} {i : Nat} {xs : List Int} (h : Mt l tk i (pm (i + 1) xs)) : Mt l tk (i + 1) (pm (i + 1) xs) :=
  ⟨h.rows, h.cols, fun p hp => ⟨by obtain ⟨j, _, _, rfl⟩ := pm_mem hp; show i + 1 ≤ i + 1 + j; omega, (h.ok p hp).2⟩⟩
end Go.Proofs.Ytaacihkhckpecaa.PAll
