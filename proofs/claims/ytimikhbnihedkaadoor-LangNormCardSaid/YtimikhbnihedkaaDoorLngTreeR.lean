/- The reference's 'arguments' gives the trees of a list. -/
import Derived.Test.YtimikhbnihedkaaDoorMC3
import Derived.Test.YtimikhbnihedkaaDoorPAllf55
namespace Go.Proofs.YtimikhbnihedkaaDoor.PAll
set_option linter.unusedVariables false
set_option linter.unusedSectionVars false
set_option linter.unusedSimpArgs false
open Go Go.RowKit Go.Proofs.YtimikhbnihedkaaDoorW.PrintWords Go.Proofs.YtimikhbnihedkaaDoorW.PrintLast Go.Proofs.YtimikhbnihedkaaDoorW.PrintMore Go.Proofs.YtimikhbnihedkaaDoor.MathNum Go.Proofs.YtimikhbnihedkaaDoor.EvWords

theorem szT_forest : ∀ (f : Fo), f.ok → ∀ (x : Nat) (rest : List S43) (i : Nat),
    (1 ≤ x → szT ((x + f.count : Nat) : Int) (f.flat ++ rest) i = szT (x : Int) rest (i + f.flat.length)) ∧
    (1 ≤ f.count → szT (f.count : Int) (f.flat ++ rest) i = (i : Int) + f.flat.length)
 | .nil, _, x, rest, i => ⟨fun _ => rfl, fun h => by simp only [Fo.count] at h; omega⟩
 | .cons s k r, ho, x, rest, i => by
  obtain ⟨h3, hk, hr⟩ := ho
  have main : ∀ y : Nat, szT ((y + (r.count + 1) : Nat) : Int) (s :: (k.flat ++ (r.flat ++ rest))) i = if y + r.count + k.count = 0 then (i : Int) + 1 else szT ((y + r.count + k.count : Nat) : Int) (k.flat ++ (r.flat ++ rest)) (i + 1) := by
    intro y
    have e : ((y + (r.count + 1) : Nat) : Int) - 1 + s.f3 = ((y + r.count + k.count : Nat) : Int) := by omega
    simp only [szT, e]
    by_cases h : y + r.count + k.count = 0
    · rw [if_pos h, if_pos (by omega)]
    · rw [if_neg h, if_neg (by omega)]
  have low : ∀ y : Nat, 1 ≤ y + r.count → szT ((y + (r.count + 1) : Nat) : Int) (s :: (k.flat ++ (r.flat ++ rest))) i = szT ((y + r.count : Nat) : Int) (r.flat ++ rest) (i + 1 + k.flat.length) := by
    intro y hy
    rw [main y, if_neg (by omega)]
    exact (szT_forest k hk (y + r.count) (r.flat ++ rest) (i + 1)).1 hy
  constructor
  · intro hx
    simp only [Fo.flat, Fo.count, List.cons_append, List.append_assoc, List.length_cons, List.length_append]
    rw [low x (by omega), (szT_forest r hr x rest _).1 hx]
    congr 1; omega
  · intro _
    simp only [Fo.flat, Fo.count, List.cons_append, List.append_assoc, List.length_cons, List.length_append]
    have z : ((r.count + 1 : Nat) : Int) = ((0 + (r.count + 1) : Nat) : Int) := by omega
    rw [z]
    by_cases hrc : 1 ≤ r.count
    · rw [low 0 (by omega), show ((0 + r.count : Nat) : Int) = (r.count : Int) by omega, (szT_forest r hr 0 rest _).2 hrc]; omega
    · have hrn : r = .nil := by cases r with | nil => rfl | cons _ _ _ => simp only [Fo.count] at hrc; omega
      subst hrn
      rw [main 0]
      by_cases hkc : 1 ≤ k.count
      · rw [if_neg (by simp only [Fo.count]; omega), show ((0 + Fo.nil.count + k.count : Nat) : Int) = (k.count : Int) by simp only [Fo.count]; omega, (szT_forest k hk 0 _ _).2 hkc]
        simp only [Fo.flat, List.length_nil]; omega
      · have hkn : k = .nil := by cases k with | nil => rfl | cons _ _ _ => simp only [Fo.count] at hkc; omega
        subst hkn
        rw [if_pos (by simp only [Fo.count])]
        simp only [Fo.flat, List.length_nil]; omega
theorem rsize_ev (f : Fo) (hf : f.ok) (h1 : f.count = 1) (rest : List S43) (hr : ∀ s, s ∈ rest → 0 ≤ s.f3 ∧ s.f3 ≤ 8) (hf8 : ∀ s, s ∈ f.flat → 0 ≤ s.f3 ∧ s.f3 ≤ 8) (hl : (f.flat ++ rest).length ≤ 64) :
    Ev (fun n => dancestudioref35_Size.f n (f.flat ++ rest)) (f.flat.length : Int) := by
  have e := rsize (f.flat ++ rest) hl (fun i hi => by
    rw [rd43 _ hi]
    have hm := List.getElem_mem hi
    rcases List.mem_append.1 hm with h | h
    · exact hf8 _ h
    · exact hr _ h) (f.flat ++ rest).length 0 1 (by omega) (by omega) (by omega)
  refine ev_eq (show Ev (fun n => dancestudioref35_Size.f n (f.flat ++ rest)) (szT 1 ((f.flat ++ rest).drop 0) 0) from e) ?_
  have := (szT_forest f hf 0 rest 0).2 (by omega)
  rw [h1] at this
  rw [List.drop_zero]
  have h : szT 1 (f.flat ++ rest) 0 = ((0 : Nat) : Int) + f.flat.length := this
  rw [h]; omega
theorem rarg_l0 : ∀ (f : Fo), f.ok → (∀ s, s ∈ f.flat → 0 ≤ s.f3 ∧ s.f3 ≤ 8) → f.flat.length ≤ 64 → ∀ (acc : List (List S43)), acc.length + f.count ≤ 1000 →
    Ev (fun n => dancestudioref35_arguments.l0 n f.flat acc) (acc ++ f.trees)
 | .nil, _, _, _, acc, _ => by
  simp only [Fo.trees, Fo.flat, List.append_nil]
  exact ev_step (fun k => by simp only [dancestudioref35_arguments.l0] <;> exact rfl) (ev_neg (by simp) (ev_now _))
 | .cons s k r, ho, h8, hl, acc, ha => by
  obtain ⟨h3, hk, hr⟩ := ho
  have hf : (Fo.cons s k r).flat = (Fo.cons s k .nil).flat ++ r.flat := by simp only [Fo.flat, List.append_nil, List.cons_append]
  have hs := rsize_ev (.cons s k .nil) ⟨h3, hk, trivial⟩ rfl r.flat (fun t ht => h8 t (by rw [hf]; exact List.mem_append_right _ ht)) (fun t ht => h8 t (by rw [hf]; exact List.mem_append_left _ ht)) (by rw [← hf]; exact hl)
  rw [hf] at hl ⊢
  rw [List.length_append] at hl
  simp only [Fo.count] at ha
  have hl1 : 1 ≤ (Fo.cons s k .nil).flat.length := by simp only [Fo.flat, List.length_cons]; omega
  have hla : (((Fo.cons s k .nil).flat ++ r.flat).length : Int) = (Fo.cons s k .nil).flat.length + r.flat.length := by rw [List.length_append]; omega
  refine ev_step (fun k => by simp only [dancestudioref35_arguments.l0] <;> exact rfl) (ev_pos (by rw [hla]; omega) ?_)
  refine Ev.bind hs (ev_pos (by omega) (ev_pos (by rw [hla]; omega) (ev_pos (by omega) ?_)))
  rw [Int.toNat_natCast, List.drop_left, List.take_left]
  have e := rarg_l0 r hr (fun t ht => h8 t (by rw [hf]; exact List.mem_append_right _ ht)) (by omega) (acc ++ [(Fo.cons s k .nil).flat]) (by rw [List.length_append, List.length_singleton]; omega)
  simp only [Fo.trees]
  rw [List.append_assoc] at e
  simp only [Fo.flat, List.append_nil, List.singleton_append] at e ⊢
  exact e
/-- The reference's arguments: the trees of a list. -/
theorem rarg_ev (f : Fo) (hf : f.ok) (h8 : ∀ s, s ∈ f.flat → 0 ≤ s.f3 ∧ s.f3 ≤ 8) (hl : f.flat.length ≤ 64) : Ev (fun n => dancestudioref35_arguments.f n f.flat) f.trees :=
  rarg_l0 f hf h8 hl [] (by have := Fo.count_le f; simp only [List.length_nil]; omega)

end Go.Proofs.YtimikhbnihedkaaDoor.PAll
