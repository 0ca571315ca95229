/- AssignSolve: plain law. -/
import Derived.Test.YtaggccbndmmbhaaDoorBase
import Derived.Test.YtaggccbndmmbhaaDoorPAllf37
import Derived.Test.YtaggccbndmmbhaaDoorPAllf61
import Derived.Test.YtaggccbndmmbhaaDoorFAsgRef
namespace Go.Proofs.YtaggccbndmmbhaaDoor.PAll
set_option linter.unusedVariables false
open Go Go.RowKit Go.Proofs.YtaggccbndmmbhaaDoorW.PrintWords Go.Proofs.YtaggccbndmmbhaaDoorW.PrintLast Go.Proofs.YtaggccbndmmbhaaDoorW.PrintMore Go.Proofs.YtaggccbndmmbhaaDoor.MathNum Go.Proofs.YtaggccbndmmbhaaDoor.EvWords
attribute [local irreducible] rd M rdOf pop has

theorem ne_has {s j q : Nat} (h1 : has s j = true) (h2 : has s q = false) : q ≠ j := fun e => by rw [e, h1] at h2; cases h2
/-- The costs behind the sets from s on are known. -/
def Known (c : List (List Int)) (n : Nat) (X : List Int) (s : Nat) : Prop := X.length = 2 ^ n ∧ ∀ t : Nat, s ≤ t → t < 2 ^ n → MinF c n (pop t) t (rd X t)

section
variable {c : List (List Int)} {n : Nat}
theorem least_l3 (T : Tab c n) (hn : n < 9) {X : List Int} {s : Nat} (hs : s + 1 < 2 ^ n) (K : Known c n X (s + 1)) {Q : List Int → Prop}
    (h : ∀ X', Known c n X' s → ∃ R, Ev (fun k => dancestudioref11_least.l2 k c n X' ((s : Int) - 1)) R ∧ Q R) (d : Nat) : ∀ (j : Nat) (best : Int), j + d = n →
      ((best = -1 ∧ ∀ q, q < j → has s q = true) ∨ ∃ j0, j0 < j ∧ has s j0 = false ∧ best = M c ((pop s : Int) + 1) ((j0 : Int) + 1) + rd X ((s + 2 ^ j0 : Nat) : Int) ∧ ∀ q, q < j → has s q = false → best ≤ M c ((pop s : Int) + 1) ((q : Int) + 1) + rd X ((s + 2 ^ q : Nat) : Int)) →
      ∃ R, Ev (fun k => dancestudioref11_least.l3 k c n X (s : Int) (pop s : Int) best (j : Int)) R ∧ Q R := by
  have h256 := (f_le n hn).1
  have hl := T.len
  have hX := K.1
  obtain ⟨hpop, jf, jf1, jf2⟩ := f_free n hn s (by omega) hs
  have hR : ∀ j, j < n → has s j = false → MinF c n (pop s + 1) (s + 2 ^ j) (rd X ((s + 2 ^ j : Nat) : Int)) := by
    intro j h1 h2
    have := K.2 (s + 2 ^ j) (by have : 1 ≤ 2 ^ j := Nat.one_le_two_pow; omega) (f_lt n hn s (by omega) j h1 h2)
    rwa [f_pop s (by omega) j (by omega) h2] at this
  induction d with
  | zero =>
    intro j best hj hb
    have e : j = n := by omega
    subst e
    rcases hb with ⟨_, hb⟩ | ⟨j0, a, b, e, hmin⟩
    · rw [hb jf jf1] at jf2; cases jf2
    · have hm := minF_step hn (by omega) hpop hR a b (fun q h1 h2 => by rw [← e]; exact hmin q h1 h2)
      rw [← e] at hm
      obtain ⟨R, e', q⟩ := h (X.set (s : Int).toNat best) ⟨by rw [List.length_set]; exact hX, fun t h1 h2 => by
        rw [rd_set (by omega) (by omega) (by omega)]
        by_cases et : (t : Int) = s
        · rw [if_pos et, show t = s by omega]; exact hm
        · rw [if_neg et]; exact K.2 t (by omega) h2⟩
      refine ⟨R, ev_step (fun k => by simp only [dancestudioref11_least.l3] <;> exact rfl) (ev_neg (by omega) (ev_pos (by omega) (ev_pos (by omega) ?_))), q⟩
      rw [w64 (by omega) (by omega)]
      exact e'
  | succ d ih =>
    intro j best hj hb
    by_cases hh : has s j = true
    · obtain ⟨R, e', q⟩ := ih (j + 1) best (by omega) (by
        rcases hb with ⟨b1, b2⟩ | ⟨j0, a, b, e, hmin⟩
        · exact Or.inl ⟨b1, fun q hq => by by_cases e : q = j; exact e ▸ hh; exact b2 q (by omega)⟩
        · exact Or.inr ⟨j0, by omega, b, e, fun q hq hf => hmin q (by have := ne_has hh hf; omega) hf⟩)
      refine ⟨R, ev_step (fun k => by simp only [dancestudioref11_least.l3] <;> exact rfl) (ev_pos (by omega) (ev_pos (by omega) (ev_neg (fun z => by rw [(f_and s (by omega) j (by omega)).1 z] at hh; cases hh) ?_))), q⟩
      rw [w64 (by omega) (by omega)]
      exact e'
    · have hf : has s j = false := by simpa using hh
      have row := T.row0 (i := (pop s : Int)) (by omega) (by omega)
      have hlt := f_lt n hn s (by omega) j (by omega) hf
      have hnn : (0 : Int) ≤ ((s + 2 ^ j : Nat) : Int) := Int.natCast_nonneg _
      have br := (hR j (by omega) hf).rng T
      have m0 := T.lo ((pop s : Int) + 1) ((j : Int) + 1) (by omega) (by omega) (by omega) (by omega)
      have m1 := T.hi ((pop s : Int) + 1) ((j : Int) + 1) (by omega) (by omega) (by omega) (by omega)
      obtain ⟨x, hx⟩ : ∃ x, x = M c ((pop s : Int) + 1) ((j : Int) + 1) + rd X ((s + 2 ^ j : Nat) : Int) := ⟨_, rfl⟩
      have step : ∃ R, Ev (fun k => if best < 0 then dancestudioref11_least.l3 k c n X (s : Int) (pop s : Int) x ((j + 1 : Nat) : Int) else (if x < best then dancestudioref11_least.l3 k c n X (s : Int) (pop s : Int) x ((j + 1 : Nat) : Int) else dancestudioref11_least.l3 k c n X (s : Int) (pop s : Int) best ((j + 1 : Nat) : Int))) R ∧ Q R := by
        by_cases b0 : best < 0
        · obtain ⟨R, e', q⟩ := ih (j + 1) x (by omega) (Or.inr ⟨j, by omega, hf, hx, fun q hq hfq => by
            rcases hb with ⟨b1, b2⟩ | ⟨j0, a, b, e, hmin⟩
            · by_cases e : q = j
              · subst e; omega
              · rw [b2 q (by omega)] at hfq; cases hfq
            · have r := (hR j0 (by omega) b).rng T
              have m2 := T.lo ((pop s : Int) + 1) ((j0 : Int) + 1) (by omega) (by omega) (by omega) (by omega)
              omega⟩)
          exact ⟨R, ev_pos b0 e', q⟩
        · rcases hb with ⟨b1, _⟩ | ⟨j0, a, b, e, hmin⟩
          · omega
          · by_cases hxb : x < best
            · obtain ⟨R, e', q⟩ := ih (j + 1) x (by omega) (Or.inr ⟨j, by omega, hf, hx, fun q hq hfq => by
                by_cases e : q = j
                · subst e; omega
                · have := hmin q (by omega) hfq; omega⟩)
              exact ⟨R, ev_neg b0 (ev_pos hxb e'), q⟩
            · obtain ⟨R, e', q⟩ := ih (j + 1) best (by omega) (Or.inr ⟨j0, by omega, b, e, fun q hq hfq => by
                by_cases e : q = j
                · subst e; omega
                · exact hmin q (by omega) hfq⟩)
              exact ⟨R, ev_neg b0 (ev_neg hxb e'), q⟩
      obtain ⟨R, e', q⟩ := step
      refine ⟨R, ev_step (fun k => by simp only [dancestudioref11_least.l3] <;> exact rfl) (ev_pos (by omega) (ev_pos (by omega) (ev_pos ((f_and s (by omega) j (by omega)).2 hf) (ev_pos (by omega) (ev_pos (by omega) (ev_pos (by omega) ?_)))))), q⟩
      rw [f_or s (by omega) j (by omega) hf, cell_M, w64 (n := M c _ _ + _) (by omega) (by omega), w64 (n := (j : Int) + 1) (by omega) (by omega), ← hx]
      exact ev_pos (by omega) (ev_pos (by omega) e')

theorem least_l2 (T : Tab c n) (hn : n < 9) (m : Nat) : ∀ X, m + 1 ≤ 2 ^ n → Known c n X m → ∃ R, Ev (fun k => dancestudioref11_least.l2 k c n X ((m : Int) - 1)) R ∧ Known c n R 0 := by
  have h256 := (f_le n hn).1
  induction m with
  | zero =>
    intro X _ K
    exact ⟨X, ev_step (fun k => by simp only [dancestudioref11_least.l2] <;> exact rfl) (ev_neg (by omega) (ev_now _)), K⟩
  | succ m ih =>
    intro X hm K
    obtain ⟨R, e, q⟩ := least_l3 T hn (s := m) (by omega) K (Q := fun R => Known c n R 0) (fun X' K' => ih X' (by omega) K') n 0 (-1) (by omega) (Or.inl ⟨rfl, fun q hq => by omega⟩)
    refine ⟨R, ev_step (fun k => by simp only [dancestudioref11_least.l2] <;> exact rfl) (ev_pos (by omega) ?_), q⟩
    rw [show ((m + 1 : Nat) : Int) - 1 = (m : Int) by omega]
    exact Ev.bind (size_ev (by omega)) e

theorem least_l1 (T : Tab c n) (hn : n < 9) (d : Nat) : ∀ (X : List Int), X.length + d = 2 ^ n → (∀ x ∈ X, x = 0) → ∃ R, Ev (fun k => dancestudioref11_least.l1 k c n ((2 ^ n : Nat) : Int) X (X.length : Int)) R ∧ Known c n R 0 := by
  have h256 := f_le n hn
  induction d with
  | zero =>
    intro X hX hz
    have full := f_full n hn
    have K : Known c n X (2 ^ n - 1) := by
      refine ⟨hX, fun t h1 h2 => ?_⟩
      have et : t = 2 ^ n - 1 := by omega
      rw [et, full.1, rd_nat X (by omega), hz _ (List.getElem_mem _)]
      exact bestF_full.minF
    obtain ⟨R, e, q⟩ := least_l2 T hn (2 ^ n - 1) X (by omega) K
    refine ⟨R, ev_step (fun k => by simp only [dancestudioref11_least.l1] <;> exact rfl) (ev_neg (by omega) ?_), q⟩
    rw [w64 (by omega) (by omega), show ((2 ^ n : Nat) : Int) - 2 = ((2 ^ n - 1 : Nat) : Int) - 1 by omega]
    exact e
  | succ d ih =>
    intro X hX hz
    obtain ⟨R, e, q⟩ := ih (X ++ [0]) (by rw [List.length_append]; simp only [List.length_cons, List.length_nil]; omega) (fun x hx => by
      rcases List.mem_append.1 hx with h | h
      · exact hz x h
      · exact List.mem_singleton.1 h)
    refine ⟨R, ev_step (fun k => by simp only [dancestudioref11_least.l1] <;> exact rfl) (ev_pos (by omega) (ev_pos (by omega) ?_)), q⟩
    rw [w64 (by omega) (by omega)]
    rw [List.length_append] at e
    exact e
theorem least_l0 (T : Tab c n) (hn : n < 9) (d : Nat) : ∀ i : Nat, i + d = n → ∃ R, Ev (fun k => dancestudioref11_least.l0 k c n ((2 ^ i : Nat) : Int) (i : Int)) R ∧ Known c n R 0 := by
  induction d with
  | zero =>
    intro i hi
    have e : i = n := by omega
    subst e
    obtain ⟨R, e, q⟩ := least_l1 T hn (2 ^ i) [] (by simp) (fun x hx => absurd hx (List.not_mem_nil))
    exact ⟨R, ev_step (fun k => by simp only [dancestudioref11_least.l0] <;> exact rfl) (ev_neg (by omega) e), q⟩
  | succ d ih =>
    intro i hi
    obtain ⟨R, e, q⟩ := ih (i + 1) (by omega)
    have h256 := (f_le i (by omega)).1
    have hnn : (0 : Int) ≤ ((2 ^ i : Nat) : Int) := Int.natCast_nonneg _
    refine ⟨R, ev_step (fun k => by simp only [dancestudioref11_least.l0] <;> exact rfl) (ev_pos (by omega) ?_), q⟩
    rw [w64 (by omega) (by omega), w64 (by omega) (by omega), show 2 * ((2 ^ i : Nat) : Int) = ((2 ^ (i + 1) : Nat) : Int) by rw [Nat.pow_succ]; omega]
    exact e
theorem least_ev (T : Tab c n) (hn : n < 9) : ∃ R, Ev (fun k => dancestudioref11_least.f k c) R ∧ Known c n R 0 := by
  obtain ⟨R, e, q⟩ := least_l0 T hn n 0 (by omega)
  refine ⟨R, ?_, q⟩
  simp only [dancestudioref11_least.f]
  rw [T.len]
  exact e

theorem rsolve_l1 (T : Tab c n) (hn : n < 9) {X out : List Int} (K : Known c n X 0) {s : Nat} (hs : s < 2 ^ n) (hi : pop s < n) (ho : out.length ≤ 8)
    (ih : ∀ j, j < n → has s j = false → ∃ l, BestF c n (pop s + 1) (s + 2 ^ j) l (rd X ((s + 2 ^ j : Nat) : Int)) ∧
      Ev (fun k => dancestudioref11_Solve.l0 k c X (out ++ [(j : Int)]) ((s + 2 ^ j : Nat) : Int) ((pop s : Int) + 1)) ((out ++ [(j : Int)]) ++ l, rd X 0, 0)) (d : Nat) :
    ∀ j : Nat, j + d = n → (∀ q, q < j → has s q = false → M c ((pop s : Int) + 1) ((q : Int) + 1) + rd X ((s + 2 ^ q : Nat) : Int) ≠ rd X s) →
      ∃ l, BestF c n (pop s) s l (rd X s) ∧ Ev (fun k => dancestudioref11_Solve.l1 k c X out (s : Int) (pop s : Int) (j : Int)) (out ++ l, rd X 0, 0) := by
  have h256 := (f_le n hn).1
  have hl := T.len
  have hX := K.1
  have hm := K.2 s (by omega) hs
  induction d with
  | zero =>
    intro j hj hf
    exfalso
    obtain ⟨l, a, e⟩ := hm.1
    obtain ⟨q, r, hq, hbq, rfl, h'⟩ := cpl_uncons hn hs hi a
    rw [fsum_cons hi] at e
    obtain ⟨l2, B, _⟩ := ih q hq hbq
    have x := B.min r h'
    have y := hm.2 _ (cpl_cons hn hs hi hq hbq B.cpl)
    rw [fsum_cons hi, B.cost] at y
    exact hf q (by omega) hbq (by omega)
  | succ d ih2 =>
    intro j hj hf
    by_cases hh : has s j = true
    · obtain ⟨l, B, e⟩ := ih2 (j + 1) (by omega) (fun q hq hfq => hf q (by have := ne_has hh hfq; omega) hfq)
      refine ⟨l, B, ev_step (fun k => by simp only [dancestudioref11_Solve.l1] <;> exact rfl) (ev_pos (by omega) (ev_pos (by omega) (ev_neg (fun z => by rw [(f_and s (by omega) j (by omega)).1 z] at hh; cases hh) ?_)))⟩
      rw [w64 (by omega) (by omega)]
      exact e
    · have hfj : has s j = false := by simpa using hh
      have row := T.row0 (i := (pop s : Int)) (by omega) (by omega)
      have hlt := f_lt n hn s (by omega) j (by omega) hfj
      have hnn : (0 : Int) ≤ ((s + 2 ^ j : Nat) : Int) := Int.natCast_nonneg _
      obtain ⟨l2, B2, e2⟩ := ih j (by omega) hfj
      have br := B2.minF.rng T
      have m0 := T.lo ((pop s : Int) + 1) ((j : Int) + 1) (by omega) (by omega) (by omega) (by omega)
      have m1 := T.hi ((pop s : Int) + 1) ((j : Int) + 1) (by omega) (by omega) (by omega) (by omega)
      by_cases hx : M c ((pop s : Int) + 1) ((j : Int) + 1) + rd X ((s + 2 ^ j : Nat) : Int) = rd X s
      · refine ⟨(j : Int) :: l2, bestF_cons hn hs hi (by omega) hfj hm B2 hx (fun q hq hfq m'' h'' => ?_), ?_⟩
        · obtain ⟨lq, Bq, _⟩ := ih q (by omega) hfq
          rw [h''.unique Bq.minF]
          exact hf q hq hfq
        · refine ev_step (fun k => by simp only [dancestudioref11_Solve.l1] <;> exact rfl) (ev_pos (by omega) (ev_pos (by omega) (ev_pos ((f_and s (by omega) j (by omega)).2 hfj) (ev_pos (by omega) (ev_pos (by omega) (ev_pos (by omega) ?_))))))
          rw [f_or s (by omega) j (by omega) hfj, cell_M, w64 (n := M c _ _ + _) (by omega) (by omega), w64 (by omega) (by omega)]
          refine ev_pos (by omega) (ev_pos (by omega) (ev_pos (by omega) (ev_pos (by omega) (ev_pos hx (ev_pos (by omega) ?_)))))
          refine ev_eq e2 ?_
          rw [List.append_assoc]; rfl
      · obtain ⟨l, B, e⟩ := ih2 (j + 1) (by omega) (fun q hq hfq => by
          by_cases eq : q = j
          · subst eq; exact hx
          · exact hf q (by omega) hfq)
        refine ⟨l, B, ev_step (fun k => by simp only [dancestudioref11_Solve.l1] <;> exact rfl) (ev_pos (by omega) (ev_pos (by omega) (ev_pos ((f_and s (by omega) j (by omega)).2 hfj) (ev_pos (by omega) (ev_pos (by omega) (ev_pos (by omega) ?_))))))⟩
        rw [f_or s (by omega) j (by omega) hfj, cell_M, w64 (n := M c _ _ + _) (by omega) (by omega), w64 (n := (j : Int) + 1) (by omega) (by omega)]
        exact ev_pos (by omega) (ev_pos (by omega) (ev_pos (by omega) (ev_pos (by omega) (ev_neg hx e))))

theorem rsolve_l0 (T : Tab c n) (hn : n < 9) {X : List Int} (K : Known c n X 0) (d : Nat) : ∀ (s : Nat) (out : List Int), s < 2 ^ n → pop s + d = n → out.length + d ≤ 8 →
    ∃ l, BestF c n (pop s) s l (rd X s) ∧ Ev (fun k => dancestudioref11_Solve.l0 k c X out (s : Int) (pop s : Int)) (out ++ l, rd X 0, 0) := by
  have h256 := f_le n hn
  have hl := T.len
  have hX := K.1
  induction d with
  | zero =>
    intro s out hs hd ho
    have hm := K.2 s (by omega) hs
    have e : pop s = n := by omega
    have h0 : rd X s = 0 := by rw [e] at hm; exact hm.unique bestF_full.minF
    refine ⟨[], by rw [e, h0]; exact bestF_full, ?_⟩
    rw [List.append_nil]
    exact ev_step (fun k => by simp only [dancestudioref11_Solve.l0] <;> exact rfl) (ev_neg (by omega) (ev_pos (by omega) (ev_now _)))
  | succ d ih =>
    intro s out hs hd ho
    have main := rsolve_l1 T hn (out := out) K hs (by omega) (by omega) (fun j hj hf => by
      have hp := f_pop s (by omega) j (by omega) hf
      have := ih (s + 2 ^ j) (out ++ [(j : Int)]) (f_lt n hn s hs j hj hf) (by omega) (by rw [List.length_append]; simp only [List.length_cons, List.length_nil]; omega)
      rwa [hp] at this) n 0 (by omega) (fun q hq => by omega)
    obtain ⟨l, B, e⟩ := main
    exact ⟨l, B, ev_step (fun k => by simp only [dancestudioref11_Solve.l0] <;> exact rfl) (ev_pos (by omega) e)⟩
end

theorem pop_zero : pop 0 = 0 := by decide +kernel
theorem rSolve_ev {c : List (List Int)} (h : chk c = 0) (h8 : c.length ≤ 8) {l : List Int} {m : Int} (B : Best c c.length l m) : Ev (fun k => dancestudioref11_Solve.f k c) (l, m, 0) := by
  have T := tab_of h
  obtain ⟨X, eX, K⟩ := least_ev T (by omega)
  have h256 := f_le c.length (by omega)
  obtain ⟨l2, B2, e⟩ := rsolve_l0 T (by omega) K c.length 0 [] (by omega) (by rw [pop_zero]; omega) (by simpa using h8)
  rw [pop_zero] at B2 e
  obtain ⟨rfl, rfl⟩ := B.unique (best_of (by omega) B2)
  simp only [dancestudioref11_Solve.f]
  exact Ev.bind (racheck_ev c) (ev_pos h (Ev.bind eX e))

end Go.Proofs.YtaggccbndmmbhaaDoor.PAll
