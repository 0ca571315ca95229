/- FieldNumbers, FieldDigits: plain laws. -/
import Derived.Test.YtkcnfbhmjcbgoaaDoorPAllx0
import Derived.Test.YtkcnfbhmjcbgoaaDoorPAllf8
import Derived.Test.YtkcnfbhmjcbgoaaDoorPAllf9
import Derived.Test.YtkcnfbhmjcbgoaaDoorPAllf22
import Derived.Test.YtkcnfbhmjcbgoaaDoorPAllf23
import Derived.Test.YtkcnfbhmjcbgoaaDoorFldNum
namespace Go.Proofs.YtkcnfbhmjcbgoaaDoor.PAll
set_option linter.unusedVariables false
open Go Go.RowKit Go.Proofs.YtkcnfbhmjcbgoaaDoorW.PrintWords Go.Proofs.YtkcnfbhmjcbgoaaDoorW.PrintLast Go.Proofs.YtkcnfbhmjcbgoaaDoorW.PrintMore Go.Proofs.YtkcnfbhmjcbgoaaDoor.MathNum Go.Proofs.YtkcnfbhmjcbgoaaDoor.EvWords

def numsV (out : List Int) : List Bs → List Int × Int
  | [] => (out, 0)
  | x :: r => if (numV x).2 = 0 then numsV (out ++ [(numV x).1]) r else ([], (numV x).2)
theorem numsV_len : ∀ (l : List Bs) (out : List Int), (numsV out l).1.length ≤ out.length + l.length
  | [], out => by rw [numsV]; simp
  | x :: r, out => by
    rw [numsV]
    split
    · have := numsV_len r (out ++ [(numV x).1])
      simp only [List.length_append, List.length_cons, List.length_nil] at this ⊢
      omega
    · simp
section
variable {l : List Bs}
theorem numbers_loop (hl : l.length ≤ 1000) (hs : ∀ x ∈ l, x.length ≤ 300) (d : Nat) : ∀ (i : Nat) (out : List Int), i + d = l.length → out.length ≤ i → Ev (fun k => field_Numbers.l0 k out (mks l) ((mks l).length : Int) (i : Int)) (numsV out (l.drop i)) := by
  induction d with
  | zero =>
    intro i out hi ho
    rw [List.drop_eq_nil_of_le (by omega)]
    exact ev_step (fun k => by simp only [field_Numbers.l0] <;> exact rfl) (ev_neg (by rw [mks_len]; omega) (ev_now _))
  | succ d ih =>
    intro i out hi ho
    have h : i < l.length := by omega
    rw [(List.getElem_cons_drop h).symm, numsV]
    refine ev_step (fun k => by simp only [field_Numbers.l0] <;> exact rfl) (ev_pos (by rw [mks_len]; omega) (ev_pos (by omega) (ev_pos (by rw [mks_len]; omega) ?_)))
    rw [rd_mks h]
    refine Ev.bind (number_ev (by have := hs _ (List.getElem_mem h); omega)) ?_
    by_cases h0 : (numV l[i]).2 = 0
    · rw [if_pos h0]
      refine ev_pos h0 (ev_pos (by omega) ?_)
      rw [w64 (by omega) (by omega)]
      exact ih (i + 1) _ (by omega) (by simp only [List.length_append, List.length_cons, List.length_nil]; omega)
    · rw [if_neg h0]
      exact ev_neg h0 (ev_now _)
theorem rnumbers_loop (hl : l.length ≤ 1000) (hs : ∀ x ∈ l, x.length ≤ 300) (d : Nat) : ∀ (i : Nat) (out : List Int), i + d = l.length → out.length ≤ i → Ev (fun k => dancestudioref06_Numbers.l0 k (mks l) out (i : Int)) (numsV out (l.drop i)) := by
  induction d with
  | zero =>
    intro i out hi ho
    rw [List.drop_eq_nil_of_le (by omega)]
    exact ev_step (fun k => by simp only [dancestudioref06_Numbers.l0] <;> exact rfl) (ev_neg (by rw [mks_len]; omega) (ev_now _))
  | succ d ih =>
    intro i out hi ho
    have h : i < l.length := by omega
    rw [(List.getElem_cons_drop h).symm, numsV]
    refine ev_step (fun k => by simp only [dancestudioref06_Numbers.l0] <;> exact rfl) (ev_pos (by rw [mks_len]; omega) (ev_pos (by omega) ?_))
    rw [rd_mks h]
    refine Ev.bind (rnumber_ev (by have := hs _ (List.getElem_mem h); omega)) ?_
    by_cases h0 : (numV l[i]).2 = 0
    · rw [if_pos h0]
      refine ev_pos h0 (ev_pos (by omega) ?_)
      rw [w64 (by omega) (by omega)]
      exact ih (i + 1) _ (by omega) (by simp only [List.length_append, List.length_cons, List.length_nil]; omega)
    · rw [if_neg h0]
      exact ev_neg h0 (ev_now _)
theorem law_l1 (hl : l.length ≤ 1000) (hs : ∀ x ∈ l, x.length ≤ 300) (d : Nat) : ∀ i : Nat, i + d = l.length → Ev (fun k => dancestudiolaw06_FieldNumbers.l1 k (mks l) (i : Int)) true := by
  induction d with
  | zero =>
    intro i hi
    exact ev_step (fun k => by simp only [dancestudiolaw06_FieldNumbers.l1] <;> exact rfl) (ev_neg (by rw [mks_len]; omega) (Ev.bind awake_ev (ev_now _)))
  | succ d ih =>
    intro i hi
    have h : i < l.length := by omega
    have h3 := hs _ (List.getElem_mem h)
    refine ev_step (fun k => by simp only [dancestudiolaw06_FieldNumbers.l1] <;> exact rfl) (ev_pos (by rw [mks_len]; omega) (ev_pos (by omega) ?_))
    rw [rd_mks h, w64 (by omega) (by omega)]
    exact Ev.bind (number_ev (by omega)) (Ev.bind (rnumber_ev (by omega)) (ev_pos rfl (ev_pos rfl (ih (i + 1) (by omega)))))
theorem law_l0 (hl : l.length ≤ 1000) (hs : ∀ x ∈ l, x.length ≤ 300) {a : List Int} (ha : a.length ≤ 1000) (d : Nat) : ∀ i : Nat, i + d = a.length → Ev (fun k => dancestudiolaw06_FieldNumbers.l0 k (mks l) a a (i : Int)) true := by
  induction d with
  | zero =>
    intro i hi
    exact ev_step (fun k => by simp only [dancestudiolaw06_FieldNumbers.l0] <;> exact rfl) (ev_neg (by omega) (law_l1 hl hs l.length 0 (by omega)))
  | succ d ih =>
    intro i hi
    refine ev_step (fun k => by simp only [dancestudiolaw06_FieldNumbers.l0] <;> exact rfl) (ev_pos (by omega) (ev_pos (by omega) (ev_pos (by omega) (ev_pos (show rd a (i : Int) = rd a (i : Int) from rfl) ?_))))
    rw [w64 (by omega) (by omega)]
    exact ih (i + 1) (by omega)
end
theorem pure_FieldNumbers (l : List ByteArray) (hl : l.length ≤ 8796093022208) : ∃ k, dancestudiolaw06_FieldNumbers.f k l = some true := by
  obtain ⟨L, rfl⟩ := ex_mks l
  rw [mks_len] at hl
  refine ev_some ?_
  simp only [dancestudiolaw06_FieldNumbers.f]
  obtain ⟨b, h1, h2⟩ := few_ev (l := L) (by omega)
  refine Ev.bind h1 ?_
  cases b with
  | false => exact ev_neg (by simp) (Ev.bind awake_ev (ev_now _))
  | true =>
    obtain ⟨h16, h300⟩ := h2 rfl
    refine ev_pos (show true = true from rfl) ?_
    have e1 : Ev (fun k => field_Numbers.f k (mks L)) (numsV [] L) := numbers_loop (by omega) h300 L.length 0 [] (by omega) (by simp)
    have e2 : Ev (fun k => dancestudioref06_Numbers.f k (mks L)) (numsV [] L) := rnumbers_loop (by omega) h300 L.length 0 [] (by omega) (by simp)
    have hlen := numsV_len L []
    have hx : (((numsV [] L).1.length : Int) != ((numsV [] L).1.length : Int)) = false := by simp
    refine Ev.bind e1 (Ev.bind e2 (ev_pos rfl ?_))
    rw [hx]
    exact ev_step (fun k => by simp only [dancestudiolaw06_FieldNumbers.j0] <;> exact rfl) (ev_neg (by simp) (law_l0 (by omega) h300 (by simp at hlen; omega) _ 0 (Nat.zero_add _)))
theorem pure_FieldDigits (n : Int) (hn : (Lit.int .i64 n).wf = true) (s : ByteArray) : ∃ k, dancestudiolaw06_FieldDigits.f k n s = some true := by
  obtain ⟨l, rfl⟩ := ex_mk s
  have hr : -9223372036854775808 ≤ n ∧ n ≤ 9223372036854775807 := by
    unfold Lit.wf at hn
    rw [Bool.and_eq_true, decide_eq_true_eq, decide_eq_true_eq] at hn
    have h1 : IntKind.i64.min = -9223372036854775808 := by decide
    have h2 : IntKind.i64.max = 9223372036854775807 := by decide
    rw [h1, h2] at hn
    exact hn
  refine ev_some ?_
  simp only [dancestudiolaw06_FieldDigits.f]
  by_cases h : ((mkB l).size : Int) > 300
  · exact ev_pos h (Ev.bind awake_ev (ev_now _))
  · have hl : l.length ≤ 300 := by rw [size_mk] at h; omega
    have j1 : Ev (fun k => dancestudiolaw06_FieldDigits.j1 k (mkB l)) true := by
      refine ev_step (fun k => by simp only [dancestudiolaw06_FieldDigits.j1] <;> exact rfl) (Ev.bind (number_ev (by omega)) ?_)
      by_cases h0 : (numV l).2 = 0
      · have hv : numV l = ((numV l).1, 0) := Prod.ext rfl h0
        have hp := print_numV hv
        have hb : -9223372036854775808 ≤ (numV l).1 ∧ (numV l).1 ≤ 9223372036854775807 := by
          have h5 := numV_print (numV l).1
          rw [hp, hv] at h5
          dsimp only at h5
          split at h5
          · omega
          · exact absurd (Prod.mk.inj h5).2 (by decide)
        refine ev_pos h0 (Ev.bind (print_ev _ _ (Nat.le_refl _) hb.1 hb.2) ?_)
        rw [hp]
        exact ev_pos rfl (Ev.bind awake_ev (ev_now _))
      · have hz : (numV l).1 = 0 := by
          have fin : ∀ neg d, (numD neg d).2 ≠ 0 → (numD neg d).1 = 0 := by
            intro neg d hd
            unfold numD at hd ⊢
            split
            · rfl
            · rename_i hc
              rw [if_neg hc] at hd
              cases hg : numGo 0 d with
              | none => rfl
              | some y =>
                rw [hg] at hd
                unfold numFin at hd ⊢
                dsimp only at hd ⊢
                split
                · rfl
                · rename_i hb
                  rw [if_neg hb] at hd
                  split at hd
                  · exact absurd rfl hd
                  · exact absurd rfl hd
          unfold numV at h0 ⊢
          split
          · rename_i hc
            rw [if_pos hc] at h0
            exact fin _ _ h0
          · rename_i hc
            rw [if_neg hc] at h0
            exact fin _ _ h0
        exact ev_neg h0 (ev_pos hz (Ev.bind awake_ev (ev_now _)))
    have hnum := numV_print n
    have hplen : (printV n).length ≤ 4611686018427387904 := by
      have h5 := (dec_spec n.natAbs n.natAbs (Nat.le_refl _)).2.2.2.2.1
      have h6 : n.natAbs ≤ 4611686018427387900 ∨ 4611686018427387900 < n.natAbs := by omega
      unfold printV
      rcases h6 with h6 | h6
      · split
        · simp only [List.length_cons]; omega
        · omega
      · have h7 : (dec n.natAbs).length ≤ n.natAbs / 10 + 2 := by
          rw [dec_big (by omega), List.length_append]
          have := (dec_spec (n.natAbs / 10) (n.natAbs / 10) (Nat.le_refl _)).2.2.2.2.1
          simp only [List.length_cons, List.length_nil]
          omega
        split
        · simp only [List.length_cons]; omega
        · omega
    refine ev_neg h (Ev.bind (print_ev _ n (Nat.le_refl _) hr.1 hr.2) (Ev.bind (number_ev hplen) ?_))
    rw [hnum]
    by_cases h1 : n < -1125899906842624
    · refine ev_pos h1 ?_
      rw [if_neg (by omega)]
      exact ev_step (fun k => by simp only [dancestudiolaw06_FieldDigits.j0] <;> exact rfl) (ev_pos (show true = true from rfl) (ev_pos (show (0 : Int) = 0 from rfl) (ev_pos (show (1 : Int) = 1 from rfl) j1)))
    · refine ev_neg h1 ?_
      by_cases h2 : n > 1125899906842624
      · rw [decide_eq_true h2, if_neg (by omega)]
        exact ev_step (fun k => by simp only [dancestudiolaw06_FieldDigits.j0] <;> exact rfl) (ev_pos (show true = true from rfl) (ev_pos (show (0 : Int) = 0 from rfl) (ev_pos (show (1 : Int) = 1 from rfl) j1)))
      · rw [decide_eq_false h2, if_pos (by omega)]
        exact ev_step (fun k => by simp only [dancestudiolaw06_FieldDigits.j0] <;> exact rfl) (ev_neg (by simp) (ev_pos (show n = n from rfl) (ev_pos (show (0 : Int) = 0 from rfl) j1)))
end Go.Proofs.YtkcnfbhmjcbgoaaDoor.PAll
