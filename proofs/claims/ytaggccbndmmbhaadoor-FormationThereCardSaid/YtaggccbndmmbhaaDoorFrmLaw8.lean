/- FormationThere: plain law. -/
import Derived.Test.YtaggccbndmmbhaaDoorBase
import Derived.Test.YtaggccbndmmbhaaDoorPAllf10
import Derived.Test.YtaggccbndmmbhaaDoorFrmSwap
import Derived.Test.YtaggccbndmmbhaaDoorFrmWays
import Derived.Test.YtaggccbndmmbhaaDoorChk
namespace Go.Proofs.YtaggccbndmmbhaaDoor.PAll
set_option linter.unusedVariables false
open Go Go.RowKit Go.Proofs.YtaggccbndmmbhaaDoorW.PrintWords Go.Proofs.YtaggccbndmmbhaaDoorW.PrintLast Go.Proofs.YtaggccbndmmbhaaDoorW.PrintMore Go.Proofs.YtaggccbndmmbhaaDoor.MathNum Go.Proofs.YtaggccbndmmbhaaDoor.EvWords
theorem sq_zero {a b : Int} (h : a * a + b * b ≤ 0) : a = 0 ∧ b = 0 := by
  have s : ∀ x : Int, 0 ≤ x * x := fun x => by
    rcases Int.le_total 0 x with h | h
    · exact Int.mul_nonneg h h
    · exact Int.mul_nonneg_of_nonpos_of_nonpos h h
  have h1 := s a
  have h2 := s b
  exact ⟨by rcases Int.mul_eq_zero.1 (show a * a = 0 by omega) with h | h <;> exact h, by rcases Int.mul_eq_zero.1 (show b * b = 0 by omega) with h | h <;> exact h⟩
theorem d2_zero {a b : S52} (h : d2 a b ≤ 0) : a = b := by
  obtain ⟨x, y⟩ := a
  obtain ⟨x', y'⟩ := b
  have := sq_zero h
  simp only at this
  rw [show x = x' by omega, show y = y' by omega]
theorem d2_self (a : S52) : d2 a a = 0 := by unfold d2; simp
/-- The places, in another order. -/
def Mixed (p y : List S52) (t : List Int) : Prop := y.length = p.length ∧ Asg t p.length ∧ ∀ i : Int, 0 ≤ i → i < p.length → rd_T52 y i = rd_T52 p (rd t i)
theorem mixed_id (p : List S52) : Mixed p p ((List.range p.length).map fun i : Nat => (i : Int)) := by
  have e : ∀ i : Int, 0 ≤ i → i < p.length → rd ((List.range p.length).map fun i : Nat => (i : Int)) i = i := fun i h0 h1 => by
    obtain ⟨m, rfl⟩ : ∃ m : Nat, i = m := ⟨i.toNat, by omega⟩
    exact rd_ofFn (by omega)
  refine ⟨rfl, ⟨by simp, fun i h0 h1 => ?_⟩, fun i h0 h1 => by rw [e i h0 h1]⟩
  rw [e i h0 h1]
  exact ⟨h0, h1, fun q q0 q1 h => by rw [e q q0 (by omega)] at h; omega⟩
theorem mixed_sw {p y : List S52} {t : List Int} (h : Mixed p y t) {a b : Int} (ha : 0 ≤ a ∧ a < p.length) (hb : 0 ≤ b ∧ b < p.length) : Mixed p ((y.set a.toNat (rd_T52 y b)).set b.toNat (rd_T52 y a)) ((t.set a.toNat (rd t b)).set b.toNat (rd t a)) := by
  obtain ⟨h1, h2, h3⟩ := h
  have hl := h2.1
  refine ⟨by rw [List.length_set, List.length_set]; exact h1, asg_sw h2 (by rw [List.length_set, List.length_set]; exact hl) ha hb (fun j j0 j1 => rd_swap (by omega) (by omega) j0), fun i i0 i1 => ?_⟩
  have s := sw_range ha hb ⟨i0, i1⟩
  rw [rdT_swap (by omega) (by omega) i0, rd_swap (by omega) (by omega) i0, h3 _ s.1 s.2]
theorem rd_inR {p : List S52} (hp : ∀ a ∈ p, inR a) {i : Int} (h0 : 0 ≤ i) (h1 : i < p.length) : inR (rd_T52 p i) := hp _ (rdT_mem h0 h1)
theorem mixed_in {p y : List S52} {t : List Int} (h : Mixed p y t) (hp : ∀ a ∈ p, inR a) : ∀ a ∈ y, inR a := by
  intro a ha
  obtain ⟨j, hj, rfl⟩ := List.getElem_of_mem ha
  have l := h.1
  have r := h.2.1.2 (j : Int) (by omega) (by omega)
  rw [← rdT y hj, h.2.2 (j : Int) (by omega) (by omega)]
  exact rd_inR hp r.1 r.2.1
/-- The least sum is 0: each stays. -/
theorem stay {p y : List S52} {t s : List Int} {m : Int} (hp : p.length ≤ 16) (rp : ∀ a ∈ p, inR a) (h : Mixed p y t) (B : Best (tbl y p) p.length s m) : m = 0 ∧ ∀ i : Nat, i < p.length → rd_T52 p (rd s (i : Int)) = rd_T52 y (i : Int) := by
  have T := tab_of (tbl_chk h.1 hp rp (mixed_in h rp))
  rw [tbl_len, h.1] at T
  have l := h.1
  have zero : ∀ i : Nat, i ≤ p.length → csum (tbl y p) t i = 0 := by
    intro i
    induction i with
    | zero => intro _; rfl
    | succ i ih =>
      intro hi
      have r := h.2.1.2 (i : Int) (by omega) (by omega)
      show csum (tbl y p) t i + M (tbl y p) ((i : Int) + 1) (rd t (i : Int) + 1) = 0
      rw [ih (by omega), M_tbl (by omega) (by omega) r.1 r.2.1, h.2.2 (i : Int) (by omega) (by omega), d2_self]; rfl
  have lo := B.min t h.2.1
  rw [zero _ (Nat.le_refl _)] at lo
  have pos := csum_bound T p.length (by omega) B.asg.2
  have hm : m = 0 := by have := B.cost; omega
  refine ⟨hm, ?_⟩
  have all : ∀ d i : Nat, i + d = p.length → csum (tbl y p) s i = 0 := by
    intro d
    induction d with
    | zero =>
      intro i hi
      obtain rfl : i = p.length := by omega
      rw [B.cost, hm]
    | succ d ih =>
      intro i hi
      have e := ih (i + 1) (by omega)
      have r := B.asg.2 (i : Int) (by omega) (by omega)
      have c := csum_bound T i (by omega) (B.asg.2.mono (by omega))
      have q := T.lo ((i : Int) + 1) (rd s (i : Int) + 1) (by omega) (by omega) (by omega) (by omega)
      have e2 : csum (tbl y p) s (i + 1) = csum (tbl y p) s i + M (tbl y p) ((i : Int) + 1) (rd s (i : Int) + 1) := rfl
      omega
  intro i hi
  have r := B.asg.2 (i : Int) (by omega) (by omega)
  have a := all (p.length - i) i (by omega)
  have b := all (p.length - (i + 1)) (i + 1) (by omega)
  have e2 : csum (tbl y p) s (i + 1) = csum (tbl y p) s i + M (tbl y p) ((i : Int) + 1) (rd s (i : Int) + 1) := rfl
  rw [M_tbl (by omega) (by omega) r.1 r.2.1] at e2
  exact (d2_zero (show d2 (rd_T52 y (i : Int)) (rd_T52 p (rd s (i : Int))) ≤ 0 by omega)).symm
theorem rd_ways (q p : List S52) (s : List Int) (x : Int) (n i : Nat) (h : i < n) : rd_T55 (waysN q p s x n) (i : Int) = wayAt q p s x i := by
  unfold rd_T55 waysN
  rw [List.getD_eq_getElem?_getD, Int.toNat_natCast, List.getElem?_map, List.getElem?_range h]; rfl
theorem there_l1 {S : ByteArray} {p y : List S52} {s : List Int} (hp : p.length ≤ 16) (hy : y.length = p.length) (ha : Asg s p.length) (st : ∀ i : Nat, i < p.length → rd_T52 p (rd s (i : Int)) = rd_T52 y (i : Int)) (d : Nat) : ∀ i : Nat, i + d = p.length →
    Ev (fun k => dancestudiolaw45_FormationThere.l1 k y s (waysN y p s 0 p.length) (i : Int) S p) true := by
  have hl := ha.1
  induction d with
  | zero =>
    intro i hi
    exact ev_step (fun k => by simp only [dancestudiolaw45_FormationThere.l1] <;> exact rfl) (ev_neg (by omega) awake_out)
  | succ d ih =>
    intro i hi
    obtain ⟨r1, r2, _⟩ := ha.2 (i : Int) (by omega) (by omega)
    have e := st i (by omega)
    refine ev_step (fun k => by simp only [dancestudiolaw45_FormationThere.l1] <;> exact rfl) (ev_pos (by omega) (ev_pos (by omega) (ev_neg (by omega) (ev_neg (by omega) (ev_pos r1 (ev_pos r2 (ev_pos (by omega) ?_)))))))
    rw [rd_ways y p s 0 p.length i (by omega), e]
    refine ev_neg (by simp) (ev_pos (by rw [waysN_len]; omega) (ev_neg (by simp [wayAt]) (ev_neg (by simp [wayAt, e]) ?_)))
    rw [w64 (by omega) (by omega)]
    exact ih (i + 1) (by omega)
theorem there_j2 {l : Bs} {p y : List S52} {t : List Int} (hc : chkF l p = 0) (h : Mixed p y t) : Ev (fun k => dancestudiolaw45_FormationThere.j2 k y (mkB l) p) true := by
  obtain ⟨k1, k2, k3, _⟩ := chkF_ok hc
  have hy := h.1
  obtain ⟨R, hR, e⟩ := fit_ev l p y (by unfold maxLen; omega)
  have w := ways_ev 0 hR e
  refine ev_step (fun k => by simp only [dancestudiolaw45_FormationThere.j2] <;> exact rfl) (Ev.bind e (Ev.bind w ?_))
  rcases hR with ⟨a, e⟩ | ⟨a, b, e⟩ | ⟨a, b, c, e⟩ | ⟨a, b, c, e, B⟩
  · exact absurd hc a
  · exact absurd hy b
  · exact absurd (mixed_in h (all_mem.1 k3)) c
  · obtain ⟨hm, st⟩ := stay k2 (all_mem.1 k3) h B
    have ew : waysV p y 0 R = (waysN y p R.1 0 p.length, 0) := by unfold waysV; rw [if_pos e, if_neg (by omega)]
    rw [ew]
    have hl := B.asg.1
    refine ev_pos e (ev_pos rfl (ev_pos hm (ev_pos (by omega) ?_)))
    have e1 : (((waysN y p R.1 0 p.length).length : Int) != (y.length : Int)) = false := by rw [waysN_len, hy]; simp
    simp only [e1]
    exact ev_step (fun k => by simp only [dancestudiolaw45_FormationThere.j3] <;> exact rfl) (ev_neg (by simp) (there_l1 k2 hy B.asg st p.length 0 (by omega)))
theorem there_l0 {l : Bs} {p : List S52} {ord : List Int} (hc : chkF l p = 0) (ho : ∀ z ∈ ord, (Lit.int .u8 z).wf = true) (d : Nat) : ∀ (i : Nat) (y : List S52) (t : List Int), i + d = 40 → Mixed p y t → Ev (fun k => dancestudiolaw45_FormationThere.l0 k ord y (i : Int) (mkB l) p) true := by
  obtain ⟨k1, k2, k3, _⟩ := chkF_ok hc
  induction d with
  | zero =>
    intro i y t hi h
    refine ev_step (fun k => by simp only [dancestudiolaw45_FormationThere.l0] <;> exact rfl) ?_
    by_cases c : (i : Int) < ord.length
    · exact ev_pos c (ev_neg (by omega) (there_j2 hc h))
    · exact ev_neg c (there_j2 hc h)
  | succ d ih =>
    intro i y t hi h
    have hl := h.1
    refine ev_step (fun k => by simp only [dancestudiolaw45_FormationThere.l0] <;> exact rfl) ?_
    by_cases c : (i : Int) < ord.length
    · have hb := rd_byte ho (i : Int)
      have t1 := tmod_range (z := (i : Int)) (n := (y.length : Int)) (by omega) (by omega)
      have t2 := tmod_range (z := wrap64 (rd ord (i : Int))) (n := (y.length : Int)) (by rw [w64 (by omega) (by omega)]; omega) (by omega)
      refine ev_pos c (ev_pos (by omega) (ev_neg (by omega) (ev_pos (by omega) (ev_pos t2.1 (ev_pos t2.2 (ev_pos t1.1 (ev_pos t1.2 ?_)))))))
      rw [w64 (n := (i : Int) + 1) (by omega) (by omega)]
      have z := ih (i + 1) _ _ (by omega) (mixed_sw h (a := Int.tmod (i : Int) y.length) (b := Int.tmod (wrap64 (rd ord (i : Int))) y.length) (by omega) (by omega))
      exact z
    · exact ev_neg c (there_j2 hc h)
theorem pure_FormationThere (s : ByteArray) (p : List S52) (ord : List Int) (_ : ord.length ≤ maxLen) (ho : ∀ z ∈ ord, (Lit.int .u8 z).wf = true) : ∃ k, dancestudiolaw45_FormationThere.f k s p ord = some true := by
  refine ev_some (g := fun k => dancestudiolaw45_FormationThere.f k s p ord) ?_
  obtain ⟨l, rfl⟩ := ex_mk s
  have out : Ev (fun k => dancestudiolaw45_FormationThere.j0 k ord true (mkB l) p) true :=
    ev_step (fun k => by simp only [dancestudiolaw45_FormationThere.j0] <;> exact rfl) (ev_pos (c := true = true) rfl awake_out)
  unfold dancestudiolaw45_FormationThere.f
  by_cases h1 : (p.length : Int) > 16
  · exact ev_pos h1 out
  refine ev_neg h1 ?_
  by_cases h3 : ((mkB l).size : Int) > 60
  · exact ev_pos h3 out
  refine ev_neg h3 (Ev.bind (check_ev l p) ?_)
  by_cases hc : chkF l p = 0
  · refine ev_pos hc ?_
    have k1 := (chkF_ok hc).1
    have e0 : ((p.length : Int) == 0) = false := by rw [beq_eq_false_iff_ne]; omega
    rw [e0]
    refine ev_step (fun k => by simp only [dancestudiolaw45_FormationThere.j0] <;> exact rfl) (ev_neg (by simp) ?_)
    simp only [Option.bind_some, List.nil_append, List.length_nil]
    exact ev_pos (by omega) (there_l0 hc ho 40 0 p _ (by omega) (mixed_id p))
  · exact ev_neg hc out
end Go.Proofs.YtaggccbndmmbhaaDoor.PAll
