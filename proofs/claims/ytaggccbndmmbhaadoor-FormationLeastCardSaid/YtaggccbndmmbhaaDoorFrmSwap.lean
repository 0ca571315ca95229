/- Entries of the table; two entries of an assignment exchanged. -/
import Derived.Test.YtaggccbndmmbhaaDoorBase
import Derived.Test.YtaggccbndmmbhaaDoorFit
namespace Go.Proofs.YtaggccbndmmbhaaDoor.PAll
set_option linter.unusedVariables false
open Go Go.RowKit Go.Proofs.YtaggccbndmmbhaaDoorW.PrintWords Go.Proofs.YtaggccbndmmbhaaDoorW.PrintLast Go.Proofs.YtaggccbndmmbhaaDoorW.PrintMore Go.Proofs.YtaggccbndmmbhaaDoor.MathNum Go.Proofs.YtaggccbndmmbhaaDoor.EvWords
theorem rdT_mem {p : List S52} {i : Int} (h0 : 0 ≤ i) (h1 : i < p.length) : rd_T52 p i ∈ p := by
  obtain ⟨m, rfl⟩ : ∃ m : Nat, i = m := ⟨i.toNat, by omega⟩
  rw [rdT p (by omega)]
  exact List.getElem_mem _
theorem M_tbl {q p : List S52} {i j : Int} (h0 : 0 ≤ i) (h1 : i < q.length) (j0 : 0 ≤ j) (j1 : j < p.length) : M (tbl q p) (i + 1) (j + 1) = d2 (rd_T52 q i) (rd_T52 p j) := by
  obtain ⟨a, rfl⟩ : ∃ m : Nat, i = m := ⟨i.toNat, by omega⟩
  obtain ⟨b, rfl⟩ : ∃ m : Nat, j = m := ⟨j.toNat, by omega⟩
  rw [← cell_M, rdL_nat _ (by rw [tbl_len]; omega)]
  unfold tbl
  rw [List.getElem_map, rd_nat _ (by rw [List.length_map]; omega), List.getElem_map, rdT q (by omega), rdT p (by omega)]
def sw (a b j : Int) : Int := if j = b then a else if j = a then b else j
theorem sw_range {a b j n : Int} (ha : 0 ≤ a ∧ a < n) (hb : 0 ≤ b ∧ b < n) (hj : 0 ≤ j ∧ j < n) : 0 ≤ sw a b j ∧ sw a b j < n := by
  unfold sw; split
  · exact ha
  · split
    · exact hb
    · exact hj
theorem sw_inj {a b i j : Int} (h : sw a b i = sw a b j) : i = j := by
  unfold sw at h
  split at h <;> split at h <;> (try split at h) <;> (try split at h) <;> omega
theorem Asg.ne {l : List Int} {n : Int} (h : Asg l n) {i j : Int} (hi : 0 ≤ i ∧ i < n) (hj : 0 ≤ j ∧ j < n) (e : rd l i = rd l j) : i = j := by
  rcases Int.lt_trichotomy i j with c | c | c
  · exact absurd e ((h.2 j hj.1 hj.2).2.2 i hi.1 c)
  · exact c
  · exact absurd e.symm ((h.2 i hi.1 hi.2).2.2 j hj.1 c)
theorem asg_sw {x y : List Int} {n a b : Int} (hx : Asg x n) (hl : (y.length : Int) = n) (ha : 0 ≤ a ∧ a < n) (hb : 0 ≤ b ∧ b < n) (h : ∀ j, 0 ≤ j → j < n → rd y j = rd x (sw a b j)) : Asg y n := by
  refine ⟨hl, fun p h0 h1 => ?_⟩
  have s := sw_range ha hb ⟨h0, h1⟩
  have r := hx.2 _ s.1 s.2
  rw [h p h0 h1]
  refine ⟨r.1, r.2.1, fun q q0 q1 e => ?_⟩
  rw [h q q0 (by omega)] at e
  have := sw_inj (hx.ne (sw_range ha hb ⟨q0, by omega⟩) s e)
  omega
theorem rd_swap {x : List Int} {a b j : Int} (ha : 0 ≤ a ∧ a < x.length) (hb : 0 ≤ b ∧ b < x.length) (hj : 0 ≤ j) : rd ((x.set a.toNat (rd x b)).set b.toNat (rd x a)) j = rd x (sw a b j) := by
  rw [rd_set hb.1 (by rw [List.length_set]; exact hb.2) hj, rd_set ha.1 ha.2 hj]
  unfold sw
  split
  · rfl
  · split <;> rfl
theorem rdT_set {l : List S52} {i j : Int} {v : S52} (h0 : 0 ≤ i) (h1 : i < l.length) (hj : 0 ≤ j) : rd_T52 (l.set i.toNat v) j = if j = i then v else rd_T52 l j := by
  unfold rd_T52
  rw [List.getD_eq_getElem?_getD, List.getElem?_set, List.getD_eq_getElem?_getD]
  by_cases h : j = i
  · subst h
    rw [if_pos rfl, if_pos rfl, if_pos (by omega)]; rfl
  · rw [if_neg (by omega), if_neg h]
theorem rdT_swap {x : List S52} {a b j : Int} (ha : 0 ≤ a ∧ a < x.length) (hb : 0 ≤ b ∧ b < x.length) (hj : 0 ≤ j) : rd_T52 ((x.set a.toNat (rd_T52 x b)).set b.toNat (rd_T52 x a)) j = rd_T52 x (sw a b j) := by
  rw [rdT_set hb.1 (by rw [List.length_set]; exact hb.2) hj, rdT_set ha.1 ha.2 hj]
  unfold sw
  split
  · rfl
  · split <;> rfl
/-- A byte. -/
theorem u8_of {z : Int} (h : (Lit.int .u8 z).wf = true) : 0 ≤ z ∧ z ≤ 255 := by
  have e0 : IntKind.u8.min = 0 := by decide
  have e1 : IntKind.u8.max = 255 := by decide
  have := h
  simp only [Lit.wf, Bool.and_eq_true, decide_eq_true_eq] at this
  omega
theorem rd_byte {x : List Int} (hx : ∀ z ∈ x, (Lit.int .u8 z).wf = true) (i : Int) : 0 ≤ rd x i ∧ rd x i ≤ 255 := by
  unfold rd
  rw [List.getD_eq_getElem?_getD]
  cases h : x[i.toNat]? with
  | none => exact ⟨Int.le_refl _, by decide⟩
  | some v => exact u8_of (hx v (List.mem_of_getElem? h))
theorem tmod_range {z n : Int} (h0 : 0 ≤ z) (hn : 0 < n) : 0 ≤ Int.tmod z n ∧ Int.tmod z n < n := ⟨Int.tmod_nonneg n h0, Int.tmod_lt_of_pos z hn⟩
end Go.Proofs.YtaggccbndmmbhaaDoor.PAll
