/- Join: the program's and the reference's answer joinV. -/
import Derived.Test.YtkcnfbhmjcbgoaaDoorPAllx0
import Derived.Test.YtkcnfbhmjcbgoaaDoorPAllf12
import Derived.Test.YtkcnfbhmjcbgoaaDoorPAllf13
import Derived.Test.YtkcnfbhmjcbgoaaDoorFldJoin
namespace Go.Proofs.YtkcnfbhmjcbgoaaDoor.PAll
set_option linter.unusedVariables false
open Go Go.RowKit Go.Proofs.YtkcnfbhmjcbgoaaDoorW.PrintWords Go.Proofs.YtkcnfbhmjcbgoaaDoorW.PrintLast Go.Proofs.YtkcnfbhmjcbgoaaDoorW.PrintMore Go.Proofs.YtkcnfbhmjcbgoaaDoor.MathNum Go.Proofs.YtkcnfbhmjcbgoaaDoor.EvWords

/-- Strings out of rows of bytes. -/
def mks (l : List Bs) : List ByteArray := l.map mkB
theorem mks_len (l : List Bs) : (mks l).length = l.length := by simp [mks]
theorem ex_mks (l : List ByteArray) : ∃ L, l = mks L := ⟨l.map lst, by
  unfold mks
  rw [List.map_map]
  conv => lhs; rw [← List.map_id l]
  exact List.map_congr_left fun s _ => (mk_lst s).symm⟩
theorem rd_mks {l : List Bs} {i : Nat} (h : i < l.length) : rdOf ByteArray.empty (mks l) (i : Int) = mkB l[i] := by
  rw [rdS (by rw [mks_len]; exact h)]
  simp [mks]
theorem mks_app (l : List Bs) (x : Bs) : mks l ++ [mkB x] = mks (l ++ [x]) := by simp [mks]
theorem mks_inj {l l' : List Bs} (h : mks l = mks l') : l = l' := by
  have := congrArg (List.map lst) h
  unfold mks at this
  rw [List.map_map, List.map_map] at this
  have e : (lst ∘ mkB) = id := funext fun x => rfl
  rwa [e, List.map_id, List.map_id] at this
def joinB (l : List Bs) : ByteArray × Int := (mkB (joinV l).1, (joinV l).2)
theorem joinB_err {l : List Bs} {e : Int} (h : errL l = e) (he : e ≠ 0) : joinB l = (mkB [], e) := by
  unfold joinB joinV
  rw [h, if_pos he]
theorem errL_at {l : List Bs} {i : Nat} (h : i < l.length) : errL (l.drop i) = if 256 < l[i].length then 3 else if plainL l[i] = true then errL (l.drop (i + 1)) else 2 := by
  rw [(List.getElem_cons_drop h).symm, errL]
theorem errL_drop {l : List Bs} {i : Nat} (h : i < l.length) (g : ∀ r (hr : r < l.length), r < i + 1 → goodL l[r]) : errL (l.drop i) = errL (l.drop (i + 1)) := by
  have := g i h (Nat.lt_succ_self i)
  rw [errL_at h, if_neg (by have := this.1; omega), if_pos this.2]
theorem errL_from {l : List Bs} : ∀ i, i ≤ l.length → (∀ r (hr : r < l.length), r < i → goodL l[r]) → errL l = errL (l.drop i) := by
  intro i
  induction i with
  | zero => intro _ _; rfl
  | succ i ih =>
    intro h g
    rw [ih (by omega) (fun r hr hlt => g r hr (by omega)), errL_drop (by omega) g]

section
variable {l : List Bs}
theorem all_good (g : ∀ r (hr : r < l.length), goodL l[r]) : errL l = 0 := errL_zero.2 fun x hx => by
  obtain ⟨i, hi, rfl⟩ := List.mem_iff_getElem.1 hx
  exact g i hi
/-! The program's. -/
theorem join_l1 (hl : l.length ≤ 2000) (g : ∀ r (hr : r < l.length), goodL l[r]) (d : Nat) : ∀ i : Nat, i + d = l.length → (joinL (l.take i)).length ≤ 1024 →
    Ev (fun k => field_Join.l1 k (mkB (joinL (l.take i))) (mks l) ((mks l).length : Int) (i : Int)) (joinB l) := by
  have hbig : ∀ i, i ≤ l.length → 1024 < (joinL (l.take i)).length → joinB l = (mkB [], 3) := by
    intro i hi h
    have := joinL_mono (l := l) hi (Nat.le_refl _)
    rw [List.take_length] at this
    unfold joinB joinV
    rw [if_neg (fun h => h (all_good g)), if_pos (by omega)]
  induction d with
  | zero =>
    intro i hi hb
    rw [List.take_of_length_le (by omega)] at hb ⊢
    have : joinB l = (mkB (joinL l), 0) := by
      unfold joinB joinV
      rw [if_neg (fun h => h (all_good g)), if_neg (by omega)]
    rw [this]
    exact ev_step (fun k => by simp only [field_Join.l1] <;> exact rfl) (ev_neg (by rw [mks_len]; omega) (ev_now _))
  | succ d ih =>
    intro i hi hb
    have h : i < l.length := by omega
    have hg := (g i h).1
    have hw := writtenL_len l[i]
    have hnx := joinL_take h
    refine ev_step (fun k => by simp only [field_Join.l1] <;> exact rfl) (ev_pos (by rw [mks_len]; omega) (ev_pos (by omega) (ev_pos (by rw [mks_len]; omega) ?_)))
    rw [rd_mks h, written_some (by omega)]
    by_cases h0 : (i : Int) > 0
    · rw [if_neg (by omega)] at hnx
      refine ev_pos h0 (ev_pos (by rw [size_mk]; omega) ?_)
      simp only [Option.bind_some]
      rw [show (⟨#[32]⟩ : ByteArray) = mkB [32] from rfl, mk_append, mk_append, ← hnx]
      refine ev_pos (by rw [size_mk, size_mk]; simp only [List.length_append, List.length_cons, List.length_nil]; omega) ?_
      by_cases hbig' : 1024 < (joinL (l.take (i + 1))).length
      · rw [hbig (i + 1) (by omega) hbig']
        exact ev_pos (by rw [size_mk]; omega) (ev_now _)
      · refine ev_neg (by rw [size_mk]; omega) ?_
        rw [w64 (by omega) (by omega)]
        exact ih (i + 1) (by omega) (by omega)
    · rw [if_pos (by omega), List.nil_append] at hnx
      have e0 : joinL (l.take i) = [] := by rw [show i = 0 by omega]; rfl
      refine ev_neg h0 ?_
      simp only [Option.bind_some]
      rw [e0, mk_append, List.nil_append, ← hnx]
      refine ev_pos (by rw [size_mk, size_mk, hnx]; simp only [List.length_nil]; omega) ?_
      by_cases hbig' : 1024 < (joinL (l.take (i + 1))).length
      · rw [hbig (i + 1) (by omega) hbig']
        exact ev_pos (by rw [size_mk]; omega) (ev_now _)
      · refine ev_neg (by rw [size_mk]; omega) ?_
        rw [w64 (by omega) (by omega)]
        exact ih (i + 1) (by omega) (by omega)
theorem join_l0 (hl : l.length ≤ 2000) (hs : ∀ x ∈ l, x.length < 4294967281) (d : Nat) : ∀ i : Nat, i + d = l.length → (∀ r (hr : r < l.length), r < i → goodL l[r]) →
    Ev (fun k => field_Join.l0 k (mks l) (mks l) ((mks l).length : Int) (i : Int)) (joinB l) := by
  induction d with
  | zero =>
    intro i hi g
    refine ev_step (fun k => by simp only [field_Join.l0] <;> exact rfl) (ev_neg (by rw [mks_len]; omega) ?_)
    exact join_l1 hl (fun r hr => g r hr (by omega)) l.length 0 (by omega) (by simp [joinL])
  | succ d ih =>
    intro i hi g
    have h : i < l.length := by omega
    have he := errL_from i (by omega) g
    rw [errL_at h] at he
    refine ev_step (fun k => by simp only [field_Join.l0] <;> exact rfl) (ev_pos (by rw [mks_len]; omega) (ev_pos (by omega) (ev_pos (by rw [mks_len]; omega) ?_)))
    rw [rd_mks h, size_mk]
    by_cases h1 : 256 < l[i].length
    · rw [if_pos h1] at he
      rw [joinB_err he (by omega)]
      exact ev_pos (by omega) (ev_now _)
    · rw [if_neg h1] at he
      refine ev_neg (by omega) (Ev.bind (plain_ev (hs _ (List.getElem_mem h))) ?_)
      by_cases h2 : plainL l[i] = true
      · refine ev_pos h2 ?_
        rw [w64 (by omega) (by omega)]
        exact ih (i + 1) (by omega) (fun r hr hlt => by
          by_cases e : r = i
          · subst e; exact ⟨by omega, h2⟩
          · exact g r hr (by omega))
      · rw [if_neg h2] at he
        rw [joinB_err he (by omega)]
        exact ev_neg h2 (ev_now _)
theorem join_ev (hl : l.length ≤ 2000) (hs : ∀ x ∈ l, x.length < 4294967281) : Ev (fun k => field_Join.f k (mks l)) (joinB l) := join_l0 hl hs l.length 0 (by omega) (fun r hr h => by omega)
/-! The reference's. -/
theorem rjoin_l1 (hl : l.length ≤ 2000) (g : ∀ r (hr : r < l.length), goodL l[r]) (d : Nat) : ∀ i : Nat, i + d = l.length →
    Ev (fun k => dancestudioref06_Join.l1 k (mks l) (mkB (joinL (l.take i))) (i : Int)) (joinB l) := by
  have hb := joinL_bound (l := l) (fun x hx => by
    obtain ⟨i, hi, rfl⟩ := List.mem_iff_getElem.1 hx
    exact (g i hi).1)
  induction d with
  | zero =>
    intro i hi
    rw [List.take_of_length_le (by omega)]
    refine ev_step (fun k => by simp only [dancestudioref06_Join.l1] <;> exact rfl) (ev_neg (by rw [mks_len]; omega) ?_)
    rw [size_mk]
    by_cases h : 1024 < (joinL l).length
    · have e : joinB l = (mkB [], 3) := by unfold joinB joinV; rw [if_neg (fun h => h (all_good g)), if_pos h]
      rw [e]; exact ev_pos (by omega) (ev_now _)
    · have e : joinB l = (mkB (joinL l), 0) := by unfold joinB joinV; rw [if_neg (fun h => h (all_good g)), if_neg h]
      rw [e]; exact ev_neg (by omega) (ev_now _)
  | succ d ih =>
    intro i hi
    have h : i < l.length := by omega
    have hg := (g i h).1
    have hw := writtenL_len l[i]
    have hnx := joinL_take h
    have hbi := hb i (by omega)
    refine ev_step (fun k => by simp only [dancestudioref06_Join.l1] <;> exact rfl) (ev_pos (by rw [mks_len]; omega) ?_)
    rw [rd_mks h]
    by_cases h0 : (i : Int) > 0
    · rw [if_neg (by omega)] at hnx
      refine ev_pos h0 (ev_pos (by rw [size_mk]; omega) (ev_pos (by omega) (Ev.bind (rwritten_ev (by omega)) ?_)))
      rw [show (⟨#[32]⟩ : ByteArray) = mkB [32] from rfl, mk_append, mk_append, ← hnx]
      refine ev_pos (by rw [size_mk, size_mk]; simp only [List.length_append, List.length_cons, List.length_nil]; omega) ?_
      rw [w64 (by omega) (by omega)]
      exact ih (i + 1) (by omega)
    · rw [if_pos (by omega), List.nil_append] at hnx
      have e0 : joinL (l.take i) = [] := by rw [show i = 0 by omega]; rfl
      refine ev_neg h0 (ev_pos (by omega) (Ev.bind (rwritten_ev (by omega)) ?_))
      rw [e0, mk_append, List.nil_append, ← hnx]
      refine ev_pos (by rw [size_mk, size_mk, hnx]; simp only [List.length_nil]; omega) ?_
      rw [w64 (by omega) (by omega)]
      exact ih (i + 1) (by omega)
theorem rjoin_l0 (hl : l.length ≤ 2000) (hs : ∀ x ∈ l, x.length < 4294967281) (d : Nat) : ∀ i : Nat, i + d = l.length → (∀ r (hr : r < l.length), r < i → goodL l[r]) →
    Ev (fun k => dancestudioref06_Join.l0 k (mks l) (mkB []) (i : Int)) (joinB l) := by
  induction d with
  | zero =>
    intro i hi g
    refine ev_step (fun k => by simp only [dancestudioref06_Join.l0] <;> exact rfl) (ev_neg (by rw [mks_len]; omega) ?_)
    exact rjoin_l1 hl (fun r hr => g r hr (by omega)) l.length 0 (by omega)
  | succ d ih =>
    intro i hi g
    have h : i < l.length := by omega
    have he := errL_from i (by omega) g
    rw [errL_at h] at he
    refine ev_step (fun k => by simp only [dancestudioref06_Join.l0] <;> exact rfl) (ev_pos (by rw [mks_len]; omega) (ev_pos (by omega) ?_))
    rw [rd_mks h, size_mk]
    by_cases h1 : 256 < l[i].length
    · rw [if_pos h1] at he
      rw [joinB_err he (by omega)]
      exact ev_pos (by omega) (ev_now _)
    · rw [if_neg h1] at he
      refine ev_neg (by omega) (Ev.bind (rplain_ev (hs _ (List.getElem_mem h))) ?_)
      by_cases h2 : plainL l[i] = true
      · refine ev_pos h2 ?_
        rw [w64 (by omega) (by omega)]
        exact ih (i + 1) (by omega) (fun r hr hlt => by
          by_cases e : r = i
          · subst e; exact ⟨by omega, h2⟩
          · exact g r hr (by omega))
      · rw [if_neg h2] at he
        rw [joinB_err he (by omega)]
        exact ev_neg h2 (ev_now _)
theorem rjoin_ev (hl : l.length ≤ 2000) (hs : ∀ x ∈ l, x.length < 4294967281) : Ev (fun k => dancestudioref06_Join.f k (mks l)) (joinB l) := rjoin_l0 hl hs l.length 0 (by omega) (fun r hr h => by omega)
end
theorem joinB_ok {l : List Bs} {s : Bs} : joinB l = (mkB s, 0) ↔ (∀ x ∈ l, goodL x) ∧ joinL l = s ∧ s.length ≤ 1024 := by
  unfold joinB joinV
  rw [← errL_zero]
  by_cases h : errL l = 0
  · rw [if_neg (fun e => e h)]
    by_cases h2 : 1024 < (joinL l).length
    · rw [if_pos h2]
      constructor
      · intro e; have := (Prod.mk.inj e).2; exact absurd this (by decide)
      · rintro ⟨_, rfl, h3⟩; omega
    · rw [if_neg h2]
      constructor
      · intro e; have : joinL l = s := mk_inj (Prod.mk.inj e).1; exact ⟨h, this, by rw [← this]; omega⟩
      · rintro ⟨_, rfl, _⟩; rfl
  · rw [if_pos h]
    constructor
    · intro e; exact absurd (Prod.mk.inj e).2 h
    · intro e; exact absurd e.1 h
theorem joinB_bad {l : List Bs} (h : (joinB l).2 ≠ 0) : (joinB l).1 = mkB [] := by
  unfold joinB joinV at h ⊢
  split
  · rfl
  · rename_i h1
    rw [if_neg h1] at h
    split
    · rfl
    · rename_i h2
      rw [if_neg h2] at h
      exact absurd rfl h
end Go.Proofs.YtkcnfbhmjcbgoaaDoor.PAll
