/- Names, lists, Check of tasks: what the program answers. -/
import Derived.Test.YtjppjppapdflmaaRPg
import Derived.Test.YtjppjppapdflmaaPAllx0
import Derived.Test.YtjppjppapdflmaaRWd
import Derived.Lib.IndexMore
namespace Go.Proofs.Ytjppjppapdflmaa.PAll
set_option linter.unusedVariables false
set_option linter.unusedSectionVars false
set_option linter.unusedSimpArgs false
open Go Go.RowKit Go.Proofs.YtjppjppapdflmaaW.PrintWords Go.Proofs.YtjppjppapdflmaaW.PrintLast Go.Proofs.YtjppjppapdflmaaW.PrintMore Go.Proofs.Ytjppjppapdflmaa.MathNum Go.Proofs.Ytjppjppapdflmaa.EvWords

abbrev Bs := List UInt8
def mkB (l : Bs) : ByteArray := ⟨l.toArray⟩
theorem ex_mk (s : ByteArray) : ∃ l, s = mkB l := ⟨s.data.toList, by obtain ⟨⟨l⟩⟩ := s; rfl⟩
theorem size_mk (l : Bs) : (mkB l).size = l.length := rfl
theorem toList_mk (l : Bs) : (mkB l).toList = l := ByteArray.toList_eq _
theorem mk_extract (l : Bs) (a b : Nat) : (mkB l).extract a b = mkB ((l.drop a).take (b - a)) := by
  rw [Lib.extract_eq]; rfl
theorem bt_mk {l : Bs} {i : Nat} (h : i < l.length) : bt (mkB l) (i : Int) = (l[i].toNat : Int) := by
  unfold bt
  rw [dif_pos (by rw [Int.toNat_natCast, size_mk]; exact h)]
  rfl
def okc (c : Int) : Prop := (97 ≤ c ∧ c ≤ 122) ∨ (48 ≤ c ∧ c ≤ 57) ∨ c = 45
theorem small_ev (c : Int) : ident_small.f c = some (decide (97 ≤ c ∧ c ≤ 122)) := by
  unfold ident_small.f; by_cases h : 97 ≤ c <;> simp [h]
theorem digit_ev (c : Int) : ident_digit.f c = some (decide (48 ≤ c ∧ c ≤ 57)) := by
  unfold ident_digit.f; by_cases h : 48 ≤ c <;> simp [h]
section
variable (l : Bs)
theorem name_l0 (hs : l.length ≤ 24) (d : Nat) : ∀ i : Nat, i + d = l.length → ∃ b : Bool, (b = true ↔ ∀ j : Nat, i ≤ j → j < l.length → okc (bt (mkB l) j)) ∧ Ev (fun k => ident_Valid.l0 k (mkB l) (l.length : Int) (i : Int)) b := by
  induction d with
  | zero =>
    intro i hi
    exact ⟨true, ⟨fun _ j h1 h2 => by omega, fun _ => rfl⟩, ev_step (fun k => by simp only [ident_Valid.l0] <;> exact rfl) (ev_neg (by omega) (ev_now _))⟩
  | succ d ih =>
    intro i hi
    obtain ⟨b, hb, eb⟩ := ih (i + 1) (by omega)
    have next : okc (bt (mkB l) i) → (b = true ↔ ∀ j : Nat, i ≤ j → j < l.length → okc (bt (mkB l) j)) := fun h => by
      rw [hb]
      exact ⟨fun q j h1 h2 => by by_cases e : j = i; exact e ▸ h; exact q j (by omega) h2, fun q j h1 h2 => q j (by omega) h2⟩
    have go : Ev (fun k => ident_Valid.l0 k (mkB l) (l.length : Int) (wrap64 ((i : Int) + 1))) b := by
      rw [w64 (by omega) (by omega)]; exact eb
    by_cases h1 : 97 ≤ bt (mkB l) i ∧ bt (mkB l) i ≤ 122
    · refine ⟨b, next (Or.inl h1), ev_step (fun k => by simp only [ident_Valid.l0] <;> exact rfl) (ev_pos (by omega) (ev_pos (by omega) (ev_pos (by rw [size_mk]; omega) ?_)))⟩
      simp only [small_ev, Option.bind_some]
      exact ev_pos (by simpa using h1) go
    · by_cases h2 : 48 ≤ bt (mkB l) i ∧ bt (mkB l) i ≤ 57
      · refine ⟨b, next (Or.inr (Or.inl h2)), ev_step (fun k => by simp only [ident_Valid.l0] <;> exact rfl) (ev_pos (by omega) (ev_pos (by omega) (ev_pos (by rw [size_mk]; omega) ?_)))⟩
        simp only [small_ev, digit_ev, Option.bind_some]
        exact ev_neg (by simpa using h1) (ev_pos (by simpa using h2) go)
      · by_cases h3 : bt (mkB l) i = 45
        · refine ⟨b, next (Or.inr (Or.inr h3)), ev_step (fun k => by simp only [ident_Valid.l0] <;> exact rfl) (ev_pos (by omega) (ev_pos (by omega) (ev_pos (by rw [size_mk]; omega) ?_)))⟩
          simp only [small_ev, digit_ev, Option.bind_some]
          exact ev_neg (by simpa using h1) (ev_neg (by simpa using h2) (ev_pos h3 go))
        · refine ⟨false, ⟨fun h => by (cases h), fun h => absurd (h i (Nat.le_refl _) (by omega)) (by unfold okc; omega)⟩, ev_step (fun k => by simp only [ident_Valid.l0] <;> exact rfl) (ev_pos (by omega) (ev_pos (by omega) (ev_pos (by rw [size_mk]; omega) ?_)))⟩
          simp only [small_ev, digit_ev, Option.bind_some]
          exact ev_neg (by simpa using h1) (ev_neg (by simpa using h2) (ev_neg h3 (ev_now _)))
def okr (i : Nat) : Prop := okc (bt (mkB l) i) ∧ (bt (mkB l) i = 45 → i + 1 < l.length ∧ bt (mkB l) (i + 1 : Nat) ≠ 45)
/-- A name. -/
def nameOk : Prop := 1 ≤ l.length ∧ l.length ≤ 24 ∧ (97 ≤ bt (mkB l) (0 : Nat) ∧ bt (mkB l) (0 : Nat) ≤ 122) ∧ ∀ j : Nat, j < l.length → okr l j
theorem u8_45 (c : UInt8) : (c.toNat : Int) = 45 ↔ c = 45 := ⟨fun h => UInt8.toNat_inj.1 (by have : (45 : UInt8).toNat = 45 := rfl; omega), fun h => by subst h; rfl⟩
theorem twice45 : Lib.contains l [45, 45] = true ↔ ∃ i : Nat, i + 1 < l.length ∧ bt (mkB l) i = 45 ∧ bt (mkB l) (i + 1 : Nat) = 45 := by
  have occ : ∀ i : Nat, Lib.occAt l [45, 45] i = true ↔ (i + 1 < l.length ∧ bt (mkB l) i = 45 ∧ bt (mkB l) (i + 1 : Nat) = 45) := by
    intro i
    unfold Lib.occAt
    by_cases h : i + 1 < l.length
    · rw [← List.getElem_cons_drop (show i < l.length by omega), ← List.getElem_cons_drop h, bt_mk (show i < l.length by omega), bt_mk h, u8_45, u8_45]
      simp only [List.isPrefixOf, Bool.and_true, Bool.and_eq_true, beq_iff_eq, h, true_and]
      exact ⟨fun q => ⟨q.1.symm, q.2.symm⟩, fun q => ⟨q.1.symm, q.2.symm⟩⟩
    · refine ⟨fun q => ?_, fun q => absurd q.1 h⟩
      have := (List.isPrefixOf_iff_prefix.1 q).length_le
      simp at this
      omega
  unfold Lib.contains
  rw [decide_eq_true_iff]
  rcases Lib.index_spec l [45, 45] with ⟨e, h⟩ | ⟨i, e, hi, h, _⟩
  · rw [e]
    refine ⟨fun q => by omega, fun ⟨i, q⟩ => ?_⟩
    have := h i (by omega)
    rw [(occ i).2 q] at this; cases this
  · rw [e]
    exact ⟨fun _ => ⟨i, (occ i).1 h⟩, fun _ => by omega⟩
theorem suffix_ev (h1 : 1 ≤ l.length) (h2 : l.length ≤ 24) : strings_HasSuffix.f (mkB l) ⟨#[45]⟩ = some (decide (bt (mkB l) (l.length - 1 : Nat) = 45)) := by
  unfold strings_HasSuffix.f stringslite_HasSuffix.f
  have e1 : ((⟨#[45]⟩ : ByteArray).size : Int) = 1 := rfl
  rw [e1, size_mk, w64 (by omega) (by omega), if_pos (by omega), if_pos (by omega), if_pos (by omega)]
  simp only [Option.bind_some]
  have e2 : ((l.length : Int) - 1).toNat = l.length - 1 := by omega
  have e3 : (⟨#[45]⟩ : ByteArray).toList = [45] := ByteArray.toList_eq _
  rw [e2, mk_extract, toList_mk, e3, bt_mk (by omega), ← List.getElem_cons_drop (show l.length - 1 < l.length by omega), show l.length - (l.length - 1) = 1 by omega]
  congr 1
  have := u8_45 l[l.length - 1]
  simp only [List.take_succ_cons, List.take_zero]
  rw [Bool.eq_iff_iff]
  simp [this]
theorem name_ev : ∃ b : Bool, (b = true ↔ nameOk l) ∧ Ev (fun k => ident_Valid.f k (mkB l)) b := by
  have bad : Ev (fun k => ident_Valid.j0 k (mkB l) true) false := ev_step (fun k => by simp only [ident_Valid.j0] <;> exact rfl) (ev_pos (c := true = true) rfl (ev_now _))
  unfold ident_Valid.f
  by_cases h1 : l = []
  · exact ⟨false, ⟨fun h => by (cases h), fun h => by (unfold nameOk at h; subst h1; simp at h)⟩, ev_pos (by rw [toList_mk]; exact h1) bad⟩
  have h1' : 1 ≤ l.length := by cases l with | nil => exact absurd rfl h1 | cons a t => simp
  by_cases h2 : l.length > 24
  · exact ⟨false, ⟨fun h => by (cases h), fun h => by (unfold nameOk at h; omega)⟩, ev_neg (by rw [toList_mk]; exact h1) (ev_pos (by rw [size_mk]; omega) bad)⟩
  have pre : ∀ {b : Bool}, Ev (fun k => (ident_small.f (bt (mkB l) 0)).bind fun t102 => (if t102 = true then ((strings_HasSuffix.f (mkB l) (⟨#[45]⟩ : ByteArray)).bind fun t103 => (if t103 = true then (ident_Valid.j0 k (mkB l) true) else ((strings_Contains.f (mkB l) (⟨#[45, 45]⟩ : ByteArray)).bind fun t104 => (ident_Valid.j0 k (mkB l) t104)))) else (ident_Valid.j0 k (mkB l) true))) b → Ev (fun k => ident_Valid.f k (mkB l)) b := fun e => by
    unfold ident_Valid.f
    exact ev_neg (by rw [toList_mk]; exact h1) (ev_neg (by rw [size_mk]; omega) (ev_pos (by rw [size_mk]; omega) e))
  have e4 : strings_Contains.f (mkB l) ⟨#[45, 45]⟩ = some (Lib.contains l [45, 45]) := by
    unfold strings_Contains.f
    rw [if_pos (by rw [size_mk]; omega)]; rfl
  by_cases h3 : 97 ≤ bt (mkB l) (0 : Nat) ∧ bt (mkB l) (0 : Nat) ≤ 122
  · have h3' : 97 ≤ bt (mkB l) 0 ∧ bt (mkB l) 0 ≤ 122 := h3
    by_cases h4 : bt (mkB l) (l.length - 1 : Nat) = 45
    · refine ⟨false, ⟨fun h => by (cases h), fun h => by (have := ((h.2.2.2 (l.length - 1) (by omega)).2 h4).1; omega)⟩, pre ?_⟩
      simp only [small_ev, Option.bind_some, suffix_ev l h1' (by omega)]
      exact ev_pos (by simpa using h3') (ev_pos (by simpa using h4) bad)
    · by_cases h5 : Lib.contains l [45, 45] = true
      · obtain ⟨i, q1, q2, q3⟩ := (twice45 l).1 h5
        refine ⟨false, ⟨fun h => by (cases h), fun h => absurd q3 ((h.2.2.2 i (by omega)).2 q2).2⟩, pre ?_⟩
        simp only [small_ev, Option.bind_some, suffix_ev l h1' (by omega), e4, h5]
        exact ev_pos (by simpa using h3') (ev_neg (by simpa using h4) bad)
      · obtain ⟨b, hb, eb⟩ := name_l0 l (by omega) l.length 0 (by omega)
        have h5' : Lib.contains l [45, 45] = false := by simpa using h5
        refine ⟨b, ?_, pre ?_⟩
        · rw [hb]
          refine ⟨fun q => ⟨h1', by omega, h3, fun j hj => ⟨q j (by omega) hj, fun e => ?_⟩⟩, fun q j _ hj => (q.2.2.2 j hj).1⟩
          by_cases hl : j + 1 < l.length
          · exact ⟨hl, fun e' => h5 ((twice45 l).2 ⟨j, hl, e, e'⟩)⟩
          · exact absurd (by rw [show l.length - 1 = j by omega]; exact e) h4
        · simp only [small_ev, Option.bind_some, suffix_ev l h1' (by omega), e4, h5']
          exact ev_pos (by simpa using h3') (ev_neg (by simpa using h4) (ev_step (fun k => by simp only [ident_Valid.j0] <;> exact rfl) (ev_neg (by simp) eb)))
  · have h3' : ¬ (97 ≤ bt (mkB l) 0 ∧ bt (mkB l) 0 ≤ 122) := h3
    refine ⟨false, ⟨fun h => by (cases h), fun h => absurd h.2.2.1 h3⟩, pre ?_⟩
    simp only [small_ev, Option.bind_some]
    exact ev_neg (by simpa using h3') bad
end

/-! ### words -/
theorem ex_data (s : ByteArray) : s = mkB s.data.toList := by obtain ⟨⟨l⟩⟩ := s; rfl
theorem rd53 (l : List S53) {i : Nat} (h : i < l.length) : rd_T53 l (i : Int) = l[i] := by
  unfold rd_T53
  rw [List.getD_eq_getElem?_getD, Int.toNat_natCast, List.getElem?_eq_getElem h]; rfl
theorem rd55 (l : List S55) {i : Nat} (h : i < l.length) : rd_T55 l (i : Int) = l[i] := by
  unfold rd_T55
  rw [List.getD_eq_getElem?_getD, Int.toNat_natCast, List.getElem?_eq_getElem h]; rfl
theorem rd59 (l : List S59) {i : Nat} (h : i < l.length) : rd_T59 l (i : Int) = l[i] := by
  unfold rd_T59
  rw [List.getD_eq_getElem?_getD, Int.toNat_natCast, List.getElem?_eq_getElem h]; rfl
theorem rd48 (l : List S48) {i : Nat} (h : i < l.length) : rd_T48 l (i : Int) = l[i] := by
  unfold rd_T48
  rw [List.getD_eq_getElem?_getD, Int.toNat_natCast, List.getElem?_eq_getElem h]; rfl
theorem rdI (l : List Int) {i : Nat} (h : i < l.length) : rd l (i : Int) = l[i] := by
  unfold rd
  rw [List.getD_eq_getElem?_getD, Int.toNat_natCast, List.getElem?_eq_getElem h]; rfl
/-- The first error. -/
def fe (e : Nat → Int) : Nat → Nat → Int → Int
 | 0, _, r => r
 | d + 1, i, r => if e i = 0 then fe e d (i + 1) r else e i
theorem fe_zero {e : Nat → Int} {r : Int} : ∀ {d i : Nat}, fe e d i r = 0 → (∀ j, i ≤ j → j < i + d → e j = 0) ∧ r = 0
 | 0, i, h => ⟨fun j h1 h2 => by omega, h⟩
 | d + 1, i, h => by
  unfold fe at h
  by_cases h0 : e i = 0
  · rw [if_pos h0] at h
    obtain ⟨q, hr⟩ := fe_zero h
    exact ⟨fun j h1 h2 => by
      by_cases e1 : j = i
      · rw [e1]; exact h0
      · exact q j (by omega) (by omega), hr⟩
  · rw [if_neg h0] at h; exact absurd h h0
theorem fe_of {e : Nat → Int} {r : Int} : ∀ {d i : Nat}, (∀ j, i ≤ j → j < i + d → e j = 0) → fe e d i r = r
 | 0, i, _ => rfl
 | d + 1, i, h => by
  unfold fe
  rw [if_pos (h i (Nat.le_refl _) (by omega))]
  exact fe_of (fun j h1 h2 => h j (by omega) (by omega))
theorem fe_loop {F : Nat → Nat → Option Int} {e : Nat → Int} {n : Nat} {r : Int} (hend : Ev (fun k => F k n) r)
    (hstep : ∀ i, i < n → e i = 0 → ∀ v, Ev (fun k => F k (i + 1)) v → Ev (fun k => F k i) v) (herr : ∀ i, i < n → e i ≠ 0 → Ev (fun k => F k i) (e i)) :
    ∀ d i : Nat, i + d = n → Ev (fun k => F k i) (fe e d i r)
 | 0, i, h => by obtain rfl : i = n := by omega
                 exact hend
 | d + 1, i, h => by
  unfold fe
  by_cases h0 : e i = 0
  · rw [if_pos h0]; exact hstep i (by omega) h0 _ (fe_loop hend hstep herr d (i + 1) (by omega))
  · rw [if_neg h0]; exact herr i (by omega) h0
/-! ### lists -/
section
variable (l : List Int) (x : Int) (hn : l.length < 9223372036854775808)
include hn
theorem idx_l0 (d : Nat) : ∀ i : Nat, i + d = l.length → ∃ r : Int, (r ≥ 0 ↔ x ∈ l.drop i) ∧ Ev (fun k => slices_Index_int_int.l0 k l x (l.length : Int) (i : Int)) r := by
  induction d with
  | zero =>
    intro i hi
    refine ⟨-1, ?_, ev_step (fun k => by simp only [slices_Index_int_int.l0] <;> exact rfl) (ev_neg (by omega) (ev_now _))⟩
    rw [List.drop_of_length_le (by omega)]; simp
  | succ d ih =>
    intro i hi
    have hlt : i < l.length := by omega
    have pre : ∀ {r : Int}, Ev (fun k => if x = l[i] then some (i : Int) else slices_Index_int_int.l0 k l x (l.length : Int) ((i + 1 : Nat) : Int)) r → Ev (fun k => slices_Index_int_int.l0 k l x (l.length : Int) (i : Int)) r := by
      intro r h
      refine ev_step (fun k => by simp only [slices_Index_int_int.l0] <;> exact rfl) (ev_pos (by omega) (ev_pos (by omega) (ev_pos (by omega) ?_)))
      rw [rdI l hlt, w64 (by omega) (by omega)]
      exact h
    rw [List.drop_eq_getElem_cons hlt]
    by_cases h : x = l[i]
    · exact ⟨i, ⟨fun _ => by rw [← h]; simp, fun _ => by omega⟩, pre (ev_pos h (ev_now _))⟩
    · obtain ⟨r, hr, er⟩ := ih (i + 1) (by omega)
      exact ⟨r, by rw [hr]; simp only [List.mem_cons, h, false_or], pre (ev_neg h er)⟩
theorem contains_ev : Ev (fun k => slices_Contains_int_int.f k l x) (decide (x ∈ l)) := by
  obtain ⟨r, hr, er⟩ := idx_l0 l x hn l.length 0 (by omega)
  exact Ev.bind er (ev_eq (ev_now _) (by simp only [hr, List.drop_zero]))
end
/-! ### tasks -/
structure Tk where
  sc : List S53
  ro : List S55
  bu : List S59
  sl : Int
def castE (l : List Int) (i : Nat) : Int := if rd l i < 0 ∨ 24 ≤ rd l i then 40 else 0
def dupE (l : List Int) (i : Nat) : Int := if rd l i ∈ l.take i then 7 else 0
def castsE (l : List Int) : Int := fe (castE l) l.length 0 (fe (dupE l) l.length 0 0)
open Classical in
noncomputable def scE (s : S53) (slots : Int) : Int := if ¬ nameOk s.f0.data.toList then 8 else if s.f1 < 1 ∨ slots < s.f1 then 1 else if s.f2.length = 0 then 4 else castsE s.f2
section
variable (l : List Int) (hn : l.length < 9223372036854775808) (nm : ByteArray) (sl : Int)
include hn
theorem scene_l1 : Ev (fun k => rehearse_scene.l1 k l (l.length : Int) 0 nm sl l) (fe (dupE l) l.length 0 0) := by
  refine fe_loop (F := fun k i => rehearse_scene.l1 k l (l.length : Int) (i : Int) nm sl l) (n := l.length) ?_ (fun i hi h0 v hv => ?_) (fun i hi h0 => ?_) l.length 0 (by omega)
  · exact ev_step (fun k => by simp only [rehearse_scene.l1] <;> exact rfl) (ev_neg (by omega) (ev_now _))
  · refine ev_step (fun k => by simp only [rehearse_scene.l1] <;> exact rfl) (ev_pos (by omega) (ev_pos (by omega) (ev_pos (by omega) (ev_pos (by omega) ?_))))
    rw [Int.toNat_natCast]
    refine Ev.bind (contains_ev _ _ (by rw [List.length_take]; omega)) ?_
    rw [w64 (by omega) (by omega)]
    refine ev_neg ?_ hv
    unfold dupE at h0
    by_cases h : rd l i ∈ l.take i
    · rw [if_pos h] at h0; omega
    · simp [h]
  · have hm : rd l i ∈ l.take i := Classical.not_not.1 fun h => h0 (by unfold dupE; rw [if_neg h])
    refine ev_step (fun k => by simp only [rehearse_scene.l1] <;> exact rfl) (ev_pos (by omega) (ev_pos (by omega) (ev_pos (by omega) (ev_pos (by omega) ?_))))
    rw [Int.toNat_natCast]
    refine Ev.bind (contains_ev _ _ (by rw [List.length_take]; omega)) ?_
    refine ev_pos (by simp [hm]) (ev_eq (ev_now _) ?_)
    unfold dupE; rw [if_pos hm]
theorem castE_ok {i : Nat} (h : castE l i = 0) : ¬ rd l i < 0 ∧ ¬ rd l i ≥ 24 := by
  unfold castE at h
  by_cases q : rd l i < 0 ∨ 24 ≤ rd l i
  · rw [if_pos q] at h; omega
  · exact ⟨fun z => q (.inl z), fun z => q (.inr z)⟩
theorem castE_no {i : Nat} (h : castE l i ≠ 0) : castE l i = 40 ∧ (rd l i < 0 ∨ rd l i ≥ 24) := by
  unfold castE at h ⊢
  by_cases q : rd l i < 0 ∨ 24 ≤ rd l i
  · exact ⟨if_pos q, q⟩
  · rw [if_neg q] at h; exact absurd rfl h
theorem scene_l0 : Ev (fun k => rehearse_scene.l0 k l (l.length : Int) 0 nm sl l) (castsE l) := by
  refine fe_loop (F := fun k i => rehearse_scene.l0 k l (l.length : Int) (i : Int) nm sl l) (n := l.length) ?_ (fun i hi h0 v hv => ?_) (fun i hi h0 => ?_) l.length 0 (by omega)
  · exact ev_step (fun k => by simp only [rehearse_scene.l0] <;> exact rfl) (ev_neg (by omega) (scene_l1 l hn nm sl))
  · obtain ⟨q1, q2⟩ := castE_ok l hn h0
    refine ev_step (fun k => by simp only [rehearse_scene.l0] <;> exact rfl) (ev_pos (by omega) (ev_pos (by omega) (ev_pos (by omega) (ev_neg q1 (ev_neg q2 ?_)))))
    rw [w64 (by omega) (by omega)]
    exact hv
  · obtain ⟨q, q1⟩ := castE_no l hn h0
    rw [q]
    refine ev_step (fun k => by simp only [rehearse_scene.l0] <;> exact rfl) (ev_pos (by omega) (ev_pos (by omega) (ev_pos (by omega) ?_)))
    by_cases q2 : rd l i < 0
    · exact ev_pos q2 (ev_now _)
    · exact ev_neg q2 (ev_pos (q1.resolve_left q2) (ev_now _))
end
theorem scene_ev (s : S53) (slots : Int) (hn : s.f2.length < 9223372036854775808) : Ev (fun k => rehearse_scene.f k s.f0 s.f1 s.f2 slots) (scE s slots) := by
  unfold rehearse_scene.f scE
  obtain ⟨b, hb, eb⟩ := name_ev s.f0.data.toList
  rw [← ex_data] at eb
  refine Ev.bind eb ?_
  cases b with
  | false => rw [if_pos (show ¬ nameOk _ from fun h => by have := hb.2 h; cases this)]; exact ev_neg (by simp) (ev_now _)
  | true =>
    rw [if_neg (show ¬ ¬ nameOk _ from fun h => h (hb.1 rfl))]
    refine ev_pos (c := true = true) rfl ?_
    have tl : ∀ b : Bool, b = decide (s.f1 < 1 ∨ slots < s.f1) → Ev (fun k => rehearse_scene.j0 k b s.f0 s.f1 s.f2) (if s.f1 < 1 ∨ slots < s.f1 then 1 else if s.f2.length = 0 then 4 else castsE s.f2) := by
      intro b hb
      refine ev_step (fun k => by simp only [rehearse_scene.j0] <;> exact rfl) ?_
      by_cases h : s.f1 < 1 ∨ slots < s.f1
      · rw [if_pos h]; exact ev_pos (hb.trans (decide_eq_true h)) (ev_now _)
      rw [if_neg h]
      refine ev_neg (by rw [hb, decide_eq_false h]; simp) ?_
      by_cases h1 : s.f2.length = 0
      · rw [if_pos h1]; exact ev_pos (by omega) (ev_now _)
      rw [if_neg h1]
      exact ev_neg (by omega) (scene_l0 s.f2 hn s.f0 s.f1)
    by_cases h : s.f1 < 1
    · exact ev_pos h (tl true (by simp [h]))
    · exact ev_neg h (tl _ (by simp [h]))
section
variable (t : Tk)
noncomputable def scI (i : Nat) : Int := scE (rd_T53 t.sc i) t.sl
def roE (i : Nat) : Int := if (rd_T55 t.ro i).f0 < 1 ∨ 24 < (rd_T55 t.ro i).f0 then 41 else 0
def badB (b : S59) (sl : Int) : Prop := b.f0 < 0 ∨ 24 ≤ b.f0 ∨ b.f1.f0 < 0 ∨ b.f1.f1 < b.f1.f0 ∨ sl < b.f1.f1
instance (b : S59) (sl : Int) : Decidable (badB b sl) := by unfold badB; infer_instance
def buE (i : Nat) : Int := if badB (rd_T59 t.bu i) t.sl then 42 else 0
noncomputable def chkT : Int := if t.sl < 1 ∨ 32 < t.sl then 1 else if 10 < t.sc.length then 3 else fe (scI t) t.sc.length 0 (if t.ro.length < 1 ∨ 4 < t.ro.length then 41 else fe (roE t) t.ro.length 0 (if 512 < t.bu.length then 3 else fe (buE t) t.bu.length 0 0))
variable (hc : ∀ s ∈ t.sc, s.f2.length < 9223372036854775808)
theorem bad_ev {α : Type} (b : S59) (sl : Int) {A : Nat → Option α} {r x : α} (h1 : badB b sl → r = x) (h2 : ¬ badB b sl → Ev A r) :
    Ev (fun k => if b.f0 < 0 then some x else if b.f0 ≥ 24 then some x else if b.f1.f0 < 0 then some x else if b.f1.f0 > b.f1.f1 then some x else if b.f1.f1 > sl then some x else A k) r := by
  unfold badB at h1 h2
  by_cases q1 : b.f0 < 0
  · exact ev_pos q1 (ev_eq (ev_now _) (h1 (by omega)).symm)
  by_cases q2 : b.f0 ≥ 24
  · exact ev_neg q1 (ev_pos q2 (ev_eq (ev_now _) (h1 (by omega)).symm))
  by_cases q3 : b.f1.f0 < 0
  · exact ev_neg q1 (ev_neg q2 (ev_pos q3 (ev_eq (ev_now _) (h1 (by omega)).symm)))
  by_cases q4 : b.f1.f0 > b.f1.f1
  · exact ev_neg q1 (ev_neg q2 (ev_neg q3 (ev_pos q4 (ev_eq (ev_now _) (h1 (by omega)).symm))))
  by_cases q5 : b.f1.f1 > sl
  · exact ev_neg q1 (ev_neg q2 (ev_neg q3 (ev_neg q4 (ev_pos q5 (ev_eq (ev_now _) (h1 (by omega)).symm)))))
  exact ev_neg q1 (ev_neg q2 (ev_neg q3 (ev_neg q4 (ev_neg q5 (h2 (by omega))))))
theorem buE_no {i : Nat} (h : buE t i ≠ 0) : buE t i = 42 ∧ badB (rd_T59 t.bu i) t.sl := by
  unfold buE at h ⊢
  by_cases q : badB (rd_T59 t.bu i) t.sl
  · exact ⟨if_pos q, q⟩
  · rw [if_neg q] at h; exact absurd rfl h
theorem buE_ok {i : Nat} (h : buE t i = 0) : ¬ badB (rd_T59 t.bu i) t.sl := by
  unfold buE at h
  intro q
  rw [if_pos q] at h; omega
theorem roE_ok {i : Nat} (h : roE t i = 0) : ¬ (rd_T55 t.ro i).f0 < 1 ∧ ¬ (rd_T55 t.ro i).f0 > 24 := by
  unfold roE at h
  by_cases q : (rd_T55 t.ro i).f0 < 1 ∨ 24 < (rd_T55 t.ro i).f0
  · rw [if_pos q] at h; omega
  · exact ⟨fun z => q (.inl z), fun z => q (.inr z)⟩
theorem roE_no {i : Nat} (h : roE t i ≠ 0) : roE t i = 41 ∧ ((rd_T55 t.ro i).f0 < 1 ∨ (rd_T55 t.ro i).f0 > 24) := by
  unfold roE at h ⊢
  by_cases q : (rd_T55 t.ro i).f0 < 1 ∨ 24 < (rd_T55 t.ro i).f0
  · exact ⟨if_pos q, q⟩
  · rw [if_neg q] at h; exact absurd rfl h
theorem chk_l2 (hb : t.bu.length < 9223372036854775808) : Ev (fun k => rehearse_Check.l2 k t.bu (t.bu.length : Int) 0 t.sc t.ro t.bu t.sl) (fe (buE t) t.bu.length 0 0) := by
  refine fe_loop (F := fun k i => rehearse_Check.l2 k t.bu (t.bu.length : Int) (i : Int) t.sc t.ro t.bu t.sl) (n := t.bu.length) ?_ (fun i hi h0 v hv => ?_) (fun i hi h0 => ?_) t.bu.length 0 (by omega)
  · exact ev_step (fun k => by simp only [rehearse_Check.l2] <;> exact rfl) (ev_neg (by omega) (ev_now _))
  · refine ev_step (fun k => by simp only [rehearse_Check.l2] <;> exact rfl) (ev_pos (by omega) (ev_pos (by omega) (ev_pos (by omega) ?_)))
    rw [w64 (by omega) (by omega)]
    exact bad_ev _ _ (fun h => absurd h (buE_ok t h0)) (fun _ => hv)
  · obtain ⟨q, q1⟩ := buE_no t h0
    rw [q]
    refine ev_step (fun k => by simp only [rehearse_Check.l2] <;> exact rfl) (ev_pos (by omega) (ev_pos (by omega) (ev_pos (by omega) ?_)))
    exact bad_ev _ _ (fun _ => rfl) (fun h => absurd q1 h)
theorem chk_l1 (hr : t.ro.length ≤ 4) : Ev (fun k => rehearse_Check.l1 k t.ro (t.ro.length : Int) 0 t.sc t.ro t.bu t.sl) (fe (roE t) t.ro.length 0 (if 512 < t.bu.length then 3 else fe (buE t) t.bu.length 0 0)) := by
  refine fe_loop (F := fun k i => rehearse_Check.l1 k t.ro (t.ro.length : Int) (i : Int) t.sc t.ro t.bu t.sl) (n := t.ro.length) ?_ (fun i hi h0 v hv => ?_) (fun i hi h0 => ?_) t.ro.length 0 (by omega)
  · refine ev_step (fun k => by simp only [rehearse_Check.l1] <;> exact rfl) (ev_neg (by omega) ?_)
    by_cases h : 512 < t.bu.length
    · rw [if_pos h]; exact ev_pos (by omega) (ev_now _)
    · rw [if_neg h]; exact ev_neg (by omega) (chk_l2 t (by omega))
  · obtain ⟨q1, q2⟩ := roE_ok t h0
    refine ev_step (fun k => by simp only [rehearse_Check.l1] <;> exact rfl) (ev_pos (by omega) (ev_pos (by omega) (ev_pos (by omega) (ev_neg q1 (ev_neg q2 ?_)))))
    rw [w64 (by omega) (by omega)]
    exact hv
  · obtain ⟨q, q1⟩ := roE_no t h0
    rw [q]
    refine ev_step (fun k => by simp only [rehearse_Check.l1] <;> exact rfl) (ev_pos (by omega) (ev_pos (by omega) (ev_pos (by omega) ?_)))
    by_cases q2 : (rd_T55 t.ro i).f0 < 1
    · exact ev_pos q2 (ev_now _)
    · exact ev_neg q2 (ev_pos (q1.resolve_left q2) (ev_now _))
theorem chk_j2 (b : Bool) (hb : b = decide (t.ro.length < 1 ∨ 4 < t.ro.length)) : Ev (fun k => rehearse_Check.j2 k b t.sc t.ro t.bu t.sl) (if t.ro.length < 1 ∨ 4 < t.ro.length then 41 else fe (roE t) t.ro.length 0 (if 512 < t.bu.length then 3 else fe (buE t) t.bu.length 0 0)) := by
  refine ev_step (fun k => by simp only [rehearse_Check.j2] <;> exact rfl) ?_
  by_cases h : t.ro.length < 1 ∨ 4 < t.ro.length
  · rw [if_pos h]; exact ev_pos (hb.trans (decide_eq_true h)) (ev_now _)
  · rw [if_neg h]; exact ev_neg (by rw [hb, decide_eq_false h]; simp) (chk_l1 t (by omega))
include hc
theorem chk_l0 (hs : t.sc.length ≤ 10) : Ev (fun k => rehearse_Check.l0 k t.sc (t.sc.length : Int) 0 t.sc t.ro t.bu t.sl) (fe (scI t) t.sc.length 0 (if t.ro.length < 1 ∨ 4 < t.ro.length then 41 else fe (roE t) t.ro.length 0 (if 512 < t.bu.length then 3 else fe (buE t) t.bu.length 0 0))) := by
  have hS : ∀ i, i < t.sc.length → Ev (fun k => rehearse_scene.f k (rd_T53 t.sc i).f0 (rd_T53 t.sc i).f1 (rd_T53 t.sc i).f2 t.sl) (scI t i) := fun i hi => scene_ev _ _ (hc _ (by rw [rd53 _ hi]; exact List.getElem_mem _))
  refine fe_loop (F := fun k i => rehearse_Check.l0 k t.sc (t.sc.length : Int) (i : Int) t.sc t.ro t.bu t.sl) (n := t.sc.length) ?_ (fun i hi h0 v hv => ?_) (fun i hi h0 => ?_) t.sc.length 0 (by omega)
  · refine ev_step (fun k => by simp only [rehearse_Check.l0] <;> exact rfl) (ev_neg (by omega) ?_)
    by_cases h : t.ro.length < 1
    · exact ev_pos (by omega) (chk_j2 t true (by simp [h]))
    · exact ev_neg (by omega) (chk_j2 t _ (by simp only [h, false_or, gt_iff_lt]; exact decide_eq_decide.2 (by omega)))
  · refine ev_step (fun k => by simp only [rehearse_Check.l0] <;> exact rfl) (ev_pos (by omega) (ev_pos (by omega) (ev_pos (by omega) ?_)))
    rw [w64 (by omega) (by omega)]
    exact Ev.bind (hS i hi) (ev_pos h0 hv)
  · refine ev_step (fun k => by simp only [rehearse_Check.l0] <;> exact rfl) (ev_pos (by omega) (ev_pos (by omega) (ev_pos (by omega) ?_)))
    exact Ev.bind (hS i hi) (ev_neg h0 (ev_now _))
theorem chk_ev : Ev (fun k => rehearse_Check.f k t.sc t.ro t.bu t.sl) (chkT t) := by
  have tl : ∀ b : Bool, b = decide (t.sl < 1 ∨ 32 < t.sl) → Ev (fun k => rehearse_Check.j0 k b t.sc t.ro t.bu t.sl) (chkT t) := by
    intro b hb
    unfold chkT
    refine ev_step (fun k => by simp only [rehearse_Check.j0] <;> exact rfl) ?_
    by_cases h : t.sl < 1 ∨ 32 < t.sl
    · rw [if_pos h]; exact ev_pos (hb.trans (decide_eq_true h)) (ev_now _)
    rw [if_neg h]
    refine ev_neg (by rw [hb, decide_eq_false h]; simp) ?_
    by_cases h1 : 10 < t.sc.length
    · rw [if_pos h1]; exact ev_pos (by omega) (ev_now _)
    rw [if_neg h1]
    exact ev_neg (by omega) (chk_l0 t hc (by omega))
  unfold rehearse_Check.f
  by_cases h : t.sl < 1
  · exact ev_pos h (tl true (by simp [h]))
  · exact ev_neg h (tl _ (by simp [h]))
end
end Go.Proofs.Ytjppjppapdflmaa.PAll
