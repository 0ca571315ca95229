/- Strings as lists of bytes, and what the library's searches for one byte find. -/
import Derived.Test.YtkcnfbhmjcbgoaaDoorPAllx0
import Derived.Test.YtkcnfbhmjcbgoaaDoorEvWords
import Derived.Lib.SplitLaws
import Derived.Lib.Replace
import Derived.Lib.ReplaceLaws
import Derived.Lib.IndexMore
namespace Go.Proofs.YtkcnfbhmjcbgoaaDoor.PAll
set_option linter.unusedVariables false
open Go Go.RowKit Go.Proofs.YtkcnfbhmjcbgoaaDoorW.PrintWords Go.Proofs.YtkcnfbhmjcbgoaaDoorW.PrintLast Go.Proofs.YtkcnfbhmjcbgoaaDoorW.PrintMore Go.Proofs.YtkcnfbhmjcbgoaaDoor.MathNum Go.Proofs.YtkcnfbhmjcbgoaaDoor.EvWords

abbrev Bs := List UInt8
def mkB (l : Bs) : ByteArray := ⟨l.toArray⟩
def lst (s : ByteArray) : Bs := s.data.toList
@[simp] theorem lst_mk (l : Bs) : (mkB l).data.toList = l := rfl
theorem mk_lst (s : ByteArray) : mkB (lst s) = s := by obtain ⟨⟨l⟩⟩ := s; rfl
theorem ex_mk (s : ByteArray) : ∃ l, s = mkB l := ⟨lst s, (mk_lst s).symm⟩
theorem size_mk (l : Bs) : (mkB l).size = l.length := rfl
theorem toList_mk (l : Bs) : (mkB l).toList = l := ByteArray.toList_eq _
theorem mk_append (l l' : Bs) : mkB l ++ mkB l' = mkB (l ++ l') := by
  apply ByteArray.ext
  rw [ByteArray.data_append]
  simp [mkB]
theorem mk_extract (l : Bs) (a b : Nat) : (mkB l).extract a b = mkB ((l.drop a).take (b - a)) := by
  rw [Lib.extract_eq]; rfl
theorem mk_inj {l l' : Bs} (h : mkB l = mkB l') : l = l' := congrArg lst h
theorem mk_nil {l : Bs} : (mkB l).toList = [] ↔ l = [] := by rw [toList_mk]
theorem bt_mk {l : Bs} {i : Nat} (h : i < l.length) : bt (mkB l) (i : Int) = (l[i].toNat : Int) := by
  unfold bt
  rw [dif_pos (by rw [Int.toNat_natCast, size_mk]; exact h)]
  rfl
theorem bt_nat {l : Bs} {i : Nat} {c : UInt8} (h : i < l.length) (hc : c.toNat < 256 := by decide) : bt (mkB l) (i : Int) = (c.toNat : Int) ↔ l[i] = c := by
  rw [bt_mk h]
  constructor
  · intro e; exact UInt8.toNat_inj.1 (by omega)
  · intro e; rw [e]
theorem drop_at {l : Bs} {i : Nat} (h : i < l.length) : l.drop i = l[i] :: l.drop (i + 1) := (List.getElem_cons_drop h).symm
theorem rdS {l : List ByteArray} {i : Nat} (h : i < l.length) : rdOf ByteArray.empty l (i : Int) = l[i] := by
  unfold rdOf
  rw [List.getD_eq_getElem?_getD, Int.toNat_natCast, List.getElem?_eq_getElem h]; rfl
/-- Numbers of bytes. -/
def nums8 (l : Bs) : List Int := l.map fun c => (c.toNat : Int)
theorem nums8_app (l : Bs) (c : UInt8) : nums8 l ++ [(c.toNat : Int)] = nums8 (l ++ [c]) := by simp [nums8]
theorem nums8_len (l : Bs) : (nums8 l).length = l.length := by simp [nums8]
theorem strOf_nums8 (l : Bs) : strOfNums (nums8 l) = mkB l := by
  unfold strOfNums nums8 mkB
  rw [List.map_map]
  congr 2
  conv => rhs; rw [← List.map_id l]
  apply List.map_congr_left
  intro c _
  simp

/-! One byte sought. -/
theorem pre_one (b c : UInt8) (l : Bs) : [c].isPrefixOf (b :: l) = (c == b) := by simp [List.isPrefixOf]
theorem index_cons (b c : UInt8) (l : Bs) : Lib.index (b :: l) [c] = if b = c then 0 else if Lib.index l [c] = -1 then -1 else Lib.index l [c] + 1 := by
  rw [Lib.index, pre_one]
  by_cases h : b = c
  · subst h; simp
  · have : (c == b) = false := by simpa using fun e => h e.symm
    rw [this, if_neg h]
    simp only [Bool.false_eq_true, if_false, beq_iff_eq]
theorem index_nil (c : UInt8) : Lib.index [] [c] = -1 := rfl
theorem index_mem (c : UInt8) : ∀ l : Bs, 0 ≤ Lib.index l [c] ↔ c ∈ l
  | [] => by rw [index_nil]; simp
  | b :: l => by
    rw [index_cons]
    have ih := index_mem c l
    have hg := Lib.index_ge l [c]
    by_cases h : b = c
    · subst h; simp
    · rw [if_neg h, List.mem_cons]
      by_cases hm : Lib.index l [c] = -1
      · rw [if_pos hm]
        constructor
        · intro h2; omega
        · rintro (h2 | h2)
          · exact absurd h2.symm h
          · have := ih.2 h2; omega
      · rw [if_neg hm]
        constructor
        · intro _; exact Or.inr (ih.1 (by omega))
        · intro _; omega
theorem contains_one (c : UInt8) (l : Bs) : Lib.contains l [c] = l.contains c := by
  unfold Lib.contains
  rw [Bool.eq_iff_iff]
  simp [index_mem]
/-- The part ahead of the first c. -/
theorem index_find (c : UInt8) : ∀ l : Bs, c ∈ l → Lib.index l [c] = ((l.takeWhile (· != c)).length : Int) ∧ l = l.takeWhile (· != c) ++ c :: l.drop ((l.takeWhile (· != c)).length + 1)
  | [], h => by cases h
  | b :: l, h => by
    rw [index_cons]
    by_cases hb : b = c
    · subst hb; simp
    · have hl : c ∈ l := (List.mem_cons.1 h).resolve_left fun e => hb e.symm
      have ih := index_find c l hl
      have hm := (index_mem c l).2 hl
      have hne : (b != c) = true := by simpa using hb
      rw [if_neg hb, if_neg (by omega), List.takeWhile_cons, hne, ih.1]
      simp only [if_true, List.length_cons, List.drop_succ_cons, List.cons_append]
      exact ⟨by omega, congrArg (b :: ·) ih.2⟩
/-- Each ' doubled. -/
def esc (l : Bs) : Bs := l.flatMap fun c => if c = 39 then [39, 39] else [c]
theorem esc_nil : esc [] = [] := rfl
theorem esc_cons (c : UInt8) (l : Bs) : esc (c :: l) = (if c = 39 then [39, 39] else [c]) ++ esc l := by unfold esc; rw [List.flatMap_cons]
theorem esc_app (l l' : Bs) : esc (l ++ l') = esc l ++ esc l' := by unfold esc; rw [List.flatMap_append]
theorem esc_len (l : Bs) : (esc l).length ≤ 2 * l.length := by
  induction l with
  | nil => simp [esc_nil]
  | cons c l ih =>
    rw [esc_cons, List.length_append, List.length_cons]
    split <;> simp <;> omega
theorem repK : ∀ (l : Bs) (k : Nat), l.count 39 ≤ k → Lib.replaceK [39] [39, 39] k l = esc l
  | [], k, _ => by
    cases k with
    | zero => rfl
    | succ k => rw [Lib.replaceK, index_nil]; rfl
  | b :: l, k, h => by
    by_cases hb : b = 39
    · subst hb
      rw [List.count_cons_self] at h
      obtain ⟨k, rfl⟩ : ∃ m, k = m + 1 := ⟨k - 1, by omega⟩
      rw [Lib.replaceK_hit _ _ _ _ 0 (by rw [index_cons]; simp), esc_cons, if_pos rfl]
      simp only [List.take_zero, List.nil_append, List.length_cons, List.length_nil, Nat.zero_add, List.drop_succ_cons, List.drop_zero]
      rw [repK l k (by omega)]
    · rw [List.count_cons_of_ne hb] at h
      rw [esc_cons, if_neg hb, ← repK l k h]
      cases k with
      | zero => rfl
      | succ k =>
        by_cases hm : Lib.index l [39] = -1
        · have e : Lib.index (b :: l) [39] = -1 := by rw [index_cons, if_neg hb, if_pos hm]
          rw [Lib.replaceK, Lib.replaceK, e, hm]; rfl
        · have hg := Lib.index_ge l [39]
          obtain ⟨i, hi⟩ : ∃ i : Nat, Lib.index l [39] = i := ⟨(Lib.index l [39]).toNat, by omega⟩
          rw [Lib.replaceK_hit _ _ _ l i hi, Lib.replaceK_hit _ _ _ (b :: l) (i + 1) (by rw [index_cons, if_neg hb, if_neg hm, hi]; rfl)]
          rw [show i + 1 + ([39] : Bs).length = (i + ([39] : Bs).length) + 1 from rfl, List.drop_succ_cons, List.take_succ_cons]
          rfl
theorem replace_esc (l : Bs) : Lib.replaceAll l [39] [39, 39] = esc l := by
  unfold Lib.replaceAll Lib.replace Lib.replaceNum
  have h1 : (([39] : Bs) == [39, 39]) = false := by decide
  rw [h1, if_pos (Or.inl (by omega)), Lib.count_one]
  simp only [Bool.false_eq_true, if_false]
  exact repK l _ (Nat.le_refl _)
end Go.Proofs.YtkcnfbhmjcbgoaaDoor.PAll
