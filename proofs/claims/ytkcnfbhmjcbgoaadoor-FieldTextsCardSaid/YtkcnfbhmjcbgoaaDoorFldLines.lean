/- Lines: the program's and the reference's; texts one after the other. -/
import Derived.Test.YtkcnfbhmjcbgoaaDoorPAllx0
import Derived.Test.YtkcnfbhmjcbgoaaDoorPAllf17
import Derived.Test.YtkcnfbhmjcbgoaaDoorPAllf18
import Derived.Test.YtkcnfbhmjcbgoaaDoorPAllf32
import Derived.Test.YtkcnfbhmjcbgoaaDoorFldLaw1
import Derived.Lib.IndexMore
namespace Go.Proofs.YtkcnfbhmjcbgoaaDoor.PAll
set_option linter.unusedVariables false
open Go Go.RowKit Go.Proofs.YtkcnfbhmjcbgoaaDoorW.PrintWords Go.Proofs.YtkcnfbhmjcbgoaaDoorW.PrintLast Go.Proofs.YtkcnfbhmjcbgoaaDoorW.PrintMore Go.Proofs.YtkcnfbhmjcbgoaaDoor.MathNum Go.Proofs.YtkcnfbhmjcbgoaaDoor.EvWords

/-- The lines of a text that ends with a line's end. -/
def segs : Bs → List Bs
  | [] => []
  | c :: r => if c = 10 then [] :: segs r else match segs r with
    | [] => [[c]]
    | s :: ss => (c :: s) :: ss
def endsOk (t : Bs) : Prop := t = [] ∨ t.getLast? = some 10
theorem segs_line {pre : Bs} (h : pre.contains 10 = false) (r : Bs) : segs (pre ++ 10 :: r) = pre :: segs r := by
  induction pre with
  | nil => rw [List.nil_append, segs, if_pos rfl]
  | cons c pre ih =>
    rw [List.contains_cons, Bool.or_eq_false_iff] at h
    rw [List.cons_append, segs, if_neg (fun e => by simp [e] at h), ih h.2]
theorem head_at : ∀ {l : Bs} (h : 0 < l.length), l.head? = some l[0]
  | c :: l, _ => rfl
def line1 (t : Bs) : Bs := t.takeWhile (· != 10)
theorem line1_no (l : Bs) : (line1 l).contains 10 = false := by
  unfold line1
  induction l with
  | nil => rfl
  | cons c l ih =>
    rw [List.takeWhile_cons]
    split
    · rename_i h
      rw [List.contains_cons, ih, Bool.or_false]
      simpa using fun e => by simp [← e] at h
    · rfl
theorem ends_mem {t : Bs} (h : endsOk t) (h0 : t ≠ []) : (10 : UInt8) ∈ t := by
  rcases h with h | h
  · exact absurd h h0
  · exact List.mem_of_getLast? h
theorem ends_drop {t : Bs} (h : endsOk t) (i : Nat) : endsOk (t.drop i) := by
  rcases h with h | h
  · rw [h]; left; simp
  · by_cases hi : t.length ≤ i
    · left; exact List.drop_eq_nil_of_le hi
    · right
      rw [List.getLast?_drop, if_neg hi]; exact h
theorem ends_cut {t : Bs} (h : endsOk t) (h0 : t ≠ []) : t = line1 t ++ 10 :: t.drop ((line1 t).length + 1) ∧ endsOk (t.drop ((line1 t).length + 1)) :=
  ⟨(index_find 10 t (ends_mem h h0)).2, ends_drop h _⟩
theorem ends_app {s t : Bs} (hs : endsOk s) (ht : endsOk t) : endsOk (s ++ t) := by
  rcases ht with rfl | ht
  · rw [List.append_nil]; exact hs
  · right
    rw [List.getLast?_append, ht]; rfl
theorem segs_app : ∀ (n : Nat) (s : Bs), s.length ≤ n → endsOk s → ∀ t, segs (s ++ t) = segs s ++ segs t := by
  intro n
  induction n with
  | zero =>
    intro s h _ t
    have : s = [] := List.eq_nil_of_length_eq_zero (by omega)
    subst this; rfl
  | succ n ih =>
    intro s h hs t
    by_cases h0 : s = []
    · subst h0; rfl
    · obtain ⟨e, he⟩ := ends_cut hs h0
      have hl := congrArg List.length e
      rw [List.length_append, List.length_cons] at hl
      conv => lhs; rw [e]
      conv => rhs; rw [e]
      rw [List.append_assoc, List.cons_append, segs_line (line1_no s), segs_line (line1_no s), ih _ (by omega) he, List.cons_append]
def goL (out : List (List Bs)) : List Bs → List (List Bs) × Int
  | [] => (out, 0)
  | s :: ss => if s = [] ∨ s.head? = some 37 then goL out ss else if (splitV s).2 = 0 then goL (out ++ [(splitV s).1]) ss else ([], (splitV s).2)
theorem goL_out : ∀ (ss : List Bs) (out : List (List Bs)), goL out ss = if (goL [] ss).2 = 0 then (out ++ (goL [] ss).1, 0) else ([], (goL [] ss).2)
  | [], out => by simp [goL]
  | s :: ss, out => by
    rw [goL, goL]
    by_cases h : s = [] ∨ s.head? = some 37
    · rw [if_pos h, if_pos h]; exact goL_out ss out
    · rw [if_neg h, if_neg h]
      by_cases h2 : (splitV s).2 = 0
      · rw [if_pos h2, if_pos h2, goL_out ss (out ++ [(splitV s).1]), goL_out ss ([] ++ [(splitV s).1])]
        by_cases h3 : (goL [] ss).2 = 0
        · rw [if_pos h3, if_pos h3]; simp
        · rw [if_neg h3, if_neg h3]; simp [h3]
      · rw [if_neg h2, if_neg h2]; simp [h2]
theorem goL_app : ∀ (ss ts : List Bs) (out o : List (List Bs)), goL out ss = (o, 0) → goL out (ss ++ ts) = goL o ts
  | [], ts, out, o, h => by rw [goL] at h; rw [(Prod.mk.inj h).1]; rfl
  | s :: ss, ts, out, o, h => by
    rw [goL] at h
    rw [List.cons_append, goL]
    by_cases h1 : s = [] ∨ s.head? = some 37
    · rw [if_pos h1] at h ⊢; exact goL_app ss ts out o h
    · rw [if_neg h1] at h ⊢
      by_cases h2 : (splitV s).2 = 0
      · rw [if_pos h2] at h ⊢; exact goL_app ss ts _ o h
      · rw [if_neg h2] at h; exact absurd (Prod.mk.inj h).2 h2
instance (t : Bs) : Decidable (endsOk t) := by unfold endsOk; exact inferInstance
def linesV (t : Bs) : List (List Bs) × Int := if endsOk t then goL [] (segs t) else ([], 2)
theorem linesV_bad {t : Bs} (h : (linesV t).2 ≠ 0) : (linesV t).1 = [] := by
  unfold linesV at h ⊢
  split
  · rename_i he
    rw [if_pos he, goL_out] at h
    rw [goL_out]
    split
    · rename_i h2; rw [if_pos h2] at h; exact absurd rfl h
    · rfl
  · rfl
def mkss (l : List (List Bs)) : List (List ByteArray) := l.map mks
theorem mkss_len (l : List (List Bs)) : (mkss l).length = l.length := by simp [mkss]
theorem mkss_app (l : List (List Bs)) (x : List Bs) : mkss l ++ [mks x] = mkss (l ++ [x]) := by simp [mkss]
def goB (p : List (List Bs) × Int) : List (List ByteArray) × Int := (mkss p.1, p.2)
theorem last_bt {t : Bs} (h0 : t ≠ []) (hl : t.length ≤ 4611686018427387904) : wrap64 ((((mkB t).size : Nat) : Int) - 1) = ((t.length - 1 : Nat) : Int) ∧ (bt (mkB t) ((t.length - 1 : Nat) : Int) = 10 ↔ t.getLast? = some 10) := by
  have hp := List.length_pos_iff.2 h0
  refine ⟨by rw [size_mk, w64 (by omega) (by omega)]; omega, ?_⟩
  have := bt_nat (c := 10) (l := t) (i := t.length - 1) (by omega)
  rw [show ((10 : UInt8).toNat : Int) = 10 from rfl] at this
  rw [this, List.getLast?_eq_getElem?, List.getElem?_eq_getElem (by omega)]
  simp

/-! The program's. -/
theorem lines_j2 {rest line : Bs} {out : List (List Bs)} (ho : out.length ≤ 4000) (h0 : (line = [] ∨ line.head? = some 37) ∨ ¬ (line = [] ∨ line.head? = some 37)) {R : List (List ByteArray) × Int}
    (b : Bool) (hb : b = true ↔ line = [] ∨ line.head? = some 37) {ss : List Bs} (h1 : (line = [] ∨ line.head? = some 37) → Ev (fun k => field_Lines.l0 k (mkB rest) (mkss out)) (goB (goL out ss)))
    (h2 : Ev (fun k => field_Lines.l0 k (mkB rest) (mkss (out ++ [(splitV line).1]))) (goB (goL (out ++ [(splitV line).1]) ss))) :
    Ev (fun k => field_Lines.j2 k (mkB rest) (mkss out) (mkB line) b) (goB (goL out (line :: ss))) := by
  rw [goL]
  refine ev_step (fun k => by simp only [field_Lines.j2] <;> exact rfl) ?_
  by_cases h : line = [] ∨ line.head? = some 37
  · rw [if_pos h]
    exact ev_pos (hb.2 h) (h1 h)
  · rw [if_neg h]
    refine ev_neg (fun e => h (hb.1 e)) (Ev.bind (split_ev line) ?_)
    by_cases h3 : (splitV line).2 = 0
    · rw [if_pos h3]
      refine ev_pos h3 (ev_pos (by rw [mkss_len]; omega) ?_)
      rw [show (splitB line).1 = mks (splitV line).1 from rfl, mkss_app]
      exact h2
    · rw [if_neg h3]
      exact ev_neg h3 (ev_now _)
theorem lines_loop : ∀ (n : Nat) (t : Bs) (out : List (List Bs)), t.length ≤ n → n ≤ 4000 → out.length + t.length ≤ 4000 → endsOk t → Ev (fun k => field_Lines.l0 k (mkB t) (mkss out)) (goB (goL out (segs t))) := by
  intro n
  induction n with
  | zero =>
    intro t out h hn h1 he
    have : t = [] := List.eq_nil_of_length_eq_zero (by omega)
    subst this
    exact ev_step (fun k => by simp only [field_Lines.l0] <;> exact rfl) (ev_pos (mk_nil.2 rfl) (ev_now _))
  | succ n ih =>
    intro t out h hn h1 he
    by_cases h0 : t = []
    · subst h0
      exact ev_step (fun k => by simp only [field_Lines.l0] <;> exact rfl) (ev_pos (mk_nil.2 rfl) (ev_now _))
    · obtain ⟨e, he2⟩ := ends_cut he h0
      obtain ⟨hi, _⟩ := index_find 10 t (ends_mem he h0)
      have hl := congrArg List.length e
      rw [List.length_append, List.length_cons] at hl
      have hs : segs t = line1 t :: segs (t.drop ((line1 t).length + 1)) := by
        conv => lhs; rw [e]
        exact segs_line (line1_no t) _
      have hcut : strings_Cut.f (mkB t) (⟨#[10]⟩ : ByteArray) = some (mkB (line1 t), mkB (t.drop ((line1 t).length + 1)), true) := by
        unfold strings_Cut.f
        rw [if_pos (by rw [size_mk]; omega)]
        have : Lib.cut (mkB t).data.toList (⟨#[10]⟩ : ByteArray).data.toList = (line1 t, t.drop ((line1 t).length + 1), true) := by
          show Lib.cut t [10] = _
          unfold Lib.cut
          rw [hi, if_pos (by omega), Int.toNat_natCast]
          have ht : t.take (t.takeWhile (· != 10)).length = line1 t := by
            have : ((line1 t ++ 10 :: t.drop ((line1 t).length + 1)).take (line1 t).length) = line1 t := List.take_left
            rwa [← e] at this
          rw [ht]; rfl
        rw [this]; rfl
      rw [hs]
      refine ev_step (fun k => by simp only [field_Lines.l0] <;> exact rfl) (ev_neg (fun e => h0 (mk_nil.1 e)) ?_)
      rw [hcut]
      simp only [Option.bind_some]
      have go := fun o : List (List Bs) => fun ho : o.length ≤ out.length + 1 => ih (t.drop ((line1 t).length + 1)) o (by omega) (by omega) (by omega) he2
      by_cases hn : line1 t = []
      · exact ev_pos (mk_nil.2 hn) (lines_j2 (R := ([], 0)) (by omega) (Classical.em _) true (by simp [hn]) (fun _ => go out (by omega)) (go _ (by simp)))
      · have hp := List.length_pos_iff.2 hn
        refine ev_neg (fun e => hn (mk_nil.1 e)) (ev_pos (by rw [size_mk]; omega) ?_)
        have hb := bt_nat (c := 37) hp
        rw [show ((37 : UInt8).toNat : Int) = 37 from rfl, show ((0 : Nat) : Int) = 0 from rfl] at hb
        have hh := head_at hp
        exact lines_j2 (R := ([], 0)) (by omega) (Classical.em _) _ (by rw [beq_iff_eq, hb, hh]; simp [hn]) (fun _ => go out (by omega)) (go _ (by simp))
theorem lines_ev {t : Bs} (hl : t.length ≤ 4000) : Ev (fun k => field_Lines.f k (mkB t)) (goB (linesV t)) := by
  simp only [field_Lines.f]
  have good : endsOk t → Ev (fun k => field_Lines.j0 k (mkB t) false) (goB (linesV t)) := by
    intro h
    unfold linesV
    rw [if_pos h]
    exact ev_step (fun k => by simp only [field_Lines.j0] <;> exact rfl) (ev_neg (by simp) (lines_loop t.length t [] (Nat.le_refl _) hl (by simp; omega) h))
  by_cases h0 : t = []
  · exact ev_pos (mk_nil.2 h0) (good (Or.inl h0))
  · obtain ⟨e1, e2⟩ := last_bt h0 (by omega)
    have hp := List.length_pos_iff.2 h0
    refine ev_neg (fun e => h0 (mk_nil.1 e)) ?_
    rw [e1]
    refine ev_pos (by omega) (ev_pos (by rw [size_mk]; omega) ?_)
    by_cases h : t.getLast? = some 10
    · have : (bt (mkB t) ((t.length - 1 : Nat) : Int) != 10) = false := by rw [bne_eq_false_iff_eq]; exact e2.2 h
      rw [this]
      exact good (Or.inr h)
    · have : (bt (mkB t) ((t.length - 1 : Nat) : Int) != 10) = true := by rw [bne_iff_ne]; exact fun e => h (e2.1 e)
      rw [this]
      unfold linesV
      rw [if_neg (fun e => e.elim h0 h)]
      exact ev_step (fun k => by simp only [field_Lines.j0] <;> exact rfl) (ev_pos (show true = true from rfl) (ev_now _))

/-! The reference's. -/
theorem rlines_loop {t : Bs} (hl : t.length ≤ 4000) : ∀ (d i from_ : Nat) (out : List (List Bs)), i + d = t.length → from_ ≤ i → out.length ≤ i → endsOk (t.drop from_) → ((t.drop from_).take (i - from_)).contains 10 = false →
    Ev (fun k => dancestudioref06_Lines.l0 k (mkB t) (mkss out) (from_ : Int) (i : Int)) (goB (goL out (segs (t.drop from_)))) := by
  intro d
  induction d with
  | zero =>
    intro i f out hi hf ho he hn
    rw [List.take_of_length_le (by rw [List.length_drop]; omega)] at hn
    have : t.drop f = [] := by
      rcases he with he | he
      · exact he
      · have := List.mem_of_getLast? he
        rw [← List.contains_iff_mem, hn] at this; cases this
    rw [this]
    exact ev_step (fun k => by simp only [dancestudioref06_Lines.l0] <;> exact rfl) (ev_neg (by rw [size_mk]; omega) (ev_now _))
  | succ d ih =>
    intro i f out hi hf ho he hn
    have h : i < t.length := by omega
    refine ev_step (fun k => by simp only [dancestudioref06_Lines.l0] <;> exact rfl) (ev_pos (by rw [size_mk]; omega) (ev_pos (by omega) ?_))
    have hb := bt_nat (c := 10) h
    rw [show ((10 : UInt8).toNat : Int) = 10 from rfl] at hb
    have hat : (t.drop f).drop (i - f) = t[i] :: t.drop (i + 1) := by rw [List.drop_drop, show f + (i - f) = i by omega, drop_at h]
    by_cases h10 : t[i] = 10
    · have hex : (mkB t).extract (f : Int).toNat (i : Int).toNat = mkB ((t.drop f).take (i - f)) := by rw [mk_extract, Int.toNat_natCast, Int.toNat_natCast]
      refine ev_pos (hb.2 h10) (ev_pos (by omega) (ev_pos (by omega) (ev_pos (by rw [size_mk]; omega) ?_)))
      rw [hex, w64 (by omega) (by omega), show (i : Int) + 1 = ((i + 1 : Nat) : Int) by omega]
      have hs : segs (t.drop f) = (t.drop f).take (i - f) :: segs (t.drop (i + 1)) := by
        conv => lhs; rw [← List.take_append_drop (i - f) (t.drop f), hat, h10]
        exact segs_line hn _
      have he2 : endsOk (t.drop (i + 1)) := by
        have := ends_drop he (i - f + 1)
        rwa [List.drop_drop, show f + (i - f + 1) = i + 1 by omega] at this
      rw [hs]
      generalize (t.drop f).take (i - f) = line at hn
      have go := fun o : List (List Bs) => fun ho2 : o.length ≤ out.length + 1 => ih (i + 1) (i + 1) o (by omega) (Nat.le_refl _) (by omega) he2 (by simp)
      have j2 : ∀ b : Bool, (b = true ↔ line = [] ∨ line.head? = some 37) → Ev (fun k => dancestudioref06_Lines.j2 k (mkB t) (mkss out) ((i + 1 : Nat) : Int) (i : Int) (mkB line) b) (goB (goL out (line :: segs (t.drop (i + 1))))) := by
        intro b hb
        rw [goL]
        refine ev_step (fun k => by simp only [dancestudioref06_Lines.j2] <;> exact rfl) ?_
        rw [w64 (by omega) (by omega), show (i : Int) + 1 = ((i + 1 : Nat) : Int) by omega]
        by_cases hx : line = [] ∨ line.head? = some 37
        · rw [if_pos hx]
          exact ev_pos (hb.2 hx) (go out (by omega))
        · rw [if_neg hx]
          refine ev_neg (fun e => hx (hb.1 e)) (Ev.bind (rsplit_ev line) ?_)
          by_cases h3 : (splitV line).2 = 0
          · rw [if_pos h3]
            refine ev_pos h3 (ev_pos (by rw [mkss_len]; omega) ?_)
            rw [show (splitB line).1 = mks (splitV line).1 from rfl, mkss_app]
            exact go _ (by simp)
          · rw [if_neg h3]
            exact ev_neg h3 (ev_now _)
      by_cases hne : line = []
      · exact ev_pos (mk_nil.2 hne) (j2 true (by simp [hne]))
      · have hp := List.length_pos_iff.2 hne
        refine ev_neg (fun e => hne (mk_nil.1 e)) (ev_pos (by rw [size_mk]; omega) (j2 _ ?_))
        have hb := bt_nat (c := 37) hp
        rw [show ((37 : UInt8).toNat : Int) = 37 from rfl, show ((0 : Nat) : Int) = 0 from rfl] at hb
        have hh := head_at hp
        rw [beq_iff_eq, hb, hh]; simp [hne]
    · refine ev_neg (fun e => h10 (hb.1 e)) ?_
      rw [w64 (by omega) (by omega)]
      refine ih (i + 1) f out (by omega) (by omega) (by omega) he ?_
      have hj : i - f < (t.drop f).length := by rw [List.length_drop]; omega
      rw [show i + 1 - f = (i - f) + 1 by omega, ← List.take_append_getElem hj, List.contains_append, hn, Bool.false_or, List.getElem_drop]
      have : t[f + (i - f)]'(by omega) = t[i] := by congr 1; omega
      rw [this]
      simpa using fun e => h10 e.symm
theorem rlines_ev {t : Bs} (hl : t.length ≤ 4000) : Ev (fun k => dancestudioref06_Lines.f k (mkB t)) (goB (linesV t)) := by
  simp only [dancestudioref06_Lines.f]
  have good : endsOk t → Ev (fun k => dancestudioref06_Lines.j0 k (mkB t) false) (goB (linesV t)) := by
    intro h
    unfold linesV
    rw [if_pos h]
    have := rlines_loop hl t.length 0 0 [] (by omega) (Nat.le_refl _) (by simp) (by simpa using h) (by simp)
    rw [List.drop_zero] at this
    exact ev_step (fun k => by simp only [dancestudioref06_Lines.j0] <;> exact rfl) (ev_neg (by simp) this)
  by_cases h0 : t = []
  · exact ev_pos (mk_nil.2 h0) (good (Or.inl h0))
  · obtain ⟨e1, e2⟩ := last_bt h0 (by omega)
    have hp := List.length_pos_iff.2 h0
    refine ev_neg (fun e => h0 (mk_nil.1 e)) ?_
    rw [e1]
    refine ev_pos (by omega) (ev_pos (by rw [size_mk]; omega) ?_)
    by_cases h : t.getLast? = some 10
    · have : (bt (mkB t) ((t.length - 1 : Nat) : Int) != 10) = false := by rw [bne_eq_false_iff_eq]; exact e2.2 h
      rw [this]
      exact good (Or.inr h)
    · have : (bt (mkB t) ((t.length - 1 : Nat) : Int) != 10) = true := by rw [bne_iff_ne]; exact fun e => h (e2.1 e)
      rw [this]
      unfold linesV
      rw [if_neg (fun e => e.elim h0 h)]
      exact ev_step (fun k => by simp only [dancestudioref06_Lines.j0] <;> exact rfl) (ev_pos (show true = true from rfl) (ev_now _))
end Go.Proofs.YtkcnfbhmjcbgoaaDoor.PAll
