/- What a list of parts is read as, and that the program's reader reads it so. -/
import Derived.Test.YtimikhbnihedkaaDoorZLngNum
import Derived.Test.YtimikhbnihedkaaDoorZMC2
namespace Go.Proofs.YtimikhbnihedkaaDoor.PAll
set_option linter.unusedVariables false
set_option linter.unusedSectionVars false
set_option linter.unusedSimpArgs false
open Go Go.RowKit Go.Proofs.YtimikhbnihedkaaDoorW.PrintWords Go.Proofs.YtimikhbnihedkaaDoorW.PrintLast Go.Proofs.YtimikhbnihedkaaDoorW.PrintMore Go.Proofs.YtimikhbnihedkaaDoor.MathNum Go.Proofs.YtimikhbnihedkaaDoor.EvWords

def hd1 (t : Bs) : Bool := match t with
  | c :: _ => isL c
  | [] => false
def opI (t : Bs) : Int := if wd 7 = t then 7 else if wd 6 = t then 6 else if wd 5 = t then 5 else if wd 4 = t then 4 else if wd 3 = t then 3 else if wd 2 = t then 2 else 0
def numT (t : Bs) : Bool := numOk t && t.all isD
def nmT (t : Bs) : S43 := ⟨1, mkB t, 0, 0⟩
/-- What closes a node: its number, and the parts behind. -/
def clN (op : Int) (ts : List Bs) : Option (Int × List Bs) :=
  if op ≥ 5 then (match ts with
    | m :: t :: r => if m = [44] ∧ numT t = true ∧ r.head? = some [41] then some (numV t, r.tail) else none
    | _ => none)
  else if ts.head? = some [41] then some (0, ts.tail) else none
mutual
def pT : Nat → List Bs → Option ((S43 × Fo) × List Bs)
  | 0, _ => none
  | _ + 1, [] => none
  | n + 1, t :: ts => if hd1 t = true then (if ts.head? = some [40] then (if opI t = 0 then none else (pA n (opI t) ts.tail).bind fun x => (clN (opI t) x.2).bind fun y => some ((⟨opI t, noB, y.1, (x.1.count : Int)⟩, x.1), y.2)) else some ((nmT t, .nil), ts)) else none
def pA : Nat → Int → List Bs → Option (Fo × List Bs)
  | 0, _, _ => none
  | n + 1, op, ts => (pT n ts).bind fun x => if op = 2 ∧ x.2.head? = some [44] then (pA n op x.2.tail).bind fun y => some (.cons x.1.1 x.1.2 y.1, y.2) else some (.cons x.1.1 x.1.2 .nil, x.2)
end
theorem clN_len {op : Int} {ts : List Bs} {y : Int × List Bs} (h : clN op ts = some y) : y.2.length ≤ ts.length := by
  unfold clN at h
  by_cases h5 : op ≥ 5
  · rw [if_pos h5] at h
    match ts, h with
    | m :: t :: r, h =>
      simp only at h
      split at h
      · injection h with h; subst h; simp only [List.length_tail, List.length_cons]; omega
      · cases h
  · rw [if_neg h5] at h
    split at h
    · injection h with h; subst h; simp only [List.length_tail]; omega
    · cases h
theorem pT_len (n : Nat) : (∀ ts x, pT n ts = some x → 1 + x.1.2.flat.length + x.2.length ≤ ts.length ∧ x.1.2.ok ∧ x.1.1.f3 = (x.1.2.count : Int)) ∧ (∀ op ts x, pA n op ts = some x → x.1.flat.length + x.2.length ≤ ts.length ∧ x.1.ok ∧ 1 ≤ x.1.count) := by
  induction n with
  | zero => exact ⟨fun ts x h => by simp [pT] at h, fun op ts x h => by simp [pA] at h⟩
  | succ n ih =>
    constructor
    · intro ts x h
      cases ts with
      | nil => simp [pT] at h
      | cons t ts =>
        simp only [pT] at h
        split at h
        · split at h
          · split at h
            · cases h
            · obtain ⟨u, hu, h⟩ := Option.bind_eq_some_iff.1 h
              obtain ⟨y, hy, h⟩ := Option.bind_eq_some_iff.1 h
              injection h with h; subst h
              obtain ⟨i1, i2, i3⟩ := ih.2 _ _ _ hu
              have := clN_len hy
              rw [List.length_tail] at i1
              rename_i h40 _ _
              have : 1 ≤ ts.length := by cases ts with | nil => cases h40 | cons _ _ => simp
              refine ⟨?_, i2, rfl⟩
              simp only [List.length_cons]; omega
          · injection h with h; subst h
            exact ⟨by simp only [Fo.flat, List.length_nil, List.length_cons]; omega, trivial, rfl⟩
        · cases h
    · intro op ts x h
      simp only [pA] at h
      obtain ⟨u, hu, h⟩ := Option.bind_eq_some_iff.1 h
      obtain ⟨i1, i2, i3⟩ := ih.1 _ _ hu
      split at h
      · obtain ⟨y, hy, h⟩ := Option.bind_eq_some_iff.1 h
        injection h with h; subst h
        obtain ⟨j1, j2, j3⟩ := ih.2 _ _ _ hy
        rw [List.length_tail] at j1
        refine ⟨?_, ⟨i3, i2, j2⟩, by simp only [Fo.count]; omega⟩
        simp only [Fo.flat, List.length_cons, List.length_append]; omega
      · injection h with h; subst h
        refine ⟨?_, ⟨i3, i2, trivial⟩, by simp only [Fo.count]; omega⟩
        simp only [Fo.flat, List.length_cons, List.append_nil]; omega
theorem trees_flatten : ∀ f : Fo, f.trees.flatten = f.flat
  | .nil => rfl
  | .cons s k r => by simp only [Fo.trees, Fo.flat, List.flatten_cons, trees_flatten r, List.cons_append]
theorem toks_len : ∀ (n : Nat) (b : Bs), b.length ≤ n → (toks b).length ≤ b.length := by
  intro n
  induction n with
  | zero =>
    intro b hb
    have : b = [] := List.length_eq_zero_iff.1 (by omega)
    subst this
    rw [toks_nil rfl]; simp
  | succ n ih =>
    intro b hb
    have hs := sp_len b
    cases h : sp b with
    | nil => rw [toks_nil h]; simp
    | cons c r =>
      rw [h, List.length_cons] at hs
      rw [toks_cons h]
      have hd := dw_len isW r
      have i1 := ih (r.dropWhile isW) (by omega)
      have i2 := ih r (by omega)
      split
      · simp only [List.length_cons]; omega
      · split
        · simp only [List.length_cons]; omega
        · simp only [List.length_cons, List.length_nil]; omega
theorem isL_not {c : UInt8} (h : isL c = true) : isD c = false ∧ c ≠ 32 ∧ c ≠ 40 ∧ c ≠ 41 ∧ c ≠ 44 := by
  have h1 : 97 ≤ (c.toNat : Int) ∧ (c.toNat : Int) ≤ 122 := of_decide_eq_true h
  refine ⟨by unfold isD; rw [decide_eq_false_iff_not]; omega, ?_, ?_, ?_, ?_⟩ <;> (intro q; subst q; revert h1; decide)
theorem isW_not {c : UInt8} (h : isW c = true) : c ≠ 32 ∧ c ≠ 40 ∧ c ≠ 41 ∧ c ≠ 44 := by
  refine ⟨?_, ?_, ?_, ?_⟩ <;> (intro q; subst q; revert h; decide)
theorem isD_W {c : UInt8} (h : isD c = true) : isW c = true := by unfold isW; rw [h]; simp
theorem tw_all {p : UInt8 → Bool} : ∀ b : Bs, ∀ c, c ∈ b.takeWhile p → p c = true
  | [], c, h => by cases h
  | x :: b, c, h => by
    by_cases hx : p x = true
    · rw [List.takeWhile_cons_of_pos hx] at h
      rcases List.mem_cons.1 h with rfl | h
      · exact hx
      · exact tw_all b c h
    · rw [List.takeWhile_cons_of_neg hx] at h; cases h
theorem tw_same : ∀ (r : Bs), (r.takeWhile isW).all isD = true → r.takeWhile isD = r.takeWhile isW ∧ r.dropWhile isD = r.dropWhile isW
  | [], _ => ⟨rfl, rfl⟩
  | x :: r, h => by
    by_cases hx : isW x = true
    · rw [List.takeWhile_cons_of_pos hx, List.all_cons, Bool.and_eq_true] at h
      obtain ⟨i1, i2⟩ := tw_same r h.2
      rw [List.takeWhile_cons_of_pos hx, List.takeWhile_cons_of_pos h.1, List.dropWhile_cons_of_pos hx, List.dropWhile_cons_of_pos h.1, i1, i2]
      exact ⟨rfl, rfl⟩
    · have hd : ¬ isD x = true := fun q => hx (isD_W q)
      rw [List.takeWhile_cons_of_neg hx, List.takeWhile_cons_of_neg hd, List.dropWhile_cons_of_neg hx, List.dropWhile_cons_of_neg hd]
      exact ⟨rfl, rfl⟩
theorem tw_other : ∀ (r : Bs), (r.takeWhile isW).all isD = false → ∃ x m, r.dropWhile isD = x :: m ∧ isW x = true
  | [], h => by cases h
  | x :: r, h => by
    by_cases hx : isW x = true
    · by_cases hd : isD x = true
      · rw [List.takeWhile_cons_of_pos hx, List.all_cons, hd, Bool.true_and] at h
        rw [List.dropWhile_cons_of_pos hd]
        exact tw_other r h
      · exact ⟨x, r, by rw [List.dropWhile_cons_of_neg hd], hx⟩
    · rw [List.takeWhile_cons_of_neg hx] at h; cases h
/-- A part that is a number is what the reader reads; else what it reads is not followed by a bracket. -/
theorem num_tok (b : Bs) : (∀ t ts, toks b = t :: ts → numT t = true → (sp b).takeWhile isD = t ∧ toks ((sp b).dropWhile isD) = ts) ∧
    ((∀ t ts, toks b = t :: ts → numT t = false) → numOk ((sp b).takeWhile isD) = true → ∀ r, sp ((sp b).dropWhile isD) ≠ 41 :: r) := by
  cases hb : sp b with
  | nil =>
    constructor
    · intro t ts h; rw [toks_nil hb] at h; cases h
    · intro _ h; cases h
  | cons c r =>
    by_cases hD : isD c = true
    · have ht := toks_word hb (.inr hD)
      rw [List.takeWhile_cons_of_pos hD, List.dropWhile_cons_of_pos hD]
      constructor
      · intro t ts h hn
        rw [ht] at h
        injection h with h1 h2
        subst h1 h2
        unfold numT at hn
        rw [Bool.and_eq_true, List.all_cons, Bool.and_eq_true] at hn
        obtain ⟨i1, i2⟩ := tw_same r hn.2.2
        rw [i1, i2]; exact ⟨rfl, rfl⟩
      · intro h hok q hq
        have hn := h _ _ ht
        by_cases ha : (r.takeWhile isW).all isD = true
        · obtain ⟨i1, i2⟩ := tw_same r ha
          unfold numT at hn
          rw [List.all_cons, hD, ha, ← i1, hok] at hn; cases hn
        · obtain ⟨x, m, hx, hw⟩ := tw_other r (by simpa using ha)
          have w := isW_not hw
          rw [hx, sp_cons w.1] at hq
          injection hq with hq _
          exact w.2.2.1 hq
    · rw [List.takeWhile_cons_of_neg hD]
      constructor
      · intro t ts h hn
        unfold numT at hn
        rw [Bool.and_eq_true] at hn
        by_cases hL : isL c = true
        · rw [toks_word hb (.inl hL)] at h
          injection h with h1 _
          subst h1
          rw [List.all_cons, Bool.and_eq_true] at hn
          exact absurd hn.2.1 hD
        · rw [toks_cons hb, if_neg (fun q => q.elim hL hD)] at h
          split at h
          · injection h with h1 _
            subst h1
            rw [List.all_cons, Bool.and_eq_true] at hn
            exact absurd hn.2.1 hD
          · injection h with h1 _
            subst h1
            cases hn.1
      · intro _ h; cases h
/-! ### the program -/
section
variable (l : Bs) (hl : l.length ≤ 100000)
include hl
theorem head_mark {at_ : Nat} {m : UInt8} (hm : m = 40 ∨ m = 41 ∨ m = 44) : ((toks (l.drop at_)).head? = some [m] → ∃ r, sp (l.drop at_) = m :: r ∧ toks r = (toks (l.drop at_)).tail) ∧ ((toks (l.drop at_)).head? ≠ some [m] → ∀ r, sp (l.drop at_) ≠ m :: r) := by
  constructor
  · intro h
    cases ht : toks (l.drop at_) with
    | nil => rw [ht] at h; cases h
    | cons t ts =>
      rw [ht] at h
      injection h with h; subst h
      obtain ⟨r, h1, h2⟩ := (toks_mark_iff hm).1 ht
      exact ⟨r, h1, h2.symm⟩
  · intro h r hr
    rw [toks_mark hr hm] at h
    exact h rfl
abbrev FJ3 (op : Int) (L : List (List S43)) (a : Nat) := fun k => lang_reader_expr.j3 k op L (mkB l) (a : Int)
abbrev PJ3 (op : Int) (L : List (List S43)) (a : Nat) := fun k => lang_reader_expr.pj3 k op L (mkB l) (a : Int)
theorem numbered_ev (op : Int) : lang_numbered.f op = some (decide (op ≥ 5)) := rfl
/-- The end of a node. -/
theorem j3_yes {op : Int} {L : List (List S43)} (hL : L.length ≤ 5000) (hf : L.flatten.length ≤ 100000) {a : Nat} (ha : a ≤ l.length) {y : Int × List Bs} (h : clN op (toks (l.drop a)) = some y) :
    ∃ a' : Nat, a' ≤ l.length ∧ toks (l.drop a') = y.2 ∧ Ev (fun k => lang_reader_expr.j3 k op L (mkB l) (a : Int)) ((⟨op, noB, y.1, (L.length : Int)⟩ : S43) :: L.flatten, mkB l, (a' : Int)) := by
  unfold clN at h
  by_cases h5 : op ≥ 5
  · rw [if_pos h5] at h
    cases ht : toks (l.drop a) with
    | nil => rw [ht] at h; cases h
    | cons m ts =>
      cases ts with
      | nil => rw [ht] at h; cases h
      | cons t r =>
        rw [ht] at h
        simp only at h
        split at h
        · rename_i hc
          obtain ⟨c1, c2, c3⟩ := hc
          injection h with h; subst h c1
          obtain ⟨r1, e1, e2⟩ := (toks_mark_iff (.inr (.inr rfl))).1 ht
          obtain ⟨a1, g1, g2, ev1⟩ := must_yes l hl ha e1
          obtain ⟨a2, g3, g4, ny, _⟩ := number_ev l hl g1
          rw [g2] at g4 ny
          obtain ⟨n1, n2⟩ := (num_tok r1).1 t r e2.symm c2
          have hok : numOk t = true := by unfold numT at c2; rw [Bool.and_eq_true] at c2; exact c2.1
          rw [n1] at ny
          rw [← g4] at n2
          obtain ⟨r3, e3, e4⟩ := (head_mark l hl (at_ := a2) (.inr (.inl rfl))).1 (by rw [n2]; exact c3)
          obtain ⟨a3, g5, g6, ev3⟩ := must_yes l hl g3 e3
          refine ⟨a3, g5, by rw [g6, e4, n2], ?_⟩
          refine ev_step (fun k => by simp only [lang_reader_expr.j3] <;> exact rfl) ?_
          rw [numbered_ev l hl]; simp only [Option.bind_some]
          refine ev_pos (decide_eq_true h5) (Ev.bind ev1 (Ev.bind (ny hok) (Ev.bind ev3 (Ev.bind (tree_ev op (⟨#[]⟩ : ByteArray) (numV t) 0 L hL hf) (ev_now _)))))
        · cases h
  · rw [if_neg h5] at h
    split at h
    · rename_i hc
      injection h with h; subst h
      obtain ⟨r1, e1, e2⟩ := (head_mark l hl (at_ := a) (.inr (.inl rfl))).1 hc
      obtain ⟨a1, g1, g2, ev1⟩ := must_yes l hl ha e1
      refine ⟨a1, g1, by rw [g2, e2], ?_⟩
      refine ev_step (fun k => by simp only [lang_reader_expr.j3] <;> exact rfl) ?_
      rw [numbered_ev l hl]; simp only [Option.bind_some]
      exact ev_neg (by rw [decide_eq_true_iff]; exact h5) (Ev.bind ev1 (Ev.bind (tree_ev op (⟨#[]⟩ : ByteArray) 0 0 L hL hf) (ev_now _)))
    · cases h
theorem j3_no {op : Int} {L : List (List S43)} {a : Nat} (ha : a ≤ l.length) (h : clN op (toks (l.drop a)) = none) : Dies (fun k => lang_reader_expr.j3 k op L (mkB l) (a : Int)) (fun k => lang_reader_expr.pj3 k op L (mkB l) (a : Int)) := by
  unfold clN at h
  by_cases h5 : op ≥ 5
  · rw [if_pos h5] at h
    by_cases h44 : (toks (l.drop a)).head? = some [44]
    · obtain ⟨r1, e1, e2⟩ := (head_mark l hl (at_ := a) (.inr (.inr rfl))).1 h44
      obtain ⟨a1, g1, g2, ev1⟩ := must_yes l hl ha e1
      obtain ⟨a2, g3, g4, ny, nn⟩ := number_ev l hl g1
      rw [g2] at g4 ny nn
      by_cases hok : numOk ((sp r1).takeWhile isD) = true
      · have nx : ∀ r, sp (l.drop a2) ≠ 41 :: r := by
          rw [g4]
          by_cases hn : ∃ t ts, toks r1 = t :: ts ∧ numT t = true
          · obtain ⟨t, ts, q1, q2⟩ := hn
            obtain ⟨n1, n2⟩ := (num_tok r1).1 t ts q1 q2
            intro r hr
            have hm := toks_mark hr (.inr (.inl rfl))
            rw [n2] at hm
            cases ht : toks (l.drop a) with
            | nil => rw [ht] at h44; cases h44
            | cons m tt =>
              rw [ht] at h h44 e2
              injection h44 with h44; subst h44
              simp only [List.tail_cons] at e2
              rw [← e2, q1] at h
              simp only [q2, hm, List.head?_cons, and_self, if_true] at h
              cases h
          · exact (num_tok r1).2 (fun t ts q => by
              cases hq : numT t with
              | false => rfl
              | true => exact absurd ⟨t, ts, q, hq⟩ hn) hok
        obtain ⟨d1, d2⟩ := must_no l hl g3 (c := 41) nx
        constructor
        · refine nv_step (fun k => by simp only [lang_reader_expr.j3] <;> exact rfl) ?_
          rw [numbered_ev l hl]; simp only [Option.bind_some]
          exact nv_pos (decide_eq_true h5) (Nv.bind ev1 (Nv.bind (ny hok) (Nv.left d1)))
        · refine ev_step (fun k => by simp only [lang_reader_expr.pj3] <;> exact rfl) ?_
          rw [numbered_ev l hl]; simp only [Option.bind_some]
          exact ev_pos (decide_eq_true h5) (or_left ev1 (or_left (ny hok) (or_right d1 d2)))
      · obtain ⟨d1, d2⟩ := nn (by simpa using hok)
        constructor
        · refine nv_step (fun k => by simp only [lang_reader_expr.j3] <;> exact rfl) ?_
          rw [numbered_ev l hl]; simp only [Option.bind_some]
          exact nv_pos (decide_eq_true h5) (Nv.bind ev1 (Nv.left d1))
        · refine ev_step (fun k => by simp only [lang_reader_expr.pj3] <;> exact rfl) ?_
          rw [numbered_ev l hl]; simp only [Option.bind_some]
          exact ev_pos (decide_eq_true h5) (or_left ev1 (or_right d1 d2))
    · obtain ⟨d1, d2⟩ := must_no l hl ha (c := 44) ((head_mark l hl (at_ := a) (.inr (.inr rfl))).2 h44)
      constructor
      · refine nv_step (fun k => by simp only [lang_reader_expr.j3] <;> exact rfl) ?_
        rw [numbered_ev l hl]; simp only [Option.bind_some]
        exact nv_pos (decide_eq_true h5) (Nv.left d1)
      · refine ev_step (fun k => by simp only [lang_reader_expr.pj3] <;> exact rfl) ?_
        rw [numbered_ev l hl]; simp only [Option.bind_some]
        exact ev_pos (decide_eq_true h5) (or_right d1 d2)
  · rw [if_neg h5] at h
    have h41 : (toks (l.drop a)).head? ≠ some [41] := fun q => by rw [if_pos q] at h; cases h
    obtain ⟨d1, d2⟩ := must_no l hl ha (c := 41) ((head_mark l hl (at_ := a) (.inr (.inl rfl))).2 h41)
    constructor
    · refine nv_step (fun k => by simp only [lang_reader_expr.j3] <;> exact rfl) ?_
      rw [numbered_ev l hl]; simp only [Option.bind_some]
      exact nv_neg (by rw [decide_eq_true_iff]; exact h5) (Nv.left d1)
    · refine ev_step (fun k => by simp only [lang_reader_expr.pj3] <;> exact rfl) ?_
      rw [numbered_ev l hl]; simp only [Option.bind_some]
      exact ev_neg (by rw [decide_eq_true_iff]; exact h5) (or_right d1 d2)
theorem op_step (s : ByteArray) (a : Int) (t : Bs) (x4 o : Int) (h : o ≤ 7) (h2 : 2 ≤ o) (k : Nat) :
    lang_reader_expr.l0 (k + 1) (mkB t) x4 o s a = lang_reader_expr.l0 k (mkB t) (if wd o = t then o else x4) (o + 1) s a ∧
    lang_reader_expr.pl0 (k + 1) (mkB t) x4 o s a = lang_reader_expr.pl0 k (mkB t) (if wd o = t then o else x4) (o + 1) s a := by
  have ew : wrap64 (o + 1) = o + 1 := w64 (by omega) (by omega)
  have e1 : (mkB (wd o)).toList = wd o := toList_mk _
  have e2 : (mkB t).toList = t := toList_mk _
  constructor
  · simp only [lang_reader_expr.l0]
    rw [if_pos h, pword_ev]; simp only [Option.bind_some]
    rw [e1, e2, ew]
    split <;> rfl
  · simp only [lang_reader_expr.pl0]
    rw [if_pos h, pword_ev]; simp only [Option.bind_some]
    rw [e1, e2, ew]
    split <;> rfl
theorem op_loop (s : ByteArray) (a : Int) (t : Bs) (k : Nat) :
    lang_reader_expr.l0 (k + 6) (mkB t) 0 2 s a = lang_reader_expr.l0 k (mkB t) (opI t) 8 s a ∧ lang_reader_expr.pl0 (k + 6) (mkB t) 0 2 s a = lang_reader_expr.pl0 k (mkB t) (opI t) 8 s a := by
  have A := fun x4 o h h2 k => op_step l hl s a t x4 o h h2 k
  constructor
  · rw [(A 0 2 (by decide) (by decide) (k + 5)).1, (A _ (2 + 1) (by decide) (by decide) (k + 4)).1, (A _ (2 + 1 + 1) (by decide) (by decide) (k + 3)).1, (A _ (2 + 1 + 1 + 1) (by decide) (by decide) (k + 2)).1, (A _ (2 + 1 + 1 + 1 + 1) (by decide) (by decide) (k + 1)).1, (A _ (2 + 1 + 1 + 1 + 1 + 1) (by decide) (by decide) k).1]
    rfl
  · rw [(A 0 2 (by decide) (by decide) (k + 5)).2, (A _ (2 + 1) (by decide) (by decide) (k + 4)).2, (A _ (2 + 1 + 1) (by decide) (by decide) (k + 3)).2, (A _ (2 + 1 + 1 + 1) (by decide) (by decide) (k + 2)).2, (A _ (2 + 1 + 1 + 1 + 1) (by decide) (by decide) (k + 1)).2, (A _ (2 + 1 + 1 + 1 + 1 + 1) (by decide) (by decide) k).2]
    rfl
/-- What the reader does at a place: it reads what the parts say, or dies, or stops ahead of a bracket. -/
def OutE (n : Nat) (a : Nat) : Prop :=
  (∀ x, pT n (toks (l.drop a)) = some x → ∃ a' : Nat, a' ≤ l.length ∧ toks (l.drop a') = x.2 ∧ Ev (fun k => lang_reader_expr.f k (mkB l) (a : Int)) (x.1.1 :: x.1.2.flat, mkB l, (a' : Int))) ∧
  (pT n (toks (l.drop a)) = none → Dies (fun k => lang_reader_expr.f k (mkB l) (a : Int)) (fun k => lang_reader_expr.p k (mkB l) (a : Int)) ∨ ∃ (e : List S43) (a' : Nat), a' ≤ l.length ∧ (toks (l.drop a')).head? = some [40] ∧ Ev (fun k => lang_reader_expr.f k (mkB l) (a : Int)) (e, mkB l, (a' : Int)))
abbrev XF (op : Int) (L : List (List S43)) (a : Nat) : Nat → Option (List S43 × ByteArray × Int) := fun k => (lang_reader_expr.f k (mkB l) (a : Int)).bind fun bt => lang_reader_expr.l1 k op (L ++ [bt.1]) bt.2.1 bt.2.2
abbrev XP (op : Int) (L : List (List S43)) (a : Nat) : Nat → Option Unit := fun k => or_ (lang_reader_expr.f k (mkB l) (a : Int)) (fun bt => lang_reader_expr.pl1 k op (L ++ [bt.1]) bt.2.1 bt.2.2) (lang_reader_expr.p k (mkB l) (a : Int))
def resA (n : Nat) (op : Int) (ts : List Bs) : Option (Fo × Int × List Bs) := (pA n op ts).bind fun y => (clN op y.2).bind fun z => some (y.1, z)
def OutA (n : Nat) (op : Int) (L : List (List S43)) (a : Nat) : Prop :=
  (∀ x, resA n op (toks (l.drop a)) = some x → ∃ a' : Nat, a' ≤ l.length ∧ toks (l.drop a') = x.2.2 ∧ Ev (XF l op L a) ((⟨op, noB, x.2.1, ((L.length + x.1.count : Nat) : Int)⟩ : S43) :: (L.flatten ++ x.1.flat), mkB l, (a' : Int))) ∧
  (resA n op (toks (l.drop a)) = none → Dies (XF l op L a) (XP l op L a))
/-- What follows an argument. -/
theorem l1_out (n : Nat) {op : Int} {L : List (List S43)} {e : List S43} {a1 : Nat} (h1 : a1 ≤ l.length) (hL : L.length + 1 + (toks (l.drop a1)).length ≤ 5000) (hf : (L.flatten ++ e).length + (toks (l.drop a1)).length ≤ 100000)
    (rec_ : op = 2 → ∀ a2 : Nat, a2 ≤ l.length → toks (l.drop a2) = (toks (l.drop a1)).tail → (toks (l.drop a1)).head? = some [44] → OutA l n op (L ++ [e]) a2) :
    (op = 2 ∧ (toks (l.drop a1)).head? = some [44] →
      (∀ x, resA n op (toks (l.drop a1)).tail = some x → ∃ a' : Nat, a' ≤ l.length ∧ toks (l.drop a') = x.2.2 ∧ Ev (fun k => lang_reader_expr.l1 k op (L ++ [e]) (mkB l) (a1 : Int)) ((⟨op, noB, x.2.1, ((L.length + 1 + x.1.count : Nat) : Int)⟩ : S43) :: ((L.flatten ++ e) ++ x.1.flat), mkB l, (a' : Int))) ∧
      (resA n op (toks (l.drop a1)).tail = none → Nv (fun k => lang_reader_expr.l1 k op (L ++ [e]) (mkB l) (a1 : Int)) ∧ Ev (fun k => lang_reader_expr.pl1 k op (L ++ [e]) (mkB l) (a1 : Int)) ())) ∧
    (¬ (op = 2 ∧ (toks (l.drop a1)).head? = some [44]) →
      (∀ z, clN op (toks (l.drop a1)) = some z → ∃ a' : Nat, a' ≤ l.length ∧ toks (l.drop a') = z.2 ∧ Ev (fun k => lang_reader_expr.l1 k op (L ++ [e]) (mkB l) (a1 : Int)) ((⟨op, noB, z.1, ((L.length + 1 : Nat) : Int)⟩ : S43) :: (L.flatten ++ e), mkB l, (a' : Int))) ∧
      (clN op (toks (l.drop a1)) = none → Nv (fun k => lang_reader_expr.l1 k op (L ++ [e]) (mkB l) (a1 : Int)) ∧ Ev (fun k => lang_reader_expr.pl1 k op (L ++ [e]) (mkB l) (a1 : Int)) ())) := by
  have e44 : (((44 : UInt8).toNat : Nat) : Int) = 44 := rfl
  have el : (L ++ [e]).length = L.length + 1 := by simp
  have ef : (L ++ [e]).flatten = L.flatten ++ e := by simp
  constructor
  · rintro ⟨h2, h44⟩
    obtain ⟨r1, e1, e2⟩ := (head_mark l hl (at_ := a1) (.inr (.inr rfl))).1 h44
    obtain ⟨a2, g1, g2, ev⟩ := is_yes l hl h1 e1
    rw [e44] at ev
    have e2' : toks (l.drop a2) = (toks (l.drop a1)).tail := by rw [g2, e2]
    obtain ⟨o1, o2⟩ := rec_ h2 a2 g1 e2' h44
    rw [e2'] at o1 o2
    constructor
    · intro x hx
      obtain ⟨a', q1, q2, q3⟩ := o1 x hx
      refine ⟨a', q1, q2, ?_⟩
      rw [el, ef] at q3
      refine ev_step (fun k => by simp only [lang_reader_expr.l1] <;> exact rfl) (ev_pos h2 (Ev.bind ev (ev_pos (show true = true from rfl) ?_)))
      obtain ⟨K, hK⟩ := q3
      refine ⟨K, fun k hk => ?_⟩
      have := hK k hk
      show ((lang_reader_expr.f k (mkB l) (a2 : Int)).bind fun bt212 => if (L ++ [e]).length < 5864062014805 then lang_reader_expr.l1 k op (L ++ [e] ++ [bt212.1]) bt212.2.1 bt212.2.2 else none) = _
      rw [← this]
      congr 1
      funext bt
      rw [if_pos (by rw [el]; omega)]
    · intro hx
      obtain ⟨⟨K, hK⟩, ⟨K2, hK2⟩⟩ := o2 hx
      constructor
      · refine nv_step (fun k => by simp only [lang_reader_expr.l1] <;> exact rfl) (nv_pos h2 (Nv.bind ev (nv_pos (show true = true from rfl) ⟨K, fun k hk => ?_⟩)))
        have := hK k hk
        show ((lang_reader_expr.f k (mkB l) (a2 : Int)).bind fun bt212 => if (L ++ [e]).length < 5864062014805 then lang_reader_expr.l1 k op (L ++ [e] ++ [bt212.1]) bt212.2.1 bt212.2.2 else none) = _
        rw [← this]
        congr 1
        funext bt
        rw [if_pos (by rw [el]; omega)]
      · refine ev_step (fun k => by simp only [lang_reader_expr.pl1] <;> exact rfl) (ev_pos h2 (Ev.bind ev (ev_pos (show true = true from rfl) ⟨K2, fun k hk => ?_⟩)))
        have := hK2 k hk
        show or_ (lang_reader_expr.f k (mkB l) (a2 : Int)) (fun bt212 => if (L ++ [e]).length < 5864062014805 then lang_reader_expr.pl1 k op (L ++ [e] ++ [bt212.1]) bt212.2.1 bt212.2.2 else none) (lang_reader_expr.p k (mkB l) (a2 : Int)) = _
        rw [← this]
        congr 1
        funext bt
        rw [if_pos (by rw [el]; omega)]
  · intro hno
    by_cases h2 : op = 2
    · have h44 : (toks (l.drop a1)).head? ≠ some [44] := fun q => hno ⟨h2, q⟩
      obtain ⟨a2, g1, g2, ev⟩ := is_no l hl h1 ((head_mark l hl (at_ := a1) (m := 44) (.inr (.inr rfl))).2 h44)
      rw [e44] at ev
      have e2 : toks (l.drop a2) = toks (l.drop a1) := by rw [g2, toks_sp]
      constructor
      · intro z hz
        rw [← e2] at hz
        obtain ⟨a', q1, q2, q3⟩ := j3_yes l hl (L := L ++ [e]) (by rw [el]; omega) (by rw [ef]; omega) g1 hz
        rw [el, ef] at q3
        exact ⟨a', q1, q2, ev_step (fun k => by simp only [lang_reader_expr.l1] <;> exact rfl) (ev_pos h2 (Ev.bind ev (ev_neg (show ¬ false = true from fun q => by cases q) q3)))⟩
      · intro hz
        rw [← e2] at hz
        obtain ⟨d1, d2⟩ := j3_no l hl (L := L ++ [e]) g1 hz
        exact ⟨nv_step (fun k => by simp only [lang_reader_expr.l1] <;> exact rfl) (nv_pos h2 (Nv.bind ev (nv_neg (show ¬ false = true from fun q => by cases q) d1))), ev_step (fun k => by simp only [lang_reader_expr.pl1] <;> exact rfl) (ev_pos h2 (Ev.bind ev (ev_neg (show ¬ false = true from fun q => by cases q) d2)))⟩
    · constructor
      · intro z hz
        obtain ⟨a', q1, q2, q3⟩ := j3_yes l hl (L := L ++ [e]) (by rw [el]; omega) (by rw [ef]; omega) h1 hz
        rw [el, ef] at q3
        exact ⟨a', q1, q2, ev_step (fun k => by simp only [lang_reader_expr.l1] <;> exact rfl) (ev_neg h2 q3)⟩
      · intro hz
        obtain ⟨d1, d2⟩ := j3_no l hl (L := L ++ [e]) h1 hz
        exact ⟨nv_step (fun k => by simp only [lang_reader_expr.l1] <;> exact rfl) (nv_neg h2 d1), ev_step (fun k => by simp only [lang_reader_expr.pl1] <;> exact rfl) (ev_neg h2 d2)⟩
end
end Go.Proofs.YtimikhbnihedkaaDoor.PAll
