/- The program reads a text as its parts are read. -/
import Derived.Test.YtimikhbnihedkaaDoorZLngParse
import Derived.Test.YtimikhbnihedkaaDoorZMC2
namespace Go.Proofs.YtimikhbnihedkaaDoor.PAll
set_option linter.unusedVariables false
set_option linter.unusedSectionVars false
set_option linter.unusedSimpArgs false
open Go Go.RowKit Go.Proofs.YtimikhbnihedkaaDoorW.PrintWords Go.Proofs.YtimikhbnihedkaaDoorW.PrintLast Go.Proofs.YtimikhbnihedkaaDoorW.PrintMore Go.Proofs.YtimikhbnihedkaaDoor.MathNum Go.Proofs.YtimikhbnihedkaaDoor.EvWords

theorem toks_hd {b : Bs} {t : Bs} {ts : List Bs} (h : toks b = t :: ts) (ht : hd1 t = true) : ∃ c r, sp b = c :: r ∧ isL c = true ∧ t = c :: r.takeWhile isW ∧ ts = toks (r.dropWhile isW) := by
  cases hb : sp b with
  | nil => rw [toks_nil hb] at h; cases h
  | cons c r =>
    by_cases hL : isL c = true
    · rw [toks_word hb (.inl hL)] at h
      injection h with h1 h2
      exact ⟨c, r, rfl, hL, h1.symm, h2.symm⟩
    · rw [toks_cons hb] at h
      split at h
      · injection h with h1 h2
        subst h1
        exact absurd ht hL
      · split at h
        · injection h with h1 h2
          subst h1
          exact absurd ht hL
        · injection h with h1 h2
          subst h1; cases ht
theorem toks_empty {b : Bs} : toks b = [] ↔ sp b = [] := by
  constructor
  · intro h
    cases hb : sp b with
    | nil => rfl
    | cons c r =>
      rw [toks_cons hb] at h
      split at h
      · cases h
      · split at h <;> cases h
  · exact toks_nil
theorem hd1_not {b : Bs} (h : ∀ t ts, toks b = t :: ts → hd1 t = false) : ∀ c r, sp b = c :: r → isL c = false := by
  intro c r hb
  by_cases hL : isL c = true
  · have := h _ _ (toks_word hb (.inl hL))
    rw [show hd1 (c :: r.takeWhile isW) = isL c from rfl, hL] at this; cases this
  · simpa using hL
section
variable (l : Bs) (hl : l.length ≤ 100000)
include hl
theorem exprDies {a : Nat} (ha : a ≤ l.length) (h : ∀ c r, sp (l.drop a) = c :: r → isL c = false) : Dies (fun k => lang_reader_expr.f k (mkB l) (a : Int)) (fun k => lang_reader_expr.p k (mkB l) (a : Int)) := by
  obtain ⟨d1, d2⟩ := word_no l hl ha h
  exact ⟨nv_step (fun k => by simp only [lang_reader_expr.f] <;> exact rfl) (Nv.left d1), ev_step (fun k => by simp only [lang_reader_expr.p] <;> exact rfl) (or_right d1 d2)⟩
/-- What the reader does once a word is read. -/
theorem expr_word {a a1 : Nat} {t : Bs} (h1 : a1 ≤ l.length) (ev : Ev (fun k => lang_reader_word.f k (mkB l) (a : Int)) (mkB t, mkB l, (a1 : Int))) :
    (opI t = 0 → Ev (fun k => lang_reader_expr.f k (mkB l) (a : Int)) ([nmT t], mkB l, (a1 : Int))) ∧
    (opI t ≠ 0 → (toks (l.drop a1)).head? ≠ some [40] → ∃ a2 : Nat, a2 ≤ l.length ∧ toks (l.drop a2) = toks (l.drop a1) ∧ Ev (fun k => lang_reader_expr.f k (mkB l) (a : Int)) ([nmT t], mkB l, (a2 : Int))) ∧
    (opI t ≠ 0 → (toks (l.drop a1)).head? = some [40] → ∃ a2 : Nat, a2 ≤ l.length ∧ toks (l.drop a2) = (toks (l.drop a1)).tail ∧
      (∀ v, Ev (XF l (opI t) [] a2) v → Ev (fun k => lang_reader_expr.f k (mkB l) (a : Int)) v) ∧ (Dies (XF l (opI t) [] a2) (XP l (opI t) [] a2) → Dies (fun k => lang_reader_expr.f k (mkB l) (a : Int)) (fun k => lang_reader_expr.p k (mkB l) (a : Int)))) := by
  have e40 : (((40 : UInt8).toNat : Nat) : Int) = 40 := rfl
  have h8 : ¬ ((8 : Int) ≤ 7) := by decide
  have nm : ∀ x : Nat, Ev (fun k => lang_reader_expr.j1 k (mkB t) (opI t) true (mkB l) (x : Int)) ([nmT t], mkB l, (x : Int)) := fun x =>
    ev_step (fun k => by simp only [lang_reader_expr.j1] <;> exact rfl) (ev_pos (show true = true from rfl) (Ev.bind (tree_ev 1 (mkB t) 0 0 [] (by simp) (by simp)) (ev_now _)))
  have up : ∀ v, Ev (fun k => lang_reader_expr.l0 k (mkB t) (opI t) 8 (mkB l) (a1 : Int)) v → Ev (fun k => lang_reader_expr.f k (mkB l) (a : Int)) v := fun v e =>
    ev_step (fun k => by simp only [lang_reader_expr.f] <;> exact rfl) (Ev.bind ev (ev_shift 6 (fun k => (op_loop l hl (mkB l) (a1 : Int) t k).1) e))
  have upn : Nv (fun k => lang_reader_expr.l0 k (mkB t) (opI t) 8 (mkB l) (a1 : Int)) → Nv (fun k => lang_reader_expr.f k (mkB l) (a : Int)) := fun e =>
    nv_step (fun k => by simp only [lang_reader_expr.f] <;> exact rfl) (Nv.bind ev (nv_shift 6 (fun k => (op_loop l hl (mkB l) (a1 : Int) t k).1) e))
  have upp : Ev (fun k => lang_reader_expr.pl0 k (mkB t) (opI t) 8 (mkB l) (a1 : Int)) () → Ev (fun k => lang_reader_expr.p k (mkB l) (a : Int)) () := fun e =>
    ev_step (fun k => by simp only [lang_reader_expr.p] <;> exact rfl) (or_left ev (ev_shift 6 (fun k => (op_loop l hl (mkB l) (a1 : Int) t k).2) e))
  refine ⟨fun h0 => up _ (ev_step (fun k => by simp only [lang_reader_expr.l0] <;> exact rfl) (ev_neg h8 (ev_pos h0 (nm a1)))), fun h0 hd => ?_, fun h0 hd => ?_⟩
  · obtain ⟨a2, g1, g2, ei⟩ := is_no l hl h1 ((head_mark l hl (at_ := a1) (m := 40) (.inl rfl)).2 hd)
    rw [e40] at ei
    refine ⟨a2, g1, by rw [g2, toks_sp], up _ (ev_step (fun k => by simp only [lang_reader_expr.l0] <;> exact rfl) (ev_neg h8 (ev_neg h0 (Ev.bind ei ?_))))⟩
    exact nm a2
  · obtain ⟨r1, e1, e2⟩ := (head_mark l hl (at_ := a1) (.inl rfl)).1 hd
    obtain ⟨a2, g1, g2, ei⟩ := is_yes l hl h1 e1
    rw [e40] at ei
    have hf : ¬ (!true) = true := by decide
    refine ⟨a2, g1, by rw [g2, e2], fun v hv => up _ (ev_step (fun k => by simp only [lang_reader_expr.l0] <;> exact rfl) (ev_neg h8 (ev_neg h0 (Ev.bind ei ?_)))), fun hd => ⟨upn (nv_step (fun k => by simp only [lang_reader_expr.l0] <;> exact rfl) (nv_neg h8 (nv_neg h0 (Nv.bind ei ?_)))), upp (ev_step (fun k => by simp only [lang_reader_expr.pl0] <;> exact rfl) (ev_neg h8 (ev_neg h0 (Ev.bind ei ?_))))⟩⟩
    · exact ev_step (fun k => by simp only [lang_reader_expr.j1] <;> exact rfl) (ev_neg hf hv)
    · exact nv_step (fun k => by simp only [lang_reader_expr.j1] <;> exact rfl) (nv_neg hf hd.1)
    · exact ev_step (fun k => by simp only [lang_reader_expr.pj1] <;> exact rfl) (ev_neg hf hd.2)
/-- As 'OutE', with the nodes read ahead of a bracket bounded. -/
def OutE1 (n : Nat) (a : Nat) : Prop :=
  (∀ x, pT n (toks (l.drop a)) = some x → ∃ a' : Nat, a' ≤ l.length ∧ toks (l.drop a') = x.2 ∧ Ev (fun k => lang_reader_expr.f k (mkB l) (a : Int)) (x.1.1 :: x.1.2.flat, mkB l, (a' : Int))) ∧
  (pT n (toks (l.drop a)) = none → Dies (fun k => lang_reader_expr.f k (mkB l) (a : Int)) (fun k => lang_reader_expr.p k (mkB l) (a : Int)) ∨ ∃ (e : List S43) (a' : Nat), e.length = 1 ∧ a' ≤ l.length ∧ (toks (l.drop a')).head? = some [40] ∧ (toks (l.drop a')).length ≤ (toks (l.drop a)).length ∧ Ev (fun k => lang_reader_expr.f k (mkB l) (a : Int)) (e, mkB l, (a' : Int)))
theorem read_main (hl2 : l.length ≤ 2000) (n : Nat) : (∀ a : Nat, a ≤ l.length → 2 * (toks (l.drop a)).length + 1 ≤ n → OutE1 l n a) ∧
    (∀ (op : Int) (L : List (List S43)) (a : Nat), a ≤ l.length → 2 * (toks (l.drop a)).length + 2 ≤ n → L.length + (toks (l.drop a)).length ≤ 4000 → L.flatten.length + (toks (l.drop a)).length ≤ 90000 → OutA l n op L a) := by
  induction n with
  | zero => exact ⟨fun a _ h => by omega, fun op L a _ h => by omega⟩
  | succ n ih =>
    constructor
    · intro a ha hn
      unfold OutE1
      cases ht : toks (l.drop a) with
      | nil =>
        refine ⟨fun x hx => (by simp [pT] at hx), fun _ => .inl (exprDies l hl ha (fun c r h => ?_))⟩
        rw [toks_empty] at ht; rw [ht] at h; cases h
      | cons t ts =>
        by_cases hd : hd1 t = true
        · obtain ⟨c, r, e1, e2, e3, e4⟩ := toks_hd ht hd
          obtain ⟨a1, g1, g2, ev⟩ := word_yes l hl ha e1 e2
          rw [← e3] at ev
          have et : toks (l.drop a1) = ts := by rw [g2, e4]
          obtain ⟨w0, w1, w2⟩ := expr_word l hl g1 ev
          rw [et] at w1 w2
          simp only [pT]
          rw [if_pos hd]
          by_cases h40 : ts.head? = some [40]
          · rw [if_pos h40]
            by_cases h0 : opI t = 0
            · rw [if_pos h0]
              exact ⟨fun x hx => (by cases hx), fun _ => .inr ⟨_, a1, rfl, g1, by rw [et]; exact h40, by rw [et]; simp only [List.length_cons]; omega, w0 h0⟩⟩
            · rw [if_neg h0]
              obtain ⟨a2, g3, g4, u1, u2⟩ := w2 h0 h40
              rw [ht] at hn
              simp only [List.length_cons] at hn
              have hne : 1 ≤ ts.length := by cases ts with | nil => cases h40 | cons _ _ => simp
              have htl : (toks (l.drop a2)).length + 1 = ts.length := by rw [g4, List.length_tail]; omega
              have hb := toks_len _ (l.drop a) (Nat.le_refl _)
              rw [ht, List.length_drop, List.length_cons] at hb
              obtain ⟨o1, o2⟩ := ih.2 (opI t) [] a2 g3 (by omega) (by simp only [List.length_nil]; omega) (by simp only [List.flatten_nil, List.length_nil]; omega)
              rw [g4] at o1 o2
              have hres : ((pA n (opI t) ts.tail).bind fun x => (clN (opI t) x.2).bind fun y => some ((⟨opI t, noB, y.1, (x.1.count : Int)⟩, x.1), y.2)) = (resA n (opI t) ts.tail).map fun u => (((⟨opI t, noB, u.2.1, (u.1.count : Int)⟩ : S43), u.1), u.2.2) := by
                unfold resA
                cases pA n (opI t) ts.tail with
                | none => rfl
                | some x =>
                  simp only [Option.bind_some]
                  cases clN (opI t) x.2 with
                  | none => rfl
                  | some y => rfl
              rw [hres]
              cases hr : resA n (opI t) ts.tail with
              | none => exact ⟨fun x hx => (by cases hx), fun _ => .inl (u2 (o2 hr))⟩
              | some u =>
                refine ⟨fun x hx => ?_, fun hx => by cases hx⟩
                obtain ⟨a', q1, q2, q3⟩ := o1 u hr
                simp only [Option.map_some] at hx
                injection hx with hx; subst hx
                refine ⟨a', q1, q2, u1 _ ?_⟩
                simp only [List.length_nil, Nat.zero_add, List.flatten_nil, List.nil_append] at q3
                exact q3
          · rw [if_neg h40]
            refine ⟨fun x hx => ?_, fun hx => by cases hx⟩
            injection hx with hx; subst hx
            by_cases h0 : opI t = 0
            · exact ⟨a1, g1, et, w0 h0⟩
            · obtain ⟨a2, g3, g4, u⟩ := w1 h0 h40
              exact ⟨a2, g3, g4, u⟩
        · simp only [pT]
          rw [if_neg hd]
          refine ⟨fun x hx => (by cases hx), fun _ => .inl (exprDies l hl ha (hd1_not (fun t' ts' h' => ?_)))⟩
          rw [ht] at h'
          injection h' with h1 h2
          subst h1
          simpa using hd
    · intro op L a ha hn hL hf
      have hE := ih.1 a ha (by omega)
      unfold OutE1 at hE
      unfold OutA
      have hres : ∀ x, pT n (toks (l.drop a)) = some x → resA (n + 1) op (toks (l.drop a)) = if op = 2 ∧ x.2.head? = some [44] then (resA n op x.2.tail).map (fun u => (Fo.cons x.1.1 x.1.2 u.1, u.2)) else (clN op x.2).map (fun z => (Fo.cons x.1.1 x.1.2 .nil, z)) := by
        intro x hx
        unfold resA
        simp only [pA, hx, Option.bind_some]
        by_cases hc : op = 2 ∧ x.2.head? = some [44]
        · rw [if_pos hc, if_pos hc]
          cases pA n op x.2.tail with
          | none => rfl
          | some y =>
            simp only [Option.bind_some]
            cases clN op y.2 with
            | none => rfl
            | some z => rfl
        · rw [if_neg hc, if_neg hc]
          simp only [Option.bind_some]
          cases clN op x.2 with
          | none => rfl
          | some z => rfl
      cases hp : pT n (toks (l.drop a)) with
      | none =>
        have hr : resA (n + 1) op (toks (l.drop a)) = none := by unfold resA; simp only [pA, hp, Option.bind_none]
        refine ⟨fun x hx => (by rw [hr] at hx; cases hx), fun _ => ?_⟩
        rcases hE.2 hp with ⟨d1, d2⟩ | ⟨e, a', q1, q2, q3, q4, q5⟩
        · exact ⟨Nv.left d1, or_right d1 d2⟩
        · have hc : clN op (toks (l.drop a')) = none := by
            unfold clN
            by_cases h5 : op ≥ 5
            · rw [if_pos h5]
              cases htk : toks (l.drop a') with
              | nil => rfl
              | cons m ts =>
                rw [htk] at q3
                injection q3 with q3; subst q3
                cases ts with
                | nil => rfl
                | cons t r => simp
            · rw [if_neg h5, q3]; rfl
          have hno : ¬ (op = 2 ∧ (toks (l.drop a')).head? = some [44]) := fun q => by rw [q3] at q; exact absurd q.2 (by decide)
          obtain ⟨_, s2⟩ := l1_out l hl n (op := op) (L := L) (e := e) q2 (by omega) (by rw [List.length_append]; omega) (fun h2 a2 _ _ h44 => absurd ⟨h2, h44⟩ hno)
          obtain ⟨d1, d2⟩ := (s2 hno).2 hc
          exact ⟨Nv.bind q5 d1, or_left q5 d2⟩
      | some x =>
        obtain ⟨a1, g1, g2, ev⟩ := hE.1 x hp
        obtain ⟨b1, b2, b3⟩ := (pT_len n).1 _ _ hp
        have hrx := hres x hp
        have hel : (L.flatten ++ (x.1.1 :: x.1.2.flat)).length = L.flatten.length + 1 + x.1.2.flat.length := by simp only [List.length_append, List.length_cons]; omega
        obtain ⟨s1, s2⟩ := l1_out l hl n (op := op) (L := L) (e := x.1.1 :: x.1.2.flat) g1 (by rw [g2]; omega) (by rw [g2, hel]; omega) (fun h2 a2 k1 k2 h44 => by
          rw [g2] at k2 h44
          have hne : 1 ≤ x.2.length := by
            cases hx2 : x.2 with
            | nil => rw [hx2] at h44; cases h44
            | cons _ _ => simp
          have hk : (toks (l.drop a2)).length + 1 = x.2.length := by rw [k2, List.length_tail]; omega
          exact ih.2 op _ a2 k1 (by omega) (by simp only [List.length_append, List.length_singleton]; omega) (by rw [List.flatten_append, List.flatten_singleton, hel]; omega))
        rw [g2] at s1 s2
        by_cases hc : op = 2 ∧ x.2.head? = some [44]
        · obtain ⟨y1, y2⟩ := s1 hc
          rw [if_pos hc] at hrx
          rw [hrx]
          cases hr : resA n op x.2.tail with
          | none =>
            obtain ⟨d1, d2⟩ := y2 hr
            exact ⟨fun u hu => (by cases hu), fun _ => ⟨Nv.bind ev d1, or_left ev d2⟩⟩
          | some u =>
            refine ⟨fun v hv => ?_, fun hv => (by cases hv)⟩
            obtain ⟨a', q1, q2, q3⟩ := y1 u hr
            simp only [Option.map_some] at hv
            injection hv with hv; subst hv
            refine ⟨a', q1, q2, ev_eq (Ev.bind ev q3) ?_⟩
            simp only [Fo.count, Fo.flat, List.append_assoc, List.cons_append]
            rw [show L.length + 1 + u.1.count = L.length + (u.1.count + 1) by omega]
        · obtain ⟨y1, y2⟩ := s2 hc
          rw [if_neg hc] at hrx
          rw [hrx]
          cases hr : clN op x.2 with
          | none =>
            obtain ⟨d1, d2⟩ := y2 hr
            exact ⟨fun u hu => (by cases hu), fun _ => ⟨Nv.bind ev d1, or_left ev d2⟩⟩
          | some z =>
            refine ⟨fun v hv => ?_, fun hv => (by cases hv)⟩
            obtain ⟨a', q1, q2, q3⟩ := y1 z hr
            simp only [Option.map_some] at hv
            injection hv with hv; subst hv
            refine ⟨a', q1, q2, ev_eq (Ev.bind ev q3) ?_⟩
            simp only [Fo.count, Fo.flat, List.append_nil]
end
/-- What a text is read as. -/
def pAll (l : Bs) : Option ((S43 × Fo) × List Bs) := pT (2 * (toks l).length + 1) (toks l)
def readV (l : Bs) : List S43 × Int := match pAll l with
  | some x => if x.2 = [] then (x.1.1 :: x.1.2.flat, 0) else ([], 2)
  | none => ([], 2)
theorem read_ev (l : Bs) (hl : l.length ≤ 2000) : Ev (fun k => lang_read.f k (mkB l)) (readV l) := by
  have h1 := (read_main l (by omega) hl (2 * (toks l).length + 1)).1 0 (by omega) (by rw [List.drop_zero]; omega)
  unfold OutE1 at h1
  rw [List.drop_zero] at h1
  obtain ⟨o1, o2⟩ := h1
  -- a reading that succeeds
  have done : ∀ (e : List S43) (a : Nat), a ≤ l.length → Ev (fun k => lang_reader_expr.f k (mkB l) ((0 : Nat) : Int)) (e, mkB l, (a : Int)) → Ev (fun k => lang_read.f k (mkB l)) (if toks (l.drop a) = [] then (e, 0) else ([], 2)) := by
    intro e a ha ⟨K, hK⟩
    obtain ⟨a2, g1, g2, K2, hK2⟩ := space_ev' l (by omega) ha
    refine ⟨max K K2, fun k hk => ?_⟩
    have e1 : lang_reader_expr.f k (mkB l) 0 = some (e, mkB l, (a : Int)) := hK k (by omega)
    have e2 : lang_reader_space.f k (mkB l) (a : Int) = some (mkB l, (a2 : Int)) := hK2 k (by omega)
    show lang_read.f k (mkB l) = _
    unfold lang_read.f
    rw [e1]
    simp only [e2, Option.bind_some]
    have hs : ((mkB l).size : Int) = (l.length : Int) := by rw [size_mk]
    by_cases hq : toks (l.drop a) = []
    · rw [if_pos hq]
      rw [toks_empty, ← g2] at hq
      have := drop_nil l hq
      rw [if_neg (by rw [hs]; omega)]
    · rw [if_neg hq]
      have : a2 < l.length := by
        by_cases h : a2 < l.length
        · exact h
        · exact absurd (toks_empty.2 (by rw [← g2]; exact List.drop_eq_nil_of_le (by omega))) hq
      rw [if_pos (by rw [hs]; omega)]
  unfold readV pAll
  cases hp : pT (2 * (toks l).length + 1) (toks l) with
  | some x =>
    obtain ⟨a, g1, g2, ev⟩ := o1 x hp
    have := done _ a g1 ev
    rw [g2] at this
    exact this
  | none =>
    rcases o2 hp with ⟨⟨K, hK⟩, ⟨K2, hK2⟩⟩ | ⟨e, a, q1, q2, q3, q4, q5⟩
    · refine ⟨max K K2, fun k hk => ?_⟩
      have e1 : lang_reader_expr.f k (mkB l) 0 = none := hK k (by omega)
      have e2 : lang_reader_expr.p k (mkB l) 0 = some () := hK2 k (by omega)
      show lang_read.f k (mkB l) = _
      unfold lang_read.f
      rw [e1]
      simp only [e2, Option.bind_some]
    · have := done e a q2 q5
      rw [if_neg (fun q => by rw [q] at q3; cases q3)] at this
      exact this
noncomputable def parseV (l : Bs) : List S43 × Int := if l.length > 1024 then ([], 3) else if (readV l).2 = 0 then (if chkE (readV l).1 = 0 then ((readV l).1, 0) else ([], chkE (readV l).1)) else ([], (readV l).2)
theorem parse_ev (l : Bs) : Ev (fun k => lang_Parse.f k (mkB l)) (parseV l) := by
  unfold lang_Parse.f parseV
  have hs : ((mkB l).size : Int) = (l.length : Int) := by rw [size_mk]
  rw [hs]
  refine ev_ite (fun h => ev_eq (ev_now _) (by rw [if_pos (by omega)])) (fun h => ?_)
  rw [if_neg (by omega)]
  refine Ev.bind (read_ev l (by omega)) ?_
  refine ev_ite (fun h2 => ?_) (fun h2 => ev_eq (ev_now _) (by rw [if_neg h2]))
  rw [if_pos h2]
  refine Ev.bind (pchk_ev _) ?_
  exact ev_ite (fun h3 => ev_eq (ev_now _) (by rw [if_pos h3])) (fun h3 => ev_eq (ev_now _) (by rw [if_neg h3]))
end Go.Proofs.YtimikhbnihedkaaDoor.PAll
