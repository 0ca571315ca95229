/- A line taken apart: what is read is exactly what was joined. No program in sight. -/
import Derived.Test.YtkcnfbhmjcbgoaaDoorFldJoin2
namespace Go.Proofs.YtkcnfbhmjcbgoaaDoor.PAll
set_option linter.unusedVariables false
open Go Go.RowKit Go.Proofs.YtkcnfbhmjcbgoaaDoorW.PrintWords Go.Proofs.YtkcnfbhmjcbgoaaDoorW.PrintLast Go.Proofs.YtkcnfbhmjcbgoaaDoorW.PrintMore Go.Proofs.YtkcnfbhmjcbgoaaDoor.MathNum Go.Proofs.YtkcnfbhmjcbgoaaDoor.EvWords

/-- The content of a quoted field behind its first ', and what follows its last '. -/
def uq : Bs → Option (Bs × Bs)
  | [] => none
  | [c] => if c = 39 then some ([], []) else none
  | c :: d :: r => if c = 39 then (if d = 39 then (uq r).map fun p => (39 :: p.1, p.2) else some ([], d :: r)) else (uq (d :: r)).map fun p => (c :: p.1, p.2)
theorem uq_other {c : UInt8} (h : c ≠ 39) (r : Bs) : uq (c :: r) = (uq r).map fun p => (c :: p.1, p.2) := by
  cases r with
  | nil => simp [uq, h]
  | cons d r => rw [uq, if_neg h]
theorem uq_two (r : Bs) : uq (39 :: 39 :: r) = (uq r).map fun p => (39 :: p.1, p.2) := by rw [uq, if_pos rfl, if_pos rfl]
theorem uq_end {r : Bs} (h : r.head? ≠ some 39) : uq (39 :: r) = some ([], r) := by
  cases r with
  | nil => simp [uq]
  | cons d r => rw [uq, if_pos rfl, if_neg (by simpa using h)]
theorem uq_esc (t : Bs) {R : Bs} (h : R.head? ≠ some 39) : uq (esc t ++ 39 :: R) = some (t, R) := by
  induction t with
  | nil => rw [esc_nil, List.nil_append]; exact uq_end h
  | cons c t ih =>
    rw [esc_cons]
    by_cases hc : c = 39
    · subst hc
      rw [if_pos rfl]
      simp only [List.cons_append, List.nil_append]
      rw [uq_two, ih]; rfl
    · rw [if_neg hc]
      simp only [List.cons_append, List.nil_append]
      rw [uq_other hc, ih]; rfl
theorem uq_spec : ∀ (n : Nat) (m : Bs), m.length ≤ n → ∀ {t r : Bs}, uq m = some (t, r) → m = esc t ++ 39 :: r ∧ r.head? ≠ some 39 := by
  intro n
  induction n with
  | zero =>
    intro m hm t r h
    cases m with
    | nil => simp [uq] at h
    | cons c m => simp at hm
  | succ n ih =>
    intro m hm t r h
    cases m with
    | nil => simp [uq] at h
    | cons c m =>
      by_cases hc : c = 39
      · subst hc
        cases m with
        | nil =>
          simp only [uq, if_true, Option.some.injEq, Prod.mk.injEq] at h
          obtain ⟨rfl, rfl⟩ := h
          exact ⟨rfl, by simp⟩
        | cons d m =>
          by_cases hd : d = 39
          · subst hd
            rw [uq_two, Option.map_eq_some_iff] at h
            obtain ⟨⟨t', r'⟩, h1, h2⟩ := h
            obtain ⟨rfl, rfl⟩ := Prod.mk.inj h2
            have := ih m (by simp only [List.length_cons] at hm; omega) h1
            rw [esc_cons, if_pos rfl]
            exact ⟨by rw [this.1]; rfl, this.2⟩
          · rw [uq_end (by simpa using hd)] at h
            obtain ⟨rfl, rfl⟩ := Prod.mk.inj (Option.some.inj h)
            exact ⟨rfl, by simpa using hd⟩
      · rw [uq_other hc, Option.map_eq_some_iff] at h
        obtain ⟨⟨t', r'⟩, h1, h2⟩ := h
        obtain ⟨rfl, rfl⟩ := Prod.mk.inj h2
        have := ih m (by simp only [List.length_cons] at hm; omega) h1
        rw [esc_cons, if_neg hc]
        exact ⟨by rw [this.1]; rfl, this.2⟩
/-- The field at the beginning of a line, and what follows. -/
def word (l : Bs) : Bs := l.takeWhile (· != 32)
def tok (l : Bs) : Option (Bs × Bs) := if l.head? = some 39 then uq l.tail else if word l = [] then none else some (word l, l.drop (word l).length)
theorem tok_nil : tok [] = none := by simp [tok, word]
theorem word_split (l : Bs) : l = word l ++ l.drop (word l).length := by
  have h := List.takeWhile_append_dropWhile (p := fun c : UInt8 => c != 32) (l := l)
  have e : l.drop (word l).length = l.dropWhile (fun c : UInt8 => c != 32) := by
    have : (word l ++ l.dropWhile (fun c : UInt8 => c != 32)).drop (word l).length = _ := List.drop_left
    rwa [show word l ++ l.dropWhile (fun c : UInt8 => c != 32) = l from h] at this
  rw [e]; exact h.symm
theorem word_no (l : Bs) : (word l).contains 32 = false := by
  unfold word
  induction l with
  | nil => rfl
  | cons c l ih =>
    rw [List.takeWhile_cons]
    split
    · rename_i h
      rw [List.contains_cons, ih, Bool.or_false]
      simpa using fun e => by simp [← e] at h
    · rfl
theorem word_app {t R : Bs} (h : t.contains 32 = false) (hR : R = [] ∨ R.head? = some 32) : word (t ++ R) = t := by
  unfold word
  induction t with
  | nil =>
    rw [List.nil_append]
    rcases hR with rfl | hR
    · rfl
    · cases R with
      | nil => rfl
      | cons d R =>
        simp only [List.head?_cons, Option.some.injEq] at hR
        subst hR; rfl
  | cons c t ih =>
    rw [List.contains_cons, Bool.or_eq_false_iff] at h
    rw [List.cons_append, List.takeWhile_cons, if_pos (by simpa using fun e => by simp [e] at h), ih h.2]
/-- What follows a field is nothing or a space. -/
theorem tok_written (t : Bs) {R : Bs} (hR : R = [] ∨ R.head? = some 32) : tok (writtenL t ++ R) = some (t, R) ∧ ((writtenL t ++ R).head? = some 39 → quotedL t = true) := by
  unfold writtenL
  by_cases h : quotedL t = true
  · rw [if_pos h]
    refine ⟨?_, fun _ => h⟩
    unfold tok
    rw [if_pos (show (((39 : UInt8) :: (esc t ++ [39])) ++ R).head? = some (39 : UInt8) from rfl)]
    show uq ((esc t ++ [39]) ++ R) = _
    rw [List.append_assoc]
    have h39 : R.head? ≠ some 39 := by
      rcases hR with rfl | hR
      · simp
      · rw [hR]; decide
    exact uq_esc t h39
  · rw [if_neg h]
    have hq : t ≠ [] ∧ t.head? ≠ some 39 ∧ t.contains 32 = false := by
      unfold quotedL at h
      simp only [Bool.or_eq_true, not_or, beq_iff_eq, List.isEmpty_iff, Bool.not_eq_true] at h
      exact ⟨h.1.1, h.1.2, h.2⟩
    obtain ⟨c, t', rfl⟩ : ∃ c t', t = c :: t' := List.exists_cons_of_ne_nil hq.1
    have hh : ((c :: t') ++ R).head? ≠ some 39 := by simpa using hq.2.1
    refine ⟨?_, fun e => absurd e hh⟩
    unfold tok
    rw [if_neg hh, word_app hq.2.2 hR, if_neg (by simp), List.drop_left]
theorem tok_spec {l t r : Bs} (h : tok l = some (t, r)) (hq : l.head? = some 39 → quotedL t = true) : l = writtenL t ++ r := by
  unfold tok at h
  by_cases h1 : l.head? = some 39
  · rw [if_pos h1] at h
    cases l with
    | nil => cases h1
    | cons c l =>
      simp only [List.head?_cons, Option.some.injEq] at h1
      subst h1
      have := (uq_spec _ l (Nat.le_refl _) h).1
      unfold writtenL
      rw [if_pos (hq rfl), this]
      simp
  · rw [if_neg h1] at h
    by_cases h2 : word l = []
    · rw [if_pos h2] at h; cases h
    · rw [if_neg h2] at h
      obtain ⟨rfl, rfl⟩ := Prod.mk.inj (Option.some.inj h)
      have : quotedL (word l) = false := by
        unfold quotedL
        rw [word_no, Bool.or_false]
        have h3 : (word l).head? ≠ some 39 := by
          intro e
          cases l with
          | nil => exact h2 rfl
          | cons c l =>
            unfold word at e
            rw [List.takeWhile_cons] at e
            split at e
            · simp only [List.head?_cons, Option.some.injEq] at e
              exact h1 (by rw [e]; rfl)
            · cases e
        rw [Bool.or_eq_false_iff]
        exact ⟨by simpa using h2, by simpa using h3⟩
      unfold writtenL
      rw [this]
      simp only [Bool.false_eq_true, if_false]
      exact word_split l
/-- What is left is shorter. -/
theorem tok_len {l t r : Bs} (h : tok l = some (t, r)) : r.length < l.length ∧ t.length + r.length ≤ l.length := by
  unfold tok at h
  by_cases h1 : l.head? = some 39
  · rw [if_pos h1] at h
    cases l with
    | nil => cases h1
    | cons c l =>
      have := (uq_spec _ l (Nat.le_refl _) h).1
      have h2 := congrArg List.length this
      have h3 : t.length ≤ (esc t).length := by
        clear this h2 h h1
        induction t with
        | nil => exact Nat.zero_le _
        | cons c t ih =>
          rw [esc_cons, List.length_append, List.length_cons]
          split <;> simp <;> omega
      rw [List.length_append, List.length_cons] at h2
      simp only [List.length_cons]
      omega
  · rw [if_neg h1] at h
    by_cases h2 : word l = []
    · rw [if_pos h2] at h; cases h
    · rw [if_neg h2] at h
      obtain ⟨rfl, rfl⟩ := Prod.mk.inj (Option.some.inj h)
      have := congrArg List.length (word_split l)
      rw [List.length_append] at this
      have h3 : 0 < (word l).length := List.length_pos_iff.2 h2
      omega

/-! The program's reading and the reference's. -/
def pars : Nat → Bs → Option (List Bs)
  | 0, _ => none
  | n + 1, l => match tok l with
    | none => none
    | some (t, r) => if (l.head? = some 39 → quotedL t = true) ∧ goodL t then (if r = [] then some [t] else if r.head? = some 32 then (pars n r.tail).map (t :: ·) else none) else none
def toks : Nat → Bs → Option (List Bs)
  | 0, l => if l = [] then some [] else none
  | n + 1, l => if l = [] then some [] else match tok l with
    | none => none
    | some (t, r) => (toks n r.tail).map (t :: ·)
theorem joinL_cons (t : Bs) (fs : List Bs) : joinL (t :: fs) = writtenL t ++ if fs = [] then [] else 32 :: joinL fs := by
  cases fs with
  | nil => simp [joinL]
  | cons y r => simp [joinL]
theorem pars_spec : ∀ (n : Nat) (l : Bs) {fs : List Bs}, pars n l = some fs → fs ≠ [] ∧ (∀ x ∈ fs, goodL x) ∧ joinL fs = l := by
  intro n
  induction n with
  | zero => intro l fs h; cases h
  | succ n ih =>
    intro l fs h
    rw [pars] at h
    cases ht : tok l with
    | none => rw [ht] at h; cases h
    | some p =>
      obtain ⟨t, r⟩ := p
      rw [ht] at h
      simp only at h
      split at h
      · rename_i hc
        have hl := tok_spec ht hc.1
        split at h
        · rename_i hr
          subst hr
          obtain rfl := Option.some.inj h
          exact ⟨by simp, by simpa using hc.2, by rw [joinL_cons, if_pos rfl, ← hl]⟩
        · rename_i hr
          split at h
          · rename_i h32
            rw [Option.map_eq_some_iff] at h
            obtain ⟨gs, h1, rfl⟩ := h
            obtain ⟨g1, g2, g3⟩ := ih _ h1
            refine ⟨by simp, fun x hx => ?_, ?_⟩
            · rcases List.mem_cons.1 hx with rfl | hx
              · exact hc.2
              · exact g2 x hx
            · rw [joinL_cons, if_neg g1, g3]
              cases r with
              | nil => exact absurd rfl hr
              | cons d r =>
                simp only [List.head?_cons, Option.some.injEq] at h32
                subst h32
                exact hl.symm
          · cases h
      · cases h
theorem joinL_pos {fs : List Bs} (h : fs ≠ []) : 1 ≤ (joinL fs).length := by
  cases fs with
  | nil => exact absurd rfl h
  | cons t fs =>
    rw [joinL_cons, List.length_append]
    have := writtenL_pos t
    omega
theorem pars_of : ∀ (fs : List Bs) (n : Nat), fs ≠ [] → (∀ x ∈ fs, goodL x) → (joinL fs).length ≤ n → pars n (joinL fs) = some fs
  | [], _, h, _, _ => absurd rfl h
  | t :: fs, n, _, hg, hn => by
    obtain ⟨n, rfl⟩ : ∃ m, n = m + 1 := ⟨n - 1, by have := joinL_pos (fs := t :: fs) (by simp); omega⟩
    rw [pars]
    have hR : (if fs = [] then [] else 32 :: joinL fs) = [] ∨ (if fs = [] then [] else 32 :: joinL fs).head? = some 32 := by
      by_cases h : fs = []
      · rw [if_pos h]; exact Or.inl rfl
      · rw [if_neg h]; exact Or.inr rfl
    rw [joinL_cons]
    obtain ⟨h1, h2⟩ := tok_written t hR
    rw [h1]
    simp only
    rw [if_pos ⟨h2, hg t (by simp)⟩]
    by_cases h : fs = []
    · subst h; simp
    · rw [if_neg h, if_neg (by simp), if_pos (show (32 :: joinL fs).head? = some 32 from rfl)]
      simp only [List.tail_cons]
      rw [joinL_cons, if_neg h, List.length_append, List.length_cons] at hn
      have := writtenL_pos t
      rw [pars_of fs n h (fun x hx => hg x (by simp [hx])) (by omega)]
      rfl
theorem toks_of : ∀ (fs : List Bs) (n : Nat), (joinL fs).length ≤ n → toks n (joinL fs) = some fs
  | [], n, _ => by cases n <;> simp [joinL, toks]
  | t :: fs, n, hn => by
    have hp := joinL_pos (fs := t :: fs) (by simp)
    obtain ⟨n, rfl⟩ : ∃ m, n = m + 1 := ⟨n - 1, by omega⟩
    have hR : (if fs = [] then [] else 32 :: joinL fs) = [] ∨ (if fs = [] then [] else 32 :: joinL fs).head? = some 32 := by
      by_cases h : fs = []
      · rw [if_pos h]; exact Or.inl rfl
      · rw [if_neg h]; exact Or.inr rfl
    rw [toks, if_neg (fun e => by rw [e] at hp; simp at hp), joinL_cons]
    obtain ⟨h1, h2⟩ := tok_written t hR
    rw [h1]
    simp only
    by_cases h : fs = []
    · subst h
      rw [if_pos rfl]
      cases n <;> simp [toks]
    · rw [if_neg h]
      simp only [List.tail_cons]
      rw [joinL_cons, if_neg h, List.length_append, List.length_cons] at hn
      have := writtenL_pos t
      rw [toks_of fs n (by omega)]
      rfl
/-- More rounds read the same. -/
theorem toks_more : ∀ (n : Nat) (l : Bs) {fs : List Bs}, toks n l = some fs → fs.length ≤ l.length ∧ ∀ x ∈ fs, x.length ≤ l.length := by
  intro n
  induction n with
  | zero =>
    intro l fs h
    rw [toks] at h
    split at h
    · obtain rfl := Option.some.inj h; simp
    · cases h
  | succ n ih =>
    intro l fs h
    rw [toks] at h
    split at h
    · obtain rfl := Option.some.inj h; simp
    · cases ht : tok l with
      | none => rw [ht] at h; cases h
      | some p =>
        obtain ⟨t, r⟩ := p
        rw [ht] at h
        simp only [Option.map_eq_some_iff] at h
        obtain ⟨gs, h1, rfl⟩ := h
        obtain ⟨g1, g2⟩ := ih _ h1
        have hl := tok_len ht
        rw [List.length_tail] at g1 g2
        refine ⟨by simp only [List.length_cons]; omega, fun x hx => ?_⟩
        rcases List.mem_cons.1 hx with rfl | hx
        · omega
        · have := g2 x hx; omega
/-- What Split answers. -/
def splitV (l : Bs) : List Bs × Int := if 1024 < l.length then ([], 3) else if l = [] then ([], 0) else match pars l.length l with | some fs => (fs, 0) | none => ([], 2)
theorem splitV_ok {l : Bs} {fs : List Bs} : splitV l = (fs, 0) ↔ (∀ x ∈ fs, goodL x) ∧ joinL fs = l ∧ l.length ≤ 1024 := by
  unfold splitV
  by_cases h1 : 1024 < l.length
  · rw [if_pos h1]
    constructor
    · intro e; exact absurd (Prod.mk.inj e).2 (by decide)
    · intro e; omega
  · rw [if_neg h1]
    by_cases h2 : l = []
    · rw [if_pos h2]
      constructor
      · intro e; obtain rfl := (Prod.mk.inj e).1; subst h2; exact ⟨by simp, rfl, by simp⟩
      · rintro ⟨_, h, _⟩
        have : fs = [] := Classical.byContradiction fun hn => by
          have := joinL_pos hn
          rw [h, h2] at this
          simp at this
        rw [this]
    · rw [if_neg h2]
      constructor
      · intro e
        cases hp : pars l.length l with
        | none => rw [hp] at e; exact absurd (Prod.mk.inj e).2 (by simp)
        | some gs =>
          rw [hp] at e
          obtain rfl := (Prod.mk.inj e).1
          have := pars_spec _ _ hp
          exact ⟨this.2.1, this.2.2, by omega⟩
      · rintro ⟨hg, hj, _⟩
        have hn : fs ≠ [] := fun e => h2 (by rw [← hj, e]; rfl)
        have := pars_of fs l.length hn hg (by rw [hj]; exact Nat.le_refl _)
        rw [hj] at this
        rw [this]
theorem splitV_bad {l : Bs} (h : (splitV l).2 ≠ 0) : (splitV l).1 = [] := by
  unfold splitV at h ⊢
  split
  · rfl
  · rename_i h1
    rw [if_neg h1] at h
    split
    · rfl
    · rename_i h2
      rw [if_neg h2] at h
      cases hp : pars l.length l with
      | none => rfl
      | some fs => rw [hp] at h; exact absurd rfl h
end Go.Proofs.YtkcnfbhmjcbgoaaDoor.PAll
