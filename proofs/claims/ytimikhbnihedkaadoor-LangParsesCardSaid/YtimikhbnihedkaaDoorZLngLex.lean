/- The parts of a text, and how the program's reader passes over them. -/
import Derived.Test.YtimikhbnihedkaaDoorZLngTreeEv
import Derived.Test.YtimikhbnihedkaaDoorZMC2
namespace Go.Proofs.YtimikhbnihedkaaDoor.PAll
set_option linter.unusedVariables false
set_option linter.unusedSectionVars false
set_option linter.unusedSimpArgs false
open Go Go.RowKit Go.Proofs.YtimikhbnihedkaaDoorW.PrintWords Go.Proofs.YtimikhbnihedkaaDoorW.PrintLast Go.Proofs.YtimikhbnihedkaaDoorW.PrintMore Go.Proofs.YtimikhbnihedkaaDoor.MathNum Go.Proofs.YtimikhbnihedkaaDoor.EvWords

def isL (c : UInt8) : Bool := decide (97 ≤ (c.toNat : Int) ∧ (c.toNat : Int) ≤ 122)
def isD (c : UInt8) : Bool := decide (48 ≤ (c.toNat : Int) ∧ (c.toNat : Int) ≤ 57)
def isW (c : UInt8) : Bool := isL c || isD c || decide ((c.toNat : Int) = 45)
def sp (b : Bs) : Bs := b.dropWhile (fun c => decide (c = 32))
theorem u8_eq {c : UInt8} {n : Nat} (hn : n < 256) : (c.toNat : Int) = (n : Int) ↔ c = UInt8.ofNat n := by
  constructor
  · intro h
    apply UInt8.toNat_inj.1
    rw [UInt8.toNat_ofNat_of_lt' (by omega)]; omega
  · intro h; rw [h, UInt8.toNat_ofNat_of_lt' (by omega)]
theorem sp_cons32 (r : Bs) : sp (32 :: r) = sp r := by unfold sp; rw [List.dropWhile_cons_of_pos (by simp)]
theorem sp_cons {c : UInt8} (h : c ≠ 32) (r : Bs) : sp (c :: r) = c :: r := by unfold sp; rw [List.dropWhile_cons_of_neg (by simpa using h)]
theorem sp_head : ∀ (b : Bs) {c : UInt8} {r : Bs}, sp b = c :: r → c ≠ 32
  | [], c, r, h => by cases h
  | a :: b, c, r, h => by
    by_cases ha : a = 32
    · subst ha; rw [sp_cons32] at h; exact sp_head b h
    · rw [sp_cons ha] at h; injection h with h1 _; rw [← h1]; exact ha
theorem sp_sp (b : Bs) : sp (sp b) = sp b := by
  cases h : sp b with
  | nil => rfl
  | cons c r => exact sp_cons (sp_head b h) r
theorem sp_len : ∀ b : Bs, (sp b).length ≤ b.length := fun b => by
  unfold sp; exact (List.dropWhile_sublist _).length_le
theorem dw_len (p : UInt8 → Bool) (b : Bs) : (b.dropWhile p).length ≤ b.length := (List.dropWhile_sublist _).length_le
/-- The parts of a text; an empty one where a byte belongs to none. -/
def toks (b : Bs) : List Bs :=
  match h : sp b with
  | [] => []
  | c :: r => if isL c = true ∨ isD c = true then (c :: r.takeWhile isW) :: toks (r.dropWhile isW) else if c = 40 ∨ c = 41 ∨ c = 44 then [c] :: toks r else [[]]
termination_by b.length
decreasing_by
  · have h1 := sp_len b; rw [h] at h1; have := dw_len isW r; simp only [List.length_cons] at h1; omega
  · have h1 := sp_len b; rw [h] at h1; simp only [List.length_cons] at h1; omega
theorem toks_nil {b : Bs} (h : sp b = []) : toks b = [] := by
  rw [toks]; split
  · rfl
  · rename_i c r h2; rw [h] at h2; cases h2
theorem toks_cons {b : Bs} {c : UInt8} {r : Bs} (h : sp b = c :: r) : toks b = if isL c = true ∨ isD c = true then (c :: r.takeWhile isW) :: toks (r.dropWhile isW) else if c = 40 ∨ c = 41 ∨ c = 44 then [c] :: toks r else [[]] := by
  rw [toks]; split
  · rename_i h2; rw [h] at h2; cases h2
  · rename_i c' r' h2; rw [h] at h2; injection h2 with h3 h4; subst h3 h4; rfl
theorem toks_sp (b : Bs) : toks (sp b) = toks b := by
  cases h : sp b with
  | nil => rw [toks_nil h, toks_nil rfl]
  | cons c r => rw [toks_cons h, toks_cons (sp_cons (sp_head b h) r)]
theorem toks_word {b : Bs} {c : UInt8} {r : Bs} (h : sp b = c :: r) (hc : isL c = true ∨ isD c = true) : toks b = (c :: r.takeWhile isW) :: toks (r.dropWhile isW) := by rw [toks_cons h, if_pos hc]
theorem mark_not {c : UInt8} (h : c = 40 ∨ c = 41 ∨ c = 44) : ¬ (isL c = true ∨ isD c = true) := by
  rcases h with rfl | rfl | rfl <;> decide
theorem toks_mark {b : Bs} {c : UInt8} {r : Bs} (h : sp b = c :: r) (hc : c = 40 ∨ c = 41 ∨ c = 44) : toks b = [c] :: toks r := by rw [toks_cons h, if_neg (mark_not hc), if_pos hc]
/-- What stands first: a mark, exactly where its part is first. -/
theorem toks_mark_iff {b : Bs} {m : UInt8} (hm : m = 40 ∨ m = 41 ∨ m = 44) {ts : List Bs} : toks b = [m] :: ts ↔ ∃ r, sp b = m :: r ∧ ts = toks r := by
  constructor
  · intro h
    cases hb : sp b with
    | nil => rw [toks_nil hb] at h; cases h
    | cons c r =>
      rw [toks_cons hb] at h
      by_cases h1 : isL c = true ∨ isD c = true
      · rw [if_pos h1] at h
        injection h with h2 _
        injection h2 with h3 _
        subst h3
        exact absurd h1 (mark_not hm)
      · rw [if_neg h1] at h
        by_cases h2 : c = 40 ∨ c = 41 ∨ c = 44
        · rw [if_pos h2] at h
          injection h with h3 h4
          injection h3 with h5 _
          subst h5
          exact ⟨r, rfl, h4.symm⟩
        · rw [if_neg h2] at h; injection h with h3 _; cases h3
  · rintro ⟨r, hr, rfl⟩; exact toks_mark hr hm
/-! ### the reader -/
/-- No answer, however many rounds. -/
def Nv {α : Type} (f : Nat → Option α) : Prop := ∃ K, ∀ k, K ≤ k → f k = none
theorem nv_none {α : Type} : Nv (fun _ => (none : Option α)) := ⟨0, fun _ _ => rfl⟩
theorem nv_step {α : Type} {g f : Nat → Option α} (h : ∀ k, g (k + 1) = f k) (e : Nv f) : Nv g := by
  obtain ⟨K, hK⟩ := e
  refine ⟨K + 1, fun k hk => ?_⟩
  obtain ⟨m, rfl⟩ : ∃ m, k = m + 1 := ⟨k - 1, by omega⟩
  rw [h, hK m (by omega)]
theorem nv_pos {α : Type} {c : Prop} [Decidable c] (h : c) {A B : Nat → Option α} (e : Nv A) : Nv (fun k => if c then A k else B k) := by simp only [if_pos h]; exact e
theorem nv_neg {α : Type} {c : Prop} [Decidable c] (h : ¬ c) {A B : Nat → Option α} (e : Nv B) : Nv (fun k => if c then A k else B k) := by simp only [if_neg h]; exact e
theorem Nv.left {α β : Type} {g : Nat → Option α} {f : Nat → α → Option β} (e : Nv g) : Nv (fun k => (g k).bind (f k)) := by
  obtain ⟨K, hK⟩ := e
  exact ⟨K, fun k hk => by simp only [hK k hk, Option.bind_none]⟩
theorem Nv.bind {α β : Type} {g : Nat → Option α} {f : Nat → α → Option β} {a : α} (e : Ev g a) (e2 : Nv (fun k => f k a)) : Nv (fun k => (g k).bind (f k)) := by
  obtain ⟨K, hK⟩ := e
  obtain ⟨K2, hK2⟩ := e2
  exact ⟨max K K2, fun k hk => by simp only [hK k (by omega), Option.bind_some, hK2 k (by omega)]⟩
theorem or_left {α : Type} {x : Nat → Option α} {f : Nat → α → Option Unit} {y : Nat → Option Unit} {a : α} (e : Ev x a) (e2 : Ev (fun k => f k a) ()) : Ev (fun k => or_ (x k) (f k) (y k)) () := by
  obtain ⟨K, hK⟩ := e
  obtain ⟨K2, hK2⟩ := e2
  exact ⟨max K K2, fun k hk => by simp only [hK k (by omega), or_]; exact hK2 k (by omega)⟩
theorem or_right {α : Type} {x : Nat → Option α} {f : Nat → α → Option Unit} {y : Nat → Option Unit} (e : Nv x) (e2 : Ev y ()) : Ev (fun k => or_ (x k) (f k) (y k)) () := by
  obtain ⟨K, hK⟩ := e
  obtain ⟨K2, hK2⟩ := e2
  exact ⟨max K K2, fun k hk => by simp only [hK k (by omega), or_]; exact hK2 k (by omega)⟩
/-- What fails: no answer, and the failing run is there. -/
def Dies {α : Type} (f : Nat → Option α) (p : Nat → Option Unit) : Prop := Nv f ∧ Ev p ()
section
variable (l : Bs)
theorem drop_lt {at_ : Nat} {c : UInt8} {r : Bs} (h : l.drop at_ = c :: r) : at_ < l.length ∧ bt (mkB l) (at_ : Int) = (c.toNat : Int) ∧ l.drop (at_ + 1) = r := by
  have hp : at_ < l.length := by
    by_cases hp : at_ < l.length
    · exact hp
    · rw [List.drop_eq_nil_of_le (by omega)] at h; cases h
  rw [List.drop_eq_getElem_cons hp] at h
  injection h with h1 h2
  exact ⟨hp, by rw [bt_mk hp, h1], h2⟩
theorem drop_nil {at_ : Nat} (h : l.drop at_ = []) : l.length ≤ at_ := by
  have := congrArg List.length h
  rw [List.length_drop, List.length_nil] at this; omega
variable (hl : l.length ≤ 100000)
include hl
theorem space_ev (d : Nat) : ∀ at_ : Nat, at_ + d = l.length → ∃ a : Nat, a ≤ l.length ∧ l.drop a = sp (l.drop at_) ∧ Ev (fun k => lang_reader_space.f k (mkB l) (at_ : Int)) (mkB l, (a : Int)) := by
  unfold lang_reader_space.f
  induction d with
  | zero =>
    intro at_ h
    refine ⟨at_, by omega, by rw [List.drop_eq_nil_of_le (by omega)]; rfl, ev_step (fun k => by simp only [lang_reader_space.l0] <;> exact rfl) (ev_neg (by rw [size_mk]; omega) (ev_now _))⟩
  | succ d ih =>
    intro at_ h
    have hlt : at_ < l.length := by omega
    have hd : l.drop at_ = l[at_] :: l.drop (at_ + 1) := List.drop_eq_getElem_cons hlt
    obtain ⟨_, hb, _⟩ := drop_lt l hd
    by_cases h32 : l[at_] = 32
    · obtain ⟨a, ha, he, ev⟩ := ih (at_ + 1) (by omega)
      refine ⟨a, ha, by rw [he, hd, h32, sp_cons32], ev_step (fun k => by simp only [lang_reader_space.l0] <;> exact rfl) (ev_pos (by rw [size_mk]; omega) (ev_pos (by omega) (ev_pos (by rw [hb, h32]; rfl) ?_)))⟩
      rw [w64 (by omega) (by omega)]; exact ev
    · refine ⟨at_, by omega, by rw [hd, sp_cons h32], ev_step (fun k => by simp only [lang_reader_space.l0] <;> exact rfl) (ev_pos (by rw [size_mk]; omega) (ev_pos (by omega) (ev_neg (by rw [hb]; exact fun q => h32 ((u8_eq (n := 32) (by decide)).1 q)) (ev_now _))))⟩
theorem space_ev' {at_ : Nat} (h : at_ ≤ l.length) : ∃ a : Nat, a ≤ l.length ∧ l.drop a = sp (l.drop at_) ∧ Ev (fun k => lang_reader_space.f k (mkB l) (at_ : Int)) (mkB l, (a : Int)) := space_ev l hl (l.length - at_) at_ (by omega)
/-- The next part is a byte, and is passed over; or nothing but spaces is. -/
theorem is_yes {at_ : Nat} (h : at_ ≤ l.length) {c : UInt8} {r : Bs} (hs : sp (l.drop at_) = c :: r) : ∃ a : Nat, a ≤ l.length ∧ l.drop a = r ∧ Ev (fun k => lang_reader_is.f k (mkB l) (at_ : Int) (c.toNat : Int)) (true, mkB l, (a : Int)) := by
  obtain ⟨a, ha, he, ev⟩ := space_ev' l hl h
  rw [hs] at he
  obtain ⟨h1, h2, h3⟩ := drop_lt l he
  refine ⟨a + 1, h1, h3, ?_⟩
  unfold lang_reader_is.f
  refine Ev.bind ev (ev_pos (by rw [size_mk]; omega) (ev_pos (by omega) (ev_pos h2 (ev_eq (ev_now _) ?_))))
  rw [w64 (by omega) (by omega)]; rfl
theorem is_no {at_ : Nat} (h : at_ ≤ l.length) {c : UInt8} (hs : ∀ r, sp (l.drop at_) ≠ c :: r) : ∃ a : Nat, a ≤ l.length ∧ l.drop a = sp (l.drop at_) ∧ Ev (fun k => lang_reader_is.f k (mkB l) (at_ : Int) (c.toNat : Int)) (false, mkB l, (a : Int)) := by
  obtain ⟨a, ha, he, ev⟩ := space_ev' l hl h
  refine ⟨a, ha, he, ?_⟩
  unfold lang_reader_is.f
  refine Ev.bind ev ?_
  by_cases hlt : a < l.length
  · have hd : l.drop a = l[a] :: l.drop (a + 1) := List.drop_eq_getElem_cons hlt
    obtain ⟨_, hb, _⟩ := drop_lt l hd
    have hne : ¬ bt (mkB l) (a : Int) = (c.toNat : Int) := fun q => by
      rw [hb] at q
      have : l[a] = c := UInt8.toNat_inj.1 (by omega)
      exact hs (l.drop (a + 1)) (by rw [← he, hd, this])
    exact ev_pos (by rw [size_mk]; omega) (ev_pos (by omega) (ev_neg hne (ev_now _)))
  · exact ev_neg (by rw [size_mk]; omega) (ev_now _)
theorem must_yes {at_ : Nat} (h : at_ ≤ l.length) {c : UInt8} {r : Bs} (hs : sp (l.drop at_) = c :: r) : ∃ a : Nat, a ≤ l.length ∧ l.drop a = r ∧ Ev (fun k => lang_reader_must.f k (mkB l) (at_ : Int) (c.toNat : Int)) (mkB l, (a : Int)) := by
  obtain ⟨a, h1, h2, ev⟩ := is_yes l hl h hs
  refine ⟨a, h1, h2, ?_⟩
  unfold lang_reader_must.f
  exact Ev.bind ev (ev_pos (by first | trivial | rfl) (ev_now _))
theorem fail_none (s : ByteArray) (i : Int) : lang_reader_fail.f s i = none := by
  unfold lang_reader_fail.f
  rw [if_pos (Int.natCast_nonneg _), if_neg (Int.lt_irrefl _)]
theorem fail_nv (s : ByteArray) (i : Int) : Nv (fun _ => lang_reader_fail.f s i) := ⟨0, fun _ _ => fail_none l hl s i⟩
theorem must_no {at_ : Nat} (h : at_ ≤ l.length) {c : UInt8} (hs : ∀ r, sp (l.drop at_) ≠ c :: r) : Dies (fun k => lang_reader_must.f k (mkB l) (at_ : Int) (c.toNat : Int)) (fun k => lang_reader_must.p k (mkB l) (at_ : Int) (c.toNat : Int)) := by
  obtain ⟨a, h1, h2, ev⟩ := is_no l hl h hs
  unfold lang_reader_must.f lang_reader_must.p
  exact ⟨Nv.bind ev (nv_neg (fun q => by cases q) (Nv.left (fail_nv l hl _ _))), Ev.bind ev (ev_neg (fun q => by cases q) (ev_now _))⟩
theorem letter_ev (c : UInt8) : lang_letter.f (c.toNat : Int) = some (isL c) := by
  unfold lang_letter.f isL
  by_cases h : (c.toNat : Int) ≥ 97
  · rw [if_pos h]; simp [h]
  · rw [if_neg h]
    have : ¬ (97 ≤ (c.toNat : Int)) := h
    simp [this]
theorem digit_ev' (c : UInt8) : lang_digit.f (c.toNat : Int) = some (isD c) := by
  unfold lang_digit.f isD
  by_cases h : (c.toNat : Int) ≥ 48
  · rw [if_pos h]; simp [h]
  · rw [if_neg h]
    have : ¬ (48 ≤ (c.toNat : Int)) := h
    simp [this]
omit hl in
theorem cut_ev {fr a : Nat} (h1 : fr ≤ a) (h2 : a ≤ l.length) : (mkB l).extract fr a = mkB ((l.drop fr).take (a - fr)) := mk_extract l fr a
omit hl in
theorem take_tw {p : UInt8 → Bool} (b : Bs) : b.take (b.takeWhile p).length = b.takeWhile p ∧ b.drop (b.takeWhile p).length = b.dropWhile p := by
  have h := List.takeWhile_append_dropWhile (p := p) (l := b)
  have h1 : (b.takeWhile p ++ b.dropWhile p).take (b.takeWhile p).length = b.takeWhile p := List.take_left
  have h2 : (b.takeWhile p ++ b.dropWhile p).drop (b.takeWhile p).length = b.dropWhile p := List.drop_left
  rw [h] at h1 h2
  exact ⟨h1, h2⟩
/-- A word, from its second byte on. -/
theorem word_l0 (fr : Nat) (d : Nat) : ∀ a : Nat, a + d = l.length → fr < a → ∃ a' : Nat, a ≤ a' ∧ a' ≤ l.length ∧ a' = a + ((l.drop a).takeWhile isW).length ∧ Ev (fun k => lang_reader_word.l0 k (fr : Int) (mkB l) (a : Int)) (mkB ((l.drop fr).take (a' - fr)), mkB l, (a' : Int)) := by
  have fin : ∀ a : Nat, fr < a → a ≤ l.length → Ev (fun k => lang_reader_word.j1 k (fr : Int) false (mkB l) (a : Int)) (mkB ((l.drop fr).take (a - fr)), mkB l, (a : Int)) := fun a h1 h2 => by
    refine ev_step (fun k => by simp only [lang_reader_word.j1] <;> exact rfl) (ev_neg (by simp) (ev_neg (by omega) (ev_pos (by omega) (ev_pos (by omega) (ev_pos (by rw [size_mk]; omega) (ev_eq (ev_now _) ?_))))))
    rw [Int.toNat_natCast, Int.toNat_natCast, cut_ev l (by omega) h2]
  induction d with
  | zero =>
    intro a h hf
    exact ⟨a, Nat.le_refl _, by omega, by rw [List.drop_eq_nil_of_le (by omega)]; rfl, ev_step (fun k => by simp only [lang_reader_word.l0] <;> exact rfl) (ev_neg (by rw [size_mk]; omega) (fin a hf (by omega)))⟩
  | succ d ih =>
    intro a h hf
    have hlt : a < l.length := by omega
    have hd : l.drop a = l[a] :: l.drop (a + 1) := List.drop_eq_getElem_cons hlt
    obtain ⟨_, hb, _⟩ := drop_lt l hd
    have more : isW l[a] = true → ∃ a' : Nat, a ≤ a' ∧ a' ≤ l.length ∧ a' = a + ((l.drop a).takeWhile isW).length ∧ Ev (fun k => lang_reader_word.j1 k (fr : Int) true (mkB l) (a : Int)) (mkB ((l.drop fr).take (a' - fr)), mkB l, (a' : Int)) := fun hw => by
      obtain ⟨a', h1, h2, h3, ev⟩ := ih (a + 1) (by omega) (by omega)
      refine ⟨a', by omega, h2, by rw [hd, List.takeWhile_cons_of_pos hw, List.length_cons]; omega, ev_step (fun k => by simp only [lang_reader_word.j1] <;> exact rfl) (ev_pos (by first | trivial | rfl) ?_)⟩
      rw [w64 (by omega) (by omega)]; exact ev
    have stop : isW l[a] = false → a = a + ((l.drop a).takeWhile isW).length := fun hw => by rw [hd, List.takeWhile_cons_of_neg (by rw [hw]; decide)]; rfl
    by_cases hL : isL l[a] = true
    · obtain ⟨a', h1, h2, h3, ev⟩ := more (by unfold isW; rw [hL]; rfl)
      refine ⟨a', h1, h2, h3, ev_step (fun k => by simp only [lang_reader_word.l0] <;> exact rfl) (ev_pos (by rw [size_mk]; omega) (ev_pos (by omega) ?_))⟩
      rw [hb, letter_ev l hl]; simp only [Option.bind_some]
      exact ev_pos hL ev
    · by_cases hD : isD l[a] = true
      · obtain ⟨a', h1, h2, h3, ev⟩ := more (by unfold isW; rw [hD]; simp)
        refine ⟨a', h1, h2, h3, ev_step (fun k => by simp only [lang_reader_word.l0] <;> exact rfl) (ev_pos (by rw [size_mk]; omega) (ev_pos (by omega) ?_))⟩
        rw [hb, letter_ev l hl, digit_ev' l hl]; simp only [Option.bind_some]
        exact ev_neg hL (ev_pos (by omega) (ev_pos hD ev))
      · by_cases h45 : (l[a].toNat : Int) = 45
        · obtain ⟨a', h1, h2, h3, ev⟩ := more (by unfold isW; rw [decide_eq_true h45]; simp)
          refine ⟨a', h1, h2, h3, ev_step (fun k => by simp only [lang_reader_word.l0] <;> exact rfl) (ev_pos (by rw [size_mk]; omega) (ev_pos (by omega) ?_))⟩
          rw [hb, letter_ev l hl, digit_ev' l hl]; simp only [Option.bind_some]
          refine ev_neg hL (ev_pos (by omega) (ev_neg hD ?_))
          rw [show ((l[a].toNat : Int) == 45) = true by simpa using h45]; exact ev
        · have hw : isW l[a] = false := by unfold isW; rw [decide_eq_false h45]; simp [hL, hD]
          refine ⟨a, Nat.le_refl _, by omega, stop hw, ev_step (fun k => by simp only [lang_reader_word.l0] <;> exact rfl) (ev_pos (by rw [size_mk]; omega) (ev_pos (by omega) ?_))⟩
          rw [hb, letter_ev l hl, digit_ev' l hl]; simp only [Option.bind_some]
          refine ev_neg hL (ev_pos (by omega) (ev_neg hD ?_))
          rw [show ((l[a].toNat : Int) == 45) = false by simpa using h45]; exact fin a hf (by omega)
theorem word_yes {at_ : Nat} (h : at_ ≤ l.length) {c : UInt8} {r : Bs} (hs : sp (l.drop at_) = c :: r) (hc : isL c = true) : ∃ a : Nat, a ≤ l.length ∧ l.drop a = r.dropWhile isW ∧ Ev (fun k => lang_reader_word.f k (mkB l) (at_ : Int)) (mkB (c :: r.takeWhile isW), mkB l, (a : Int)) := by
  obtain ⟨a, ha, he, ev⟩ := space_ev' l hl h
  rw [hs] at he
  obtain ⟨h1, h2, h3⟩ := drop_lt l he
  obtain ⟨a', g1, g2, g3, ev2⟩ := word_l0 l hl a (l.length - (a + 1)) (a + 1) (by omega) (by omega)
  rw [h3] at g3
  have e1 : l.drop a' = r.dropWhile isW := by rw [g3, ← List.drop_drop, h3]; exact (take_tw r).2
  have e2 : (l.drop a).take (a' - a) = c :: r.takeWhile isW := by rw [he, show a' - a = (r.takeWhile isW).length + 1 by omega, List.take_succ_cons, (take_tw r).1]
  refine ⟨a', g2, e1, ?_⟩
  rw [e2] at ev2
  unfold lang_reader_word.f
  refine Ev.bind ev (ev_step (fun k => by simp only [lang_reader_word.l0] <;> exact rfl) (ev_pos (by rw [size_mk]; omega) (ev_pos (by omega) ?_)))
  rw [h2, letter_ev l hl]; simp only [Option.bind_some]
  refine ev_pos hc (ev_step (fun k => by simp only [lang_reader_word.j1] <;> exact rfl) (ev_pos (by first | trivial | rfl) ?_))
  rw [w64 (by omega) (by omega)]; exact ev2
theorem word_no {at_ : Nat} (h : at_ ≤ l.length) (hs : ∀ c r, sp (l.drop at_) = c :: r → isL c = false) : Dies (fun k => lang_reader_word.f k (mkB l) (at_ : Int)) (fun k => lang_reader_word.p k (mkB l) (at_ : Int)) := by
  obtain ⟨a, ha, he, ev⟩ := space_ev' l hl h
  unfold lang_reader_word.f lang_reader_word.p
  have j1 : Nv (fun k => lang_reader_word.j1 k (a : Int) false (mkB l) (a : Int)) := nv_step (fun k => by simp only [lang_reader_word.j1] <;> exact rfl) (nv_neg (by simp) (nv_pos (by first | trivial | rfl) (Nv.left (fail_nv l hl _ _))))
  have pj1 : Ev (fun k => lang_reader_word.pj1 k (a : Int) false (mkB l) (a : Int)) () := ev_step (fun k => by simp only [lang_reader_word.pj1] <;> exact rfl) (ev_neg (by simp) (ev_pos (by first | trivial | rfl) (ev_now _)))
  by_cases hlt : a < l.length
  · have hd : l.drop a = l[a] :: l.drop (a + 1) := List.drop_eq_getElem_cons hlt
    obtain ⟨_, hb, _⟩ := drop_lt l hd
    have hL := hs l[a] (l.drop (a + 1)) (by rw [← he, hd])
    constructor
    · refine Nv.bind ev (nv_step (fun k => by simp only [lang_reader_word.l0] <;> exact rfl) (nv_pos (by rw [size_mk]; omega) (nv_pos (by omega) ?_)))
      rw [hb, letter_ev l hl, hL]; simp only [Option.bind_some]
      exact nv_neg (by simp) (nv_neg (by omega) j1)
    · refine Ev.bind ev (ev_step (fun k => by simp only [lang_reader_word.pl0] <;> exact rfl) (ev_pos (by rw [size_mk]; omega) (ev_pos (by omega) ?_)))
      rw [hb, letter_ev l hl, hL]; simp only [Option.bind_some]
      exact ev_neg (by simp) (ev_neg (by omega) pj1)
  · exact ⟨Nv.bind ev (nv_step (fun k => by simp only [lang_reader_word.l0] <;> exact rfl) (nv_neg (by rw [size_mk]; omega) j1)), Ev.bind ev (ev_step (fun k => by simp only [lang_reader_word.pl0] <;> exact rfl) (ev_neg (by rw [size_mk]; omega) pj1))⟩
end
end Go.Proofs.YtimikhbnihedkaaDoor.PAll
