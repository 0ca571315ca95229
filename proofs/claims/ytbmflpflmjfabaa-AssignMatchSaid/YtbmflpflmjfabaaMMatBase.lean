/- Greatest matchings by enlarging: the search for a way that enlarges, as printed. -/
import Derived.Test.YtbmflpflmjfabaaPAllx0
import Derived.Test.YtbmflpflmjfabaaPAllf33
import Derived.Test.YtbmflpflmjfabaaMathNum
import Derived.Test.YtbmflpflmjfabaaEvWords
namespace Go.Proofs.Ytbmflpflmjfabaa.PAll.Mat
set_option linter.unusedVariables false
open Go Go.RowKit Go.Proofs.YtbmflpflmjfabaaW.PrintWords Go.Proofs.YtbmflpflmjfabaaW.PrintLast Go.Proofs.YtbmflpflmjfabaaW.PrintMore Go.Proofs.Ytbmflpflmjfabaa.MathNum Go.Proofs.Ytbmflpflmjfabaa.EvWords

/-- A mark, and an owner. -/
def sb (s : List Bool) (c : Nat) : Prop := rdOf false s (c : Int) = true
instance (s : List Bool) (c : Nat) : Decidable (sb s c) := by unfold sb; exact inferInstance
def ow (o : List Int) (c : Nat) : Int := rd o (c : Int)
/-- A table of n rows with m columns. -/
structure Tab (l : List (List Bool)) (m : Nat) : Prop where
  rows : l.length ≤ 24
  cols : m ≤ 24
  wide : ∀ r, r < l.length → (rd_L3 l (r : Int)).length = m
  none : l.length = 0 → m = 0
/-- The row r may have the column c. -/
def Ed (l : List (List Bool)) (tk : List Bool) (r c : Nat) : Prop := r < l.length ∧ c < tk.length ∧ rdOf false (rd_L3 l (r : Int)) (c : Int) = true ∧ ¬ sb tk c

theorem sb_set {s : List Bool} {c x : Nat} (hc : c < s.length) : sb (s.set c true) x ↔ x = c ∨ sb s x := by
  unfold sb
  have := rdB_set (l := s) (i := (c : Int)) (j := (x : Int)) (v := true) (by omega) (by omega) (by omega)
  rw [Int.toNat_natCast] at this
  rw [this]
  by_cases h : x = c
  · simp [h]
  · rw [if_neg (by omega)]; simp [h]
theorem ow_set {o : List Int} {c x : Nat} {v : Int} (hc : c < o.length) : ow (o.set c v) x = if x = c then v else ow o x := by
  unfold ow
  have := rd_set (l := o) (i := (c : Int)) (j := (x : Int)) (v := v) (by omega) (by omega) (by omega)
  rw [Int.toNat_natCast] at this
  rw [this]
  by_cases h : x = c
  · rw [if_pos h, if_pos (by omega)]
  · rw [if_neg h, if_neg (by omega)]
theorem ow_get {o : List Int} {c : Nat} (hc : c < o.length) : ow o c = o[c] := by
  unfold ow rd
  rw [List.getD_eq_getElem?_getD, Int.toNat_natCast, List.getElem?_eq_getElem hc]; rfl
theorem sb_get {s : List Bool} {c : Nat} (hc : c < s.length) : sb s c ↔ s[c] = true := by
  unfold sb rdOf
  rw [List.getD_eq_getElem?_getD, Int.toNat_natCast, List.getElem?_eq_getElem hc]; rfl
theorem count_false {s : List Bool} {c : Nat} (hc : c < s.length) (h : ¬ sb s c) : (s.set c true).count false + 1 = s.count false := by
  rw [sb_get hc, Bool.not_eq_true] at h
  rw [List.count_set hc]
  have : 0 < s.count false := List.count_pos_iff.2 (h ▸ List.getElem_mem hc)
  simp [h]; omega
theorem count_mono : ∀ (s s' : List Bool), s.length = s'.length → (∀ c (h : c < s.length) (h' : c < s'.length), s[c] = true → s'[c] = true) → s'.count false ≤ s.count false := by
  intro s
  induction s with
  | nil => intro s' h _; rw [List.eq_nil_of_length_eq_zero h.symm]; simp
  | cons a t ih =>
    intro s' h g
    cases s' with
    | nil => simp at h
    | cons b t' =>
      have h1 := ih t' (by simpa using h) (fun c hc hc' => g (c + 1) (by simpa using hc) (by simpa using hc'))
      have h2 := g 0 (by simp) (by simp)
      simp only [List.getElem_cons_zero] at h2
      rw [List.count_cons, List.count_cons]
      cases a <;> cases b <;> simp at h2 ⊢ <;> omega
theorem count_mono' {s s' : List Bool} (h : s'.length = s.length) (g : ∀ c, sb s c → sb s' c) : s'.count false ≤ s.count false :=
  count_mono s s' h.symm (fun c hc hc' hs => (sb_get hc').1 (g c ((sb_get hc).2 hs)))
theorem count_own {o : List Int} {c : Nat} {v : Int} (hc : c < o.length) (x : Int) : (o.set c v).count x + (if ow o c = x then 1 else 0) = o.count x + if v = x then 1 else 0 := by
  rw [List.count_set hc, ow_get hc]
  by_cases h : o[c] = x
  · have : 0 < o.count x := List.count_pos_iff.2 (h ▸ List.getElem_mem hc)
    by_cases g : v = x
    · simp [h, g]; omega
    · simp [h, g]; omega
  · by_cases g : v = x
    · simp [h, g]
    · simp [h, g]
theorem count_of_ow {o : List Int} {c : Nat} (hc : c < o.length) {x : Int} (h : ow o c = x) : 0 < o.count x :=
  List.count_pos_iff.2 (by rw [ow_get hc] at h; exact h ▸ List.getElem_mem hc)

section
variable {l : List (List Bool)} {tk : List Bool}
/-- What was seen anew is owned, and what its owners may have is seen. -/
def Grown (l : List (List Bool)) (tk : List Bool) (o : List Int) (s s' : List Bool) : Prop :=
  (∀ c, sb s c → sb s' c) ∧ ∀ c, c < tk.length → sb s' c → ¬ sb s c → 0 ≤ ow o c ∧ ∀ x, Ed l tk (ow o c).toNat x → sb s' x
theorem Grown.refl (o : List Int) (s : List Bool) : Grown l tk o s s := ⟨fun _ h => h, fun _ _ h g => absurd h g⟩
theorem Grown.trans {o : List Int} {s s' s2 : List Bool} (h : Grown l tk o s s') (g : Grown l tk o s' s2) : Grown l tk o s s2 := by
  refine ⟨fun c hc => g.1 c (h.1 c hc), fun c hc h2 h0 => ?_⟩
  by_cases h1 : sb s' c
  · obtain ⟨a, b⟩ := h.2 c hc h1 h0
    exact ⟨a, fun x hx => g.1 x (b x hx)⟩
  · exact g.2 c hc h2 h1
/-- A set of columns that are owned, and that holds whatever their owners may have. -/
def Clo (l : List (List Bool)) (tk : List Bool) (o : List Int) (S : Nat → Prop) : Prop := ∀ c, c < tk.length → S c → 0 ≤ ow o c ∧ ∀ x, Ed l tk (ow o c).toNat x → S x
/-- The row r got a column; the others that had one have one. -/
structure Won (l : List (List Bool)) (tk : List Bool) (o : List Int) (s : List Bool) (r : Nat) (o' : List Int) : Prop where
  len : o'.length = o.length
  count : ∀ x : Int, 0 ≤ x → o'.count x = o.count x + if (r : Int) = x then 1 else 0
  size : o'.countP (fun x => decide (0 ≤ x)) = o.countP (fun x => decide (0 ≤ x)) + 1
  new : ∀ c, c < tk.length → ow o' c = ow o c ∨ ¬ sb s c ∧ 0 ≤ ow o' c ∧ Ed l tk (ow o' c).toNat c
  clo : ∀ S : Nat → Prop, Clo l tk o S → (∃ x, Ed l tk r x ∧ ¬ S x) ∧ ∀ c, c < tk.length → S c → ow o' c = ow o c
/-- What a search answers. -/
structure Found (l : List (List Bool)) (tk : List Bool) (o : List Int) (s : List Bool) (r : Nat) (b : Bool) (s' : List Bool) (o' : List Int) : Prop where
  slen : s'.length = s.length
  no : b = false → o' = o ∧ Grown l tk o s s' ∧ ∀ x, Ed l tk r x → sb s' x
  yes : b = true → Won l tk o s r o'
theorem countP_set' {o : List Int} {c : Nat} {v : Int} (hc : c < o.length) : (o.set c v).countP (fun x => decide (0 ≤ x)) + (if 0 ≤ ow o c then 1 else 0) = o.countP (fun x => decide (0 ≤ x)) + if 0 ≤ v then 1 else 0 := by
  rw [List.countP_set hc, ow_get hc]
  by_cases h : 0 ≤ o[c]
  · have : 0 < o.countP (fun x => decide (0 ≤ x)) := List.countP_pos_iff.2 ⟨o[c], List.getElem_mem hc, by simpa using h⟩
    by_cases g : 0 ≤ v
    · simp [h, g]; omega
    · simp [h, g]; omega
  · by_cases g : 0 ≤ v
    · simp [h, g]
    · simp [h, g]
/-- A free column. -/
theorem Won.free {o : List Int} {s : List Bool} {r c : Nat} (ho : o.length = tk.length) (hc : c < tk.length) (hs : ¬ sb s c) (he : Ed l tk r c) (hf : ow o c < 0) : Won l tk o s r (o.set c (r : Int)) where
  len := by simp
  count := fun x hx => by
    have := count_own (o := o) (c := c) (v := (r : Int)) (by omega) x
    rw [if_neg (by omega)] at this
    omega
  size := by
    have := countP_set' (o := o) (c := c) (v := (r : Int)) (by omega)
    rw [if_neg (by omega), if_pos (by omega)] at this; omega
  new := fun x hx => by
    rw [ow_set (by omega)]
    by_cases h : x = c
    · subst h; rw [if_pos rfl]; exact Or.inr ⟨hs, by omega, by simpa using he⟩
    · rw [if_neg h]; exact Or.inl rfl
  clo := fun S hS => by
    have hn : ¬ S c := fun h => by have := (hS c hc h).1; omega
    refine ⟨⟨c, he, hn⟩, fun x hx h => ?_⟩
    rw [ow_set (by omega), if_neg (by rintro rfl; exact hn h)]
/-- A column whose owner got another one. -/
theorem Won.turn {o o' : List Int} {s : List Bool} {r c : Nat} (ho : o.length = tk.length) (hsl : s.length = tk.length) (hc : c < tk.length) (hs : ¬ sb s c) (he : Ed l tk r c) (hf : 0 ≤ ow o c) (w : Won l tk o (s.set c true) (ow o c).toNat o') : Won l tk o s r (o'.set c (r : Int)) := by
  have hl := w.len
  have keep : ow o' c = ow o c := by
    rcases w.new c hc with h | h
    · exact h
    · exact absurd ((sb_set (by omega)).2 (Or.inl rfl)) h.1
  refine ⟨by simp [hl], fun x hx => ?_, ?_, fun x hx => ?_, fun S hS => ?_⟩
  · have h1 := count_own (o := o') (c := c) (v := (r : Int)) (by omega) x
    have h2 := w.count x hx
    rw [keep] at h1
    rw [show ((ow o c).toNat : Int) = ow o c by omega] at h2
    omega
  · have h1 := countP_set' (o := o') (c := c) (v := (r : Int)) (by omega)
    rw [keep, if_pos hf, if_pos (by omega)] at h1
    have := w.size
    omega
  · rw [ow_set (by omega)]
    by_cases h : x = c
    · subst h; rw [if_pos rfl]; exact Or.inr ⟨hs, by omega, by simpa using he⟩
    · rw [if_neg h]
      rcases w.new x hx with g | g
      · exact Or.inl g
      · exact Or.inr ⟨fun q => g.1 ((sb_set (by omega)).2 (Or.inr q)), g.2⟩
  · obtain ⟨⟨x, hx, hxS⟩, g⟩ := w.clo S hS
    have hn : ¬ S c := fun h => hxS ((hS c hc h).2 x hx)
    refine ⟨⟨c, he, hn⟩, fun y hy h => ?_⟩
    rw [ow_set (by omega), if_neg (by rintro rfl; exact hn h)]
    exact g y hy h
/-- What is won with less to be seen is won. -/
theorem Won.weaken {o o' : List Int} {s s' : List Bool} {r : Nat} (h : ∀ c, sb s c → sb s' c) (w : Won l tk o s' r o') : Won l tk o s r o' :=
  ⟨w.len, w.count, w.size, fun c hc => (w.new c hc).imp id fun g => ⟨fun q => g.1 (h c q), g.2⟩, w.clo⟩

/-- The search for a way that enlarges. -/
def Searches (l : List (List Bool)) (tk : List Bool) (d : Nat) : Prop := ∀ (r : Nat) (s : List Bool) (o : List Int), r < l.length → s.length = tk.length → o.length = tk.length → (∀ c, c < tk.length → ow o c < l.length) → s.count false ≤ d →
  ∃ b s' o', Ev (fun k => match_greatest_fn1.f k (r : Int) l tk s o) (b, s', o') ∧ Found l tk o s r b s' o'
theorem search_loop (T : Tab l tk.length) {d : Nat} (IH : ∀ d', d' < d → Searches l tk d') {r : Nat} (hr : r < l.length) {o : List Int} (ho : o.length = tk.length) (hlt : ∀ c, c < tk.length → ow o c < l.length) {s0 : List Bool} (e : Nat) :
    ∀ (i : Nat) (s : List Bool), i + e = tk.length → s.length = tk.length → s0.length = tk.length → s.count false ≤ d → Grown l tk o s0 s → (∀ c, c < i → Ed l tk r c → sb s c) →
    ∃ b s' o', Ev (fun k => match_greatest_fn1.l0 k (r : Int) l tk s o (rd_L3 l (r : Int)) ((rd_L3 l (r : Int)).length : Int) (i : Int)) (b, s', o') ∧ Found l tk o s0 r b s' o' := by
  have hw := T.wide r hr
  have hm := T.cols
  induction e with
  | zero =>
    intro i s hi hs hs0 hd hg hp
    refine ⟨false, s, o, ev_step (fun k => by simp only [match_greatest_fn1.l0] <;> exact rfl) (ev_neg (by omega) (ev_now _)), by omega, fun _ => ⟨rfl, hg, fun x hx => hp x (by have := hx.2.1; omega) hx⟩, fun h => by cases h⟩
  | succ e ih =>
    intro i s hi hs hs0 hd hg hp
    have hil : i < tk.length := by omega
    have skip : sb s i ∨ ¬ Ed l tk r i → ∃ b s' o', Ev (fun k => match_greatest_fn1.j1 k (r : Int) l tk s o (i : Int) (rd_L3 l (r : Int)) ((rd_L3 l (r : Int)).length : Int) (i : Int) true) (b, s', o') ∧ Found l tk o s0 r b s' o' := by
      intro h
      obtain ⟨b, s', o', e1, f1⟩ := ih (i + 1) s (by omega) hs hs0 hd hg (fun c hc hE => by
        by_cases hci : c = i
        · subst hci; exact h.elim id (fun q => absurd hE q)
        · exact hp c (by omega) hE)
      refine ⟨b, s', o', ev_step (fun k => by simp only [match_greatest_fn1.j1] <;> exact rfl) (ev_pos (show true = true from rfl) ?_), f1⟩
      rw [w64 (by omega) (by omega)]; exact e1
    by_cases h1 : rdOf false (rd_L3 l (r : Int)) (i : Int) = true
    · by_cases h2 : sb tk i
      · obtain ⟨b, s', o', e1, f1⟩ := skip (Or.inr fun h => h.2.2.2 h2)
        exact ⟨b, s', o', ev_step (fun k => by simp only [match_greatest_fn1.l0] <;> exact rfl) (ev_pos (by omega) (ev_pos (by omega) (ev_pos (by omega) (ev_pos h1 (ev_pos (by omega) (ev_pos h2 e1)))))), f1⟩
      · have hE : Ed l tk r i := ⟨hr, hil, h1, h2⟩
        by_cases h3 : sb s i
        · obtain ⟨b, s', o', e1, f1⟩ := skip (Or.inl h3)
          refine ⟨b, s', o', ev_step (fun k => by simp only [match_greatest_fn1.l0] <;> exact rfl) (ev_pos (by omega) (ev_pos (by omega) (ev_pos (by omega) (ev_pos h1 (ev_pos (by omega) (ev_neg h2 (ev_pos (by omega) ?_))))))), f1⟩
          rw [show rdOf false s (i : Int) = true from h3]; exact e1
        · have cf := count_false (s := s) (c := i) (by omega) h3
          have hs' : (s.set i true).length = tk.length := by simp [hs]
          have mk : sb (s.set i true) i := (sb_set (by omega)).2 (Or.inl rfl)
          have go : ∀ {R : Bool × List Bool × List Int}, Ev (fun k => if (ow o i) < 0 then (some (true, s.set i true, (o.set i (r : Int)))) else ((match_greatest_fn1.f k (ow o i) l tk (s.set i true) o).bind fun bt113 => (if bt113.1 = true then (some (true, bt113.2.1, (bt113.2.2.set i (r : Int)))) else (match_greatest_fn1.l0 k (r : Int) l tk bt113.2.1 bt113.2.2 (rd_L3 l (r : Int)) ((rd_L3 l (r : Int)).length : Int) (wrap64 ((i : Int) + 1)))))) R →
              Ev (fun k => match_greatest_fn1.l0 k (r : Int) l tk s o (rd_L3 l (r : Int)) ((rd_L3 l (r : Int)).length : Int) (i : Int)) R := by
            intro R h
            refine ev_step (fun k => by simp only [match_greatest_fn1.l0] <;> exact rfl) (ev_pos (by omega) (ev_pos (by omega) (ev_pos (by omega) (ev_pos h1 (ev_pos (by omega) (ev_neg h2 (ev_pos (by omega) ?_)))))))
            rw [show rdOf false s (i : Int) = false by rw [← Bool.not_eq_true]; exact h3]
            refine ev_step (fun k => by simp only [match_greatest_fn1.j1] <;> exact rfl) (ev_neg (by simp) (ev_pos (by omega) (ev_pos (by omega) ?_)))
            simp only [Option.bind_some, Int.toNat_natCast]
            exact ev_pos (by omega) h
          by_cases h4 : ow o i < 0
          · refine ⟨true, s.set i true, o.set i (r : Int), go (ev_pos h4 (ev_now _)), by simp; omega, (fun h => by cases h), fun _ => (Won.free ho hil h3 hE h4).weaken hg.1⟩
          · obtain ⟨b, s', o', e1, f1⟩ := IH (d - 1) (by omega) (ow o i).toNat (s.set i true) o (by have := hlt i hil; omega) hs' ho hlt (by omega)
            rw [show ((ow o i).toNat : Int) = ow o i by omega] at e1
            cases b with
            | true =>
              refine ⟨true, s', o'.set i (r : Int), go (ev_neg h4 (Ev.bind e1 (ev_pos rfl (ev_now _)))), by rw [f1.slen]; omega, (fun h => by cases h), fun _ => (Won.turn ho hs hil h3 hE (by omega) (f1.yes rfl)).weaken hg.1⟩
            | false =>
              obtain ⟨rfl, g1, n1⟩ := f1.no rfl
              have hgs : Grown l tk o' s s' := by
                refine ⟨fun c hc => g1.1 c ((sb_set (by omega)).2 (Or.inr hc)), fun c hc h5 h6 => ?_⟩
                by_cases hci : c = i
                · subst hci; exact ⟨by omega, n1⟩
                · exact g1.2 c hc h5 (fun q => ((sb_set (by omega)).1 q).elim hci h6)
              have si : sb s' i := g1.1 i mk
              obtain ⟨b2, s2, o2, e2, f2⟩ := ih (i + 1) s' (by omega) (by rw [f1.slen]; exact hs') hs0 (by
                have := count_mono' f1.slen g1.1
                omega) (hg.trans hgs) (fun c hc hE' => by
                by_cases hci : c = i
                · subst hci; exact si
                · exact hgs.1 c (hp c (by omega) hE'))
              refine ⟨b2, s2, o2, go (ev_neg h4 (Ev.bind e1 (ev_neg (by simp) ?_))), f2⟩
              rw [w64 (by omega) (by omega)]; exact e2
    · obtain ⟨b, s', o', e1, f1⟩ := skip (Or.inr fun h => h1 h.2.2.1)
      exact ⟨b, s', o', ev_step (fun k => by simp only [match_greatest_fn1.l0] <;> exact rfl) (ev_pos (by omega) (ev_pos (by omega) (ev_pos (by omega) (ev_neg h1 e1)))), f1⟩
theorem searches (T : Tab l tk.length) : ∀ d, Searches l tk d := by
  intro d
  induction d using Nat.strongRecOn with
  | _ d IH =>
    intro r s o hr hs ho hlt hd
    obtain ⟨b, s', o', e1, f1⟩ := search_loop T IH hr ho hlt (s0 := s) tk.length 0 s (by omega) hs hs hd (Grown.refl o s) (fun c hc => by omega)
    exact ⟨b, s', o', ev_step (fun k => by simp only [match_greatest_fn1.f] <;> exact rfl) (ev_pos (by omega) (ev_pos (by omega) e1)), f1⟩
end
end Go.Proofs.Ytbmflpflmjfabaa.PAll.Mat
