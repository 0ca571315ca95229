/- greatest: the owners are a matching, and no matching is greater. -/
import Derived.Test.YtbmflpflmjfabaaPAllx0
import Derived.Test.YtbmflpflmjfabaaPAllf29
import Derived.Test.YtbmflpflmjfabaaPAllf30
import Derived.Test.YtbmflpflmjfabaaMMatBase
namespace Go.Proofs.Ytbmflpflmjfabaa.PAll.Mat
set_option linter.unusedVariables false
open Go Go.RowKit Go.Proofs.YtbmflpflmjfabaaW.PrintWords Go.Proofs.YtbmflpflmjfabaaW.PrintLast Go.Proofs.YtbmflpflmjfabaaW.PrintMore Go.Proofs.Ytbmflpflmjfabaa.MathNum Go.Proofs.Ytbmflpflmjfabaa.EvWords

theorem nodup_len {α : Type} [DecidableEq α] : ∀ {s l : List α}, s.Nodup → (∀ x ∈ s, x ∈ l) → s.length ≤ l.length := by
  intro s
  induction s with
  | nil => intro l _ _; simp
  | cons a t ih =>
    intro l hn hs
    rw [List.nodup_cons] at hn
    have ha : a ∈ l := hs a (by simp)
    have := ih (l := l.erase a) hn.2 (fun x hx => by
      have : x ≠ a := by rintro rfl; exact hn.1 hx
      exact (List.mem_erase_of_ne this).2 (hs x (by simp [hx])))
    have e := List.length_erase_of_mem ha
    have p : 0 < l.length := List.length_pos_of_mem ha
    simp only [List.length_cons]
    omega

/-- A matching: places in the table, no row and no column twice, the rows from fr on, columns that are not taken. -/
structure Mt (l : List (List Bool)) (tk : List Bool) (fr : Nat) (ps : List (Nat × Nat)) : Prop where
  rows : ps.Pairwise fun a b => a.1 ≠ b.1
  cols : ps.Pairwise fun a b => a.2 ≠ b.2
  ok : ∀ p ∈ ps, fr ≤ p.1 ∧ Ed l tk p.1 p.2
/-- The greatest size of a matching. -/
def IsNu (l : List (List Bool)) (tk : List Bool) (fr : Nat) (k : Nat) : Prop := (∃ ps, Mt l tk fr ps ∧ ps.length = k) ∧ ∀ ps, Mt l tk fr ps → ps.length ≤ k
theorem IsNu.uniq {l : List (List Bool)} {tk : List Bool} {fr k k' : Nat} (h : IsNu l tk fr k) (h' : IsNu l tk fr k') : k = k' := by
  obtain ⟨⟨ps, m, e⟩, u⟩ := h
  obtain ⟨⟨ps', m', e'⟩, u'⟩ := h'
  have := u ps' m'
  have := u' ps m
  omega

/-- The owners of the columns after the rows from fr to below rw. -/
structure Own (l : List (List Bool)) (tk : List Bool) (o : List Int) (fr rw : Nat) (S : Nat → Prop) : Prop where
  len : o.length = tk.length
  val : ∀ c, c < tk.length → ow o c = -1 ∨ ∃ r : Nat, fr ≤ r ∧ r < rw ∧ ow o c = (r : Int) ∧ Ed l tk r c
  once : ∀ x : Int, 0 ≤ x → o.count x ≤ 1
  clo : Clo l tk o S
  out : ∀ r : Nat, fr ≤ r → r < rw → o.count (r : Int) = 0 → ∀ c, Ed l tk r c → S c

theorem ow_of_count {o : List Int} {x : Int} (h : 0 < o.count x) : ∃ c, c < o.length ∧ ow o c = x := by
  obtain ⟨c, hc, e⟩ := List.getElem_of_mem (List.count_pos_iff.1 h)
  exact ⟨c, hc, by rw [ow_get hc, e]⟩
/-- A row owns one column at most. -/
theorem own_inj : ∀ {o : List Int} {x : Int} {c c' : Nat}, o.count x ≤ 1 → c < o.length → c' < o.length → ow o c = x → ow o c' = x → c = c' := by
  intro o x c c' h1 hc hc' h h'
  apply Classical.byContradiction
  intro hne
  have e := count_own (o := o) (c := c) (v := x - 1) hc x
  rw [if_pos h, if_neg (by omega)] at e
  have : 0 < (o.set c (x - 1)).count x := count_of_ow (c := c') (by simpa using hc') (by rw [ow_set hc, if_neg (by omega)]; exact h')
  omega

section
variable {l : List (List Bool)} {tk : List Bool}
theorem Own.lt {o : List Int} {fr rw : Nat} {S : Nat → Prop} (h : Own l tk o fr rw S) {c : Nat} (hc : c < tk.length) : ow o c < rw ∧ (ow o c = -1 ∨ (fr : Int) ≤ ow o c) := by
  rcases h.val c hc with g | ⟨r, g1, g2, g3, _⟩
  · exact ⟨by omega, Or.inl g⟩
  · exact ⟨by omega, Or.inr (by omega)⟩
theorem sb_rep {n c : Nat} : ¬ sb (List.replicate n false) c := by
  unfold sb; rw [rdB_rep]; simp
/-- One row more. -/
theorem Own.next {o : List Int} {fr rw : Nat} {S : Nat → Prop} (h : Own l tk o fr rw S) (hfr : fr ≤ rw) {b : Bool} {s' : List Bool} {o' : List Int} (f : Found l tk o (List.replicate tk.length false) rw b s' o') :
    ∃ S', Own l tk o' fr (rw + 1) S' ∧ (b = false → o' = o) ∧ o'.countP (fun x => decide (0 ≤ x)) = o.countP (fun x => decide (0 ≤ x)) + (if b = true then 1 else 0) := by
  have fresh : o.count (rw : Int) = 0 := by
    apply Nat.eq_zero_of_not_pos
    intro hp
    obtain ⟨c, hc, e⟩ := ow_of_count hp
    have := (h.lt (c := c) (by have := h.len; omega)).1
    omega
  cases b with
  | false =>
    obtain ⟨rfl, g, n⟩ := f.no rfl
    refine ⟨fun c => S c ∨ sb s' c, ⟨h.len, fun c hc => ?_, h.once, fun c hc hS => ?_, fun r hr hr' hcnt c hE => ?_⟩, fun _ => rfl, by simp⟩
    · rcases h.val c hc with q | ⟨r, q1, q2, q3⟩
      · exact Or.inl q
      · exact Or.inr ⟨r, q1, by omega, q3⟩
    · rcases hS with hS | hS
      · obtain ⟨a, b⟩ := h.clo c hc hS
        exact ⟨a, fun x hx => Or.inl (b x hx)⟩
      · obtain ⟨a, b⟩ := g.2 c hc hS sb_rep
        exact ⟨a, fun x hx => Or.inr (b x hx)⟩
    · by_cases e : r = rw
      · subst e; exact Or.inr (n c hE)
      · exact Or.inl (h.out r hr (by omega) hcnt c hE)
  | true =>
    have w := f.yes rfl
    refine ⟨S, ⟨by rw [w.len]; exact h.len, fun c hc => ?_, fun x hx => ?_, fun c hc hS => ?_, fun r hr hr' hcnt c hE => ?_⟩, (fun e => by cases e), by simpa using w.size⟩
    · rcases w.new c hc with q | ⟨_, q0, qE⟩
      · rw [q]
        rcases h.val c hc with z | ⟨r, z1, z2, z3⟩
        · exact Or.inl z
        · exact Or.inr ⟨r, z1, by omega, z3⟩
      · refine Or.inr ⟨(ow o' c).toNat, ?_, ?_, by omega, qE⟩
        · have cnt := w.count (ow o' c) q0
          have : 0 < o'.count (ow o' c) := count_of_ow (by rw [w.len, h.len]; exact hc) rfl
          by_cases e : (rw : Int) = ow o' c
          · omega
          · rw [if_neg e] at cnt
            obtain ⟨c2, hc2, e2⟩ := ow_of_count (o := o) (x := ow o' c) (by omega)
            have := (h.lt (c := c2) (by have := h.len; omega)).2
            omega
        · have cnt := w.count (ow o' c) q0
          have : 0 < o'.count (ow o' c) := count_of_ow (by rw [w.len, h.len]; exact hc) rfl
          by_cases e : (rw : Int) = ow o' c
          · omega
          · rw [if_neg e] at cnt
            obtain ⟨c2, hc2, e2⟩ := ow_of_count (o := o) (x := ow o' c) (by omega)
            have := (h.lt (c := c2) (by have := h.len; omega)).1
            omega
    · have cnt := w.count x hx
      have := h.once x hx
      by_cases e : (rw : Int) = x
      · subst e; rw [if_pos rfl] at cnt; omega
      · rw [if_neg e] at cnt; omega
    · rw [(w.clo S h.clo).2 c hc hS]
      exact h.clo c hc hS
    · have cnt := w.count (r : Int) (by omega)
      by_cases e : (rw : Int) = (r : Int)
      · rw [if_pos e] at cnt; omega
      · rw [if_neg e] at cnt
        exact h.out r hr (by omega) (by omega) c hE

/-- The columns that are owned. -/
def owned (m : Nat) (o : List Int) : List Nat := (List.range m).filter fun c => decide (0 ≤ ow o c)
theorem owned_mem {m c : Nat} {o : List Int} : c ∈ owned m o ↔ c < m ∧ 0 ≤ ow o c := by simp [owned]
theorem owned_nodup (m : Nat) (o : List Int) : (owned m o).Pairwise (· ≠ ·) := List.Pairwise.filter _ List.nodup_range
theorem owned_len {o : List Int} : (owned o.length o).length = o.countP (fun x => decide (0 ≤ x)) := by
  unfold owned
  rw [← List.countP_eq_length_filter]
  have e : o = (List.range o.length).map (ow o) := by
    refine List.ext_getElem (by simp) (fun i h1 h2 => ?_)
    simp only [List.getElem_map, List.getElem_range]
    rw [ow_get h1]
  conv => rhs; rw [e]
  rw [List.countP_map]; rfl
/-- The owners are a matching. -/
theorem Own.mt {o : List Int} {fr rw : Nat} {S : Nat → Prop} (h : Own l tk o fr rw S) : Mt l tk fr ((owned tk.length o).map fun c => ((ow o c).toNat, c)) := by
  have nd := owned_nodup tk.length o
  have mem : ∀ c ∈ owned tk.length o, c < tk.length ∧ ∃ r : Nat, fr ≤ r ∧ ow o c = (r : Int) ∧ Ed l tk r c := by
    intro c hc
    obtain ⟨h1, h2⟩ := owned_mem.1 hc
    rcases h.val c h1 with g | ⟨r, g1, _, g3, g4⟩
    · omega
    · exact ⟨h1, r, g1, g3, g4⟩
  refine ⟨?_, ?_, ?_⟩
  · rw [List.pairwise_map]
    refine List.Pairwise.imp_of_mem (fun {a b} ha hb hab e => ?_) nd
    obtain ⟨h1, r, _, h2, _⟩ := mem a ha
    obtain ⟨h3, r', _, h4, _⟩ := mem b hb
    simp only at e
    have := h.len
    exact hab (own_inj (h.once (ow o a) (by omega)) (by omega) (by omega) rfl (by omega))
  · rw [List.pairwise_map]
    exact List.Pairwise.imp (fun {a b} hab => hab) nd
  · intro p hp
    obtain ⟨c, hc, rfl⟩ := List.mem_map.1 hp
    obtain ⟨h1, r, h2, h3, h4⟩ := mem c hc
    simp only [h3, Int.toNat_natCast]
    exact ⟨h2, h4⟩
/-- No matching is greater: each of its places leads to an owned column of its own. -/
theorem Own.max {o : List Int} {fr : Nat} {S : Nat → Prop} (h : Own l tk o fr l.length S) {ps : List (Nat × Nat)} (hm : Mt l tk fr ps) : ps.length ≤ o.countP (fun x => decide (0 ≤ x)) := by
  have key : ∀ p : Nat × Nat, p ∈ ps → ∃ c, c ∈ owned tk.length o ∧ (S p.2 ∧ c = p.2 ∨ ¬ S p.2 ∧ ow o c = (p.1 : Int)) := by
    intro p hp
    obtain ⟨h1, h2⟩ := hm.ok p hp
    by_cases hS : S p.2
    · exact ⟨p.2, owned_mem.2 ⟨h2.2.1, (h.clo _ h2.2.1 hS).1⟩, Or.inl ⟨hS, rfl⟩⟩
    · by_cases hc : o.count (p.1 : Int) = 0
      · exact absurd (h.out p.1 h1 h2.1 hc p.2 h2) hS
      · obtain ⟨c, hc', e⟩ := ow_of_count (o := o) (x := (p.1 : Int)) (by omega)
        have := h.len
        exact ⟨c, owned_mem.2 ⟨by omega, by omega⟩, Or.inr ⟨hS, e⟩⟩
  let g : Nat × Nat → Nat := fun p => if hp : p ∈ ps then (key p hp).choose else 0
  have gs : ∀ p, p ∈ ps → g p ∈ owned tk.length o ∧ (S p.2 ∧ g p = p.2 ∨ ¬ S p.2 ∧ ow o (g p) = (p.1 : Int)) := by
    intro p hp
    have e : g p = (key p hp).choose := dif_pos hp
    rw [e]; exact (key p hp).choose_spec
  have nd : (ps.map g).Nodup := by
    show (ps.map g).Pairwise (· ≠ ·)
    rw [List.pairwise_map]
    refine List.Pairwise.imp_of_mem (fun {a b} ha hb hab e => ?_) (hm.rows.and hm.cols)
    obtain ⟨a1, a2⟩ := gs a ha
    obtain ⟨b1, b2⟩ := gs b hb
    have oka := (hm.ok a ha).2
    have okb := (hm.ok b hb).2
    rcases a2 with ⟨a2, a3⟩ | ⟨a2, a3⟩ <;> rcases b2 with ⟨b2, b3⟩ | ⟨b2, b3⟩
    · exact hab.2 (by rw [← a3, ← b3, e])
    · refine b2 ((h.clo (g a) (owned_mem.1 a1).1 (by rw [a3]; exact a2)).2 b.2 ?_)
      rw [e, b3, Int.toNat_natCast]; exact okb
    · refine a2 ((h.clo (g b) (owned_mem.1 b1).1 (by rw [b3]; exact b2)).2 a.2 ?_)
      rw [← e, a3, Int.toNat_natCast]; exact oka
    · rw [e, b3] at a3; exact hab.1 (by omega)
  have := nodup_len nd (fun x hx => by obtain ⟨p, hp, rfl⟩ := List.mem_map.1 hx; exact (gs p hp).1)
  rw [List.length_map] at this
  have e := owned_len (o := o)
  rw [h.len] at e
  omega
theorem Own.nu {o : List Int} {fr : Nat} {S : Nat → Prop} (h : Own l tk o fr l.length S) : IsNu l tk fr (o.countP (fun x => decide (0 ≤ x))) := by
  refine ⟨⟨_, h.mt, ?_⟩, fun ps hm => h.max hm⟩
  rw [List.length_map]
  have e := owned_len (o := o)
  rw [h.len] at e
  exact e

/-- The program's loops. -/
theorem great_l1 (T : Tab l tk.length) {fr : Nat} (d : Nat) : ∀ (r : Nat) (o : List Int) (S : Nat → Prop), r + d = l.length → fr ≤ r → Own l tk o fr r S →
    ∃ o' S', Ev (fun k => match_greatest.l1 k ((o.countP (fun x => decide (0 ≤ x)) : Nat) : Int) (r : Int) l tk o) (o', ((o'.countP (fun x => decide (0 ≤ x)) : Nat) : Int)) ∧ Own l tk o' fr l.length S' := by
  have hr := T.rows
  have hc := T.cols
  induction d with
  | zero =>
    intro r o S hd hfr h
    have : r = l.length := by omega
    subst this
    exact ⟨o, S, ev_step (fun k => by simp only [match_greatest.l1] <;> exact rfl) (ev_neg (by omega) (ev_now _)), h⟩
  | succ d ih =>
    intro r o S hd hfr h
    have hl := h.len
    have le := List.countP_le_length (p := fun x : Int => decide (0 ≤ x)) (l := o)
    obtain ⟨b, s', o1, e1, f1⟩ := searches T tk.length r (List.replicate tk.length false) o (by omega) (by simp) hl (fun c hc => by have := (h.lt hc).1; omega) (by rw [List.count_replicate_self]; omega)
    obtain ⟨S1, h1, keep, size⟩ := h.next hfr f1
    obtain ⟨o', S', e2, h2⟩ := ih (r + 1) o1 S1 (by omega) (by omega) h1
    refine ⟨o', S', ev_step (fun k => by simp only [match_greatest.l1] <;> exact rfl) (ev_pos (by omega) (ev_pos (by omega) (ev_pos (by rw [hl]; omega) ?_))), h2⟩
    rw [show ((o.length : Int)).toNat = tk.length by omega]
    refine Ev.bind e1 ?_
    cases b with
    | true =>
      rw [if_pos rfl] at size
      refine ev_pos rfl ?_
      rw [w64 (n := ((o.countP (fun x => decide (0 ≤ x)) : Nat) : Int) + 1) (by omega) (by omega), w64 (n := (r : Int) + 1) (by omega) (by omega)]
      rw [show ((o.countP (fun x => decide (0 ≤ x)) : Nat) : Int) + 1 = ((o1.countP (fun x => decide (0 ≤ x)) : Nat) : Int) by omega]
      exact e2
    | false =>
      refine ev_neg (by simp) ?_
      rw [w64 (n := (r : Int) + 1) (by omega) (by omega)]
      rw [keep rfl] at e2 ⊢
      exact e2
theorem great_l0 {fr : Int} {m : Nat} (hm : m ≤ 24) {R : List Int × Int} (h : Ev (fun k => match_greatest.l1 k 0 fr l tk (List.replicate m (-1))) R) (d : Nat) : ∀ (i : Nat), i + d = m → Ev (fun k => match_greatest.l0 k fr (m : Int) (i : Int) l tk (List.replicate i (-1) ++ List.replicate d 0)) R := by
  induction d with
  | zero =>
    intro i hi
    have : i = m := by omega
    subst this
    rw [List.replicate_zero, List.append_nil]
    exact ev_step (fun k => by simp only [match_greatest.l0] <;> exact rfl) (ev_neg (by omega) h)
  | succ d ih =>
    intro i hi
    refine ev_step (fun k => by simp only [match_greatest.l0] <;> exact rfl) (ev_pos (by omega) (ev_pos (by omega) (ev_pos (by simp; omega) ?_)))
    rw [w64 (by omega) (by omega), Int.toNat_natCast]
    have e : (List.replicate i (-1 : Int) ++ List.replicate (d + 1) 0).set i (-1) = List.replicate (i + 1) (-1) ++ List.replicate d 0 := by
      rw [List.set_append_right _ _ (by simp), List.length_replicate, Nat.sub_self, List.replicate_succ, List.set_cons_zero, List.replicate_succ', List.append_assoc]; rfl
    rw [e]
    exact ih (i + 1) (by omega)
theorem columns_some (T : Tab l tk.length) : match_columns.f l = some (tk.length : Int) := by
  unfold match_columns.f
  by_cases h : (l.length : Int) = 0
  · rw [if_pos h, T.none (by omega)]; rfl
  · rw [if_neg h, if_pos (by omega)]
    have := T.wide 0 (by omega)
    rw [show (rd_L3 l 0) = rd_L3 l ((0 : Nat) : Int) from rfl, this]
/-- What greatest answers: owners, and the greatest size of a matching. -/
theorem greatest_ev (T : Tab l tk.length) {fr : Nat} (hfr : fr ≤ l.length) : ∃ o S, Ev (fun k => match_greatest.f k l (fr : Int) tk) (o, ((o.countP (fun x => decide (0 ≤ x)) : Nat) : Int)) ∧ Own l tk o fr l.length S := by
  have hc := T.cols
  have start : Own l tk (List.replicate tk.length (-1)) fr fr (fun _ => False) := by
    refine ⟨by simp, fun c hc => Or.inl ?_, fun x hx => ?_, fun c _ h => h.elim, fun r h1 h2 => by omega⟩
    · unfold ow; exact rd_rep (by omega) (by omega)
    · rw [List.count_replicate, if_neg (by simp; omega)]; omega
  have z : (List.replicate tk.length (-1 : Int)).countP (fun x => decide (0 ≤ x)) = 0 := by
    rw [List.countP_replicate]; simp
  obtain ⟨o, S, e, h⟩ := great_l1 T (l.length - fr) fr (List.replicate tk.length (-1)) (fun _ => False) (by omega) (Nat.le_refl _) start
  rw [z] at e
  refine ⟨o, S, ?_, h⟩
  simp only [match_greatest.f, columns_some T, Option.bind_some]
  refine ev_pos (by omega) (ev_pos (by omega) ?_)
  rw [List.length_replicate, Int.toNat_natCast]
  exact great_l0 hc e tk.length 0 (by omega)
end
end Go.Proofs.Ytbmflpflmjfabaa.PAll.Mat
