/- Cover: what is reached from the rows that got nothing. -/
import Derived.Test.YtaacihkhckpecaaPAllx0
import Derived.Test.YtaacihkhckpecaaPAllf30
import Derived.Test.YtaacihkhckpecaaMatCheck
namespace Go.Proofs.Ytaacihkhckpecaa.PAll
set_option linter.unusedVariables false
open Go Go.RowKit Go.Proofs.YtaacihkhckpecaaW.PrintWords Go.Proofs.YtaacihkhckpecaaW.PrintLast Go.Proofs.YtaacihkhckpecaaW.PrintMore Go.Proofs.Ytaacihkhckpecaa.MathNum Go.Proofs.Ytaacihkhckpecaa.EvWords

section
variable {l : List (List Bool)} {tk : List Bool} {o : List Int} {S : Nat → Prop}
/-- What is marked anew, but for the row a: its columns are marked, and it owns a marked one. -/
structure Ext (l : List (List Bool)) (tk : List Bool) (o : List Int) (S : Nat → Prop) (R C R' C' : List Bool) (a : Nat) : Prop where
  rlen : R'.length = R.length
  clen : C'.length = C.length
  rsub : ∀ r, sb R r → sb R' r
  csub : ∀ c, sb C c → sb C' c
  row : ∀ r, r < l.length → sb R' r → ¬ sb R r → r ≠ a → (∀ x, Ed l tk r x → sb C' x) ∧ ∃ c, c < tk.length ∧ sb C' c ∧ ow o c = (r : Int)
  col : ∀ c, c < tk.length → sb C' c → ¬ sb C c → S c ∧ ∃ r : Nat, r < l.length ∧ ow o c = (r : Int) ∧ sb R' r
  self : sb R' a
/-- The search from a row. -/
def Reaches (l : List (List Bool)) (tk : List Bool) (o : List Int) (S : Nat → Prop) (d : Nat) : Prop := ∀ (a : Nat) (R C : List Bool), a < l.length → R.length = l.length → C.length = tk.length → R.count false ≤ d → (∀ x, Ed l tk a x → S x) →
  ∃ R' C', Ev (fun k => match_Cover_fn1.f k (a : Int) R l C o) (R', C') ∧ Ext l tk o S R C R' C' a ∧ (sb R a ∨ ∀ x, Ed l tk a x → sb C' x)
theorem reach_loop (T : Tab l tk.length) (hO : Own l tk o 0 l.length S) (hfree : ∀ c, ¬ sb tk c) {d : Nat} (IH : ∀ d', d' < d → Reaches l tk o S d') {a : Nat} (ha : a < l.length) {R C : List Bool} (hR : R.length = l.length) (hC : C.length = tk.length) (hna : ¬ sb R a) (hd : R.count false ≤ d) (hN : ∀ x, Ed l tk a x → S x) (e : Nat) :
    ∀ (i : Nat) (R1 C1 : List Bool), i + e = tk.length → Ext l tk o S R C R1 C1 a → (∀ x, x < i → Ed l tk a x → sb C1 x) →
    ∃ R' C', Ev (fun k => match_Cover_fn1.l0 k R1 l C1 o (rd_L1 l (a : Int)) ((rd_L1 l (a : Int)).length : Int) (i : Int)) (R', C') ∧ Ext l tk o S R C R' C' a ∧ ∀ x, Ed l tk a x → sb C' x := by
  have hw := T.wide a ha
  have hm := T.cols
  have hol := hO.len
  induction e with
  | zero =>
    intro i R1 C1 hi E hp
    exact ⟨R1, C1, ev_step (fun k => by simp only [match_Cover_fn1.l0] <;> exact rfl) (ev_neg (by omega) (ev_now _)), E, fun x hx => hp x (by have := hx.2.1; omega) hx⟩
  | succ e ih =>
    intro i R1 C1 hi E hp
    have hil : i < tk.length := by omega
    have c1l := E.clen
    have r1l := E.rlen
    have skip : sb C1 i ∨ ¬ Ed l tk a i → ∃ R' C', Ev (fun k => match_Cover_fn1.j1 k R1 l C1 o (i : Int) (rd_L1 l (a : Int)) ((rd_L1 l (a : Int)).length : Int) (i : Int) false) (R', C') ∧ Ext l tk o S R C R' C' a ∧ ∀ x, Ed l tk a x → sb C' x := by
      intro h
      obtain ⟨R', C', e1, f1, g1⟩ := ih (i + 1) R1 C1 (by omega) E (fun x hx hE => by
        by_cases hxi : x = i
        · subst hxi; exact h.elim id (fun q => absurd hE q)
        · exact hp x (by omega) hE)
      refine ⟨R', C', ev_step (fun k => by simp only [match_Cover_fn1.j1] <;> exact rfl) (ev_neg (by simp) ?_), f1, g1⟩
      rw [w64 (by omega) (by omega)]; exact e1
    by_cases h1 : rdOf false (rd_L1 l (a : Int)) (i : Int) = true
    · have hE : Ed l tk a i := ⟨ha, hil, h1, hfree i⟩
      by_cases h3 : sb C1 i
      · obtain ⟨R', C', e1, f1, g1⟩ := skip (Or.inl h3)
        refine ⟨R', C', ev_step (fun k => by simp only [match_Cover_fn1.l0] <;> exact rfl) (ev_pos (by omega) (ev_pos (by omega) (ev_pos (by omega) (ev_pos h1 (ev_pos (by omega) ?_))))), f1, g1⟩
        rw [show rdOf false C1 (i : Int) = true from h3]; exact e1
      · have Si := hN i hE
        obtain ⟨o0, oN⟩ := hO.clo i hil Si
        obtain ⟨hlt, _⟩ := hO.lt hil
        obtain ⟨r, er⟩ : ∃ r : Nat, ow o i = (r : Int) := ⟨(ow o i).toNat, by omega⟩
        have hr : r < l.length := by omega
        have mk : sb (C1.set i true) i := (sb_set (by omega)).2 (Or.inl rfl)
        have cntlt : R1.count false < d := by
          have x1 := count_mono' (s := R.set a true) (s' := R1) (by rw [r1l]; simp) (fun c hc => ((sb_set (by omega)).1 hc).elim (fun q => q ▸ E.self) (E.rsub c))
          have x2 := count_false (s := R) (c := a) (by omega) hna
          omega
        obtain ⟨R3, C3, e3, f3, g3⟩ := IH (R1.count false) cntlt r R1 (C1.set i true) hr (by omega) (by simp; omega) (Nat.le_refl _) (fun x hx => oN x (by rw [er, Int.toNat_natCast]; exact hx))
        have c13 : ∀ c, sb C1 c → sb C3 c := fun c hc => f3.csub c ((sb_set (by omega)).2 (Or.inr hc))
        have E3 : Ext l tk o S R C R3 C3 a := by
          refine ⟨by rw [f3.rlen]; exact E.rlen, by rw [f3.clen]; simpa using E.clen, fun x hx => f3.rsub x (E.rsub x hx), fun x hx => c13 x (E.csub x hx), fun x hx h4 h5 h6 => ?_, fun c hc h4 h5 => ?_, f3.rsub a E.self⟩
          · by_cases h7 : sb R1 x
            · obtain ⟨q1, c, q2, q3, q4⟩ := E.row x hx h7 h5 h6
              exact ⟨fun y hy => c13 y (q1 y hy), c, q2, c13 c q3, q4⟩
            · by_cases h8 : x = r
              · subst h8
                exact ⟨g3.elim (fun q => absurd q h7) id, i, hil, f3.csub i mk, er⟩
              · exact f3.row x hx h4 h7 h8
          · by_cases h7 : sb C1 c
            · obtain ⟨q1, y, q2, q3, q4⟩ := E.col c hc h7 h5
              exact ⟨q1, y, q2, q3, f3.rsub y q4⟩
            · by_cases h8 : c = i
              · subst h8; exact ⟨Si, r, hr, er, f3.self⟩
              · exact f3.col c hc h4 (fun q => ((sb_set (by omega)).1 q).elim h8 h7)
        obtain ⟨R', C', e1, f1, g1⟩ := ih (i + 1) R3 C3 (by omega) E3 (fun x hx hE' => by
          by_cases hxi : x = i
          · subst hxi; exact f3.csub x mk
          · exact c13 x (hp x (by omega) hE'))
        refine ⟨R', C', ev_step (fun k => by simp only [match_Cover_fn1.l0] <;> exact rfl) (ev_pos (by omega) (ev_pos (by omega) (ev_pos (by omega) (ev_pos h1 (ev_pos (by omega) ?_))))), f1, g1⟩
        rw [show rdOf false C1 (i : Int) = false by rw [← Bool.not_eq_true]; exact h3]
        refine ev_step (fun k => by simp only [match_Cover_fn1.j1] <;> exact rfl) (ev_pos (show (!false) = true from rfl) (ev_pos (by omega) (ev_pos (by omega) ?_)))
        simp only [Option.bind_some, Int.toNat_natCast]
        refine ev_pos (by omega) (ev_pos (show ow o i ≥ 0 from o0) ?_)
        rw [show rd o (i : Int) = (r : Int) from er]
        refine Ev.bind e3 ?_
        rw [w64 (by omega) (by omega)]; exact e1
    · obtain ⟨R', C', e1, f1, g1⟩ := skip (Or.inr fun h => h1 h.2.2.1)
      exact ⟨R', C', ev_step (fun k => by simp only [match_Cover_fn1.l0] <;> exact rfl) (ev_pos (by omega) (ev_pos (by omega) (ev_pos (by omega) (ev_neg h1 e1)))), f1, g1⟩
theorem reaches (T : Tab l tk.length) (hO : Own l tk o 0 l.length S) (hfree : ∀ c, ¬ sb tk c) : ∀ d, Reaches l tk o S d := by
  intro d
  induction d using Nat.strongRecOn with
  | _ d IH =>
    intro a R C ha hR hC hd hN
    by_cases h : sb R a
    · refine ⟨R, C, ev_step (fun k => by simp only [match_Cover_fn1.f] <;> exact rfl) (ev_pos (by omega) (ev_pos (by omega) (ev_pos h (ev_now _)))), ?_, Or.inl h⟩
      exact ⟨rfl, rfl, fun _ h => h, fun _ h => h, fun r _ h1 h2 _ => absurd h1 h2, fun c _ h1 h2 => absurd h1 h2, h⟩
    · have E : Ext l tk o S R C (R.set a true) C a := by
        refine ⟨by simp, rfl, fun r hr => (sb_set (by omega)).2 (Or.inr hr), fun _ h => h, fun r _ h1 h2 h3 => ?_, fun c _ h1 h2 => absurd h1 h2, (sb_set (by omega)).2 (Or.inl rfl)⟩
        exact absurd ((sb_set (by omega)).1 h1) (fun q => q.elim h3 h2)
      obtain ⟨R', C', e1, f1, g1⟩ := reach_loop T hO hfree IH ha hR hC h hd hN tk.length 0 (R.set a true) C (by omega) E (fun x hx => by omega)
      refine ⟨R', C', ev_step (fun k => by simp only [match_Cover_fn1.f] <;> exact rfl) (ev_pos (by omega) (ev_pos (by omega) (ev_neg h (ev_pos (by omega) ?_)))), f1, Or.inr g1⟩
      rw [Int.toNat_natCast]; exact e1
end
end Go.Proofs.Ytaacihkhckpecaa.PAll
