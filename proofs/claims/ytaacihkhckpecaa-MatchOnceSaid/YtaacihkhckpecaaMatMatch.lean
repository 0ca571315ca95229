/- Match: row by row the least column with which as many rows as possible get one. -/
import Derived.Test.YtaacihkhckpecaaPAllx0
import Derived.Test.YtaacihkhckpecaaPAllf16
import Derived.Test.YtaacihkhckpecaaMatCheck
namespace Go.Proofs.Ytaacihkhckpecaa.PAll
set_option linter.unusedVariables false
open Go Go.RowKit Go.Proofs.YtaacihkhckpecaaW.PrintWords Go.Proofs.YtaacihkhckpecaaW.PrintLast Go.Proofs.YtaacihkhckpecaaW.PrintMore Go.Proofs.Ytaacihkhckpecaa.MathNum Go.Proofs.Ytaacihkhckpecaa.EvWords

/-- With the column c for the row i as many rows get one as without. -/
def Good (l : List (List Bool)) (tk : List Bool) (i lf c : Nat) : Prop := Ed l tk i c ∧ IsNu l (tk.set c true) (i + 1) (lf - 1) ∧ 1 ≤ lf
/-- What is written for the rows from i on. -/
inductive Greedy (l : List (List Bool)) : Nat → List Bool → Nat → List Int → Prop
  | done (i : Nat) (tk : List Bool) (lf : Nat) (hi : i = l.length) (hn : IsNu l tk i lf) : Greedy l i tk lf []
  | pick (i : Nat) (tk : List Bool) (lf c : Nat) (rest : List Int) (hi : i < l.length) (hn : IsNu l tk i lf) (hg : Good l tk i lf c) (hl : ∀ x, x < c → ¬ Good l tk i lf x) (h : Greedy l (i + 1) (tk.set c true) (lf - 1) rest) : Greedy l i tk lf ((c : Int) :: rest)
  | skip (i : Nat) (tk : List Bool) (lf : Nat) (rest : List Int) (hi : i < l.length) (hn : IsNu l tk i lf) (hl : ∀ x, ¬ Good l tk i lf x) (h : Greedy l (i + 1) tk lf rest) : Greedy l i tk lf (-1 :: rest)

theorem Ed_set {l : List (List Bool)} {tk : List Bool} {r c x : Nat} (hc : c < tk.length) : Ed l (tk.set c true) r x ↔ Ed l tk r x ∧ x ≠ c := by
  unfold Ed
  rw [List.length_set, sb_set hc]
  constructor
  · rintro ⟨a, b, d, e⟩; exact ⟨⟨a, b, d, fun h => e (Or.inr h)⟩, fun h => e (Or.inl h)⟩
  · rintro ⟨⟨a, b, d, e⟩, f⟩; exact ⟨a, b, d, fun h => h.elim f e⟩
/-- A place for the row i ahead of a matching of the rows behind it. -/
theorem Mt.cons {l : List (List Bool)} {tk : List Bool} {i c : Nat} {ps : List (Nat × Nat)} (hE : Ed l tk i c) (h : Mt l (tk.set c true) (i + 1) ps) : Mt l tk i ((i, c) :: ps) := by
  have hc := hE.2.1
  refine ⟨?_, ?_, ?_⟩
  · rw [List.pairwise_cons]; exact ⟨fun p hp => by have := (h.ok p hp).1; simp; omega, h.rows⟩
  · rw [List.pairwise_cons]; exact ⟨fun p hp => by have := ((Ed_set hc).1 (h.ok p hp).2).2; simp; omega, h.cols⟩
  · intro p hp
    rcases List.mem_cons.1 hp with rfl | hp
    · exact ⟨Nat.le_refl _, hE⟩
    · exact ⟨by have := (h.ok p hp).1; omega, ((Ed_set hc).1 (h.ok p hp).2).1⟩
theorem Mt.tail {l : List (List Bool)} {tk : List Bool} {i : Nat} {ps : List (Nat × Nat)} (h : Mt l tk (i + 1) ps) : Mt l tk i ps := ⟨h.rows, h.cols, fun p hp => ⟨by have := (h.ok p hp).1; omega, (h.ok p hp).2⟩⟩
/-- Behind the row i: without its place, if it has one. -/
theorem Mt.behind {l : List (List Bool)} {tk : List Bool} {i : Nat} {ps : List (Nat × Nat)} (h : Mt l tk i ps) : Mt l tk (i + 1) ps ∨ ∃ c qs, Ed l tk i c ∧ Mt l (tk.set c true) (i + 1) qs ∧ ps.length = qs.length + 1 := by
  by_cases hi : ∃ p ∈ ps, p.1 = i
  · right
    obtain ⟨p, hp, e⟩ := hi
    have hE := (h.ok p hp).2
    rw [e] at hE
    obtain ⟨xs, ys, rfl⟩ := List.append_of_mem hp
    have r := h.rows
    have c := h.cols
    rw [List.pairwise_append, List.pairwise_cons] at r c
    refine ⟨p.2, xs ++ ys, hE, ⟨?_, ?_, ?_⟩, by simp; omega⟩
    · rw [List.pairwise_append]; exact ⟨r.1, r.2.1.2, fun a ha b hb => r.2.2 a ha b (by simp [hb])⟩
    · rw [List.pairwise_append]; exact ⟨c.1, c.2.1.2, fun a ha b hb => c.2.2 a ha b (by simp [hb])⟩
    · intro q hq
      have hq' : q ∈ xs ++ p :: ys := by rcases List.mem_append.1 hq with g | g <;> simp [g]
      have ne : q.1 ≠ p.1 ∧ q.2 ≠ p.2 := by
        rcases List.mem_append.1 hq with g | g
        · exact ⟨r.2.2 q g p (by simp), c.2.2 q g p (by simp)⟩
        · exact ⟨fun z => r.2.1.1 q g z.symm, fun z => c.2.1.1 q g z.symm⟩
      obtain ⟨g1, g2⟩ := h.ok q hq'
      exact ⟨by omega, (Ed_set hE.2.1).2 ⟨g2, ne.2⟩⟩
  · left
    exact ⟨h.rows, h.cols, fun p hp => ⟨by have := (h.ok p hp).1; have : p.1 ≠ i := fun z => hi ⟨p, hp, z⟩; omega, (h.ok p hp).2⟩⟩
/-- Nothing is good for the row i: the rows behind it are as many without it. -/
theorem nu_skip {l : List (List Bool)} {tk : List Bool} {i lf : Nat} (h : IsNu l tk i lf) (hl : ∀ x, ¬ Good l tk i lf x) : IsNu l tk (i + 1) lf := by
  obtain ⟨⟨ps, m, e⟩, u⟩ := h
  refine ⟨?_, fun qs hq => u qs hq.tail⟩
  rcases m.behind with g | ⟨c, qs, hE, g, e2⟩
  · exact ⟨ps, g, e⟩
  · refine absurd ⟨hE, ⟨⟨qs, g, by omega⟩, fun rs hr => ?_⟩, by omega⟩ (hl c)
    have := u _ (Mt.cons hE hr)
    simp at this; omega
theorem nu_small {l : List (List Bool)} {tk : List Bool} {i k : Nat} (h : IsNu l tk i k) : k ≤ l.length := by
  obtain ⟨⟨ps, mt, e⟩, _⟩ := h
  have : (ps.map Prod.fst).Nodup := by show (ps.map Prod.fst).Pairwise (· ≠ ·); rw [List.pairwise_map]; exact mt.rows
  have := nodup_len (l := List.range l.length) this (fun x hx => by
    obtain ⟨p, hp, rfl⟩ := List.mem_map.1 hx
    exact List.mem_range.2 (mt.ok p hp).2.1)
  simp at this; omega

section
variable {l : List (List Bool)}
/-- The rest of a row behind its column. -/
theorem row_rest {m : Nat} (T : Tab l m) {i : Nat} (hi : i < l.length) {tk : List Bool} (ht : tk.length = m) {lf c : Int} (hc : 0 ≤ c) {out : List Int} {R : List Int × Int} (ho : out.length ≤ 24) (h : Ev (fun k => match_Match.l0 k l tk lf (out ++ [c]) l (l.length : Int) ((i + 1 : Nat) : Int)) R) (d : Nat) : ∀ j : Nat, j + d = m →
    Ev (fun k => match_Match.l1 k l tk lf out (i : Int) c l (l.length : Int) (i : Int) (rd_L1 l (i : Int)) ((rd_L1 l (i : Int)).length : Int) (j : Int)) R := by
  have hw := T.wide i hi
  have h1 := T.rows
  have h2 := T.cols
  induction d with
  | zero =>
    intro j hj
    refine ev_step (fun k => by simp only [match_Match.l1] <;> exact rfl) (ev_neg (by omega) (ev_pos (by omega) ?_))
    rw [w64 (by omega) (by omega)]; exact h
  | succ d ih =>
    intro j hj
    have go : Ev (fun k => match_Match.j2 k l tk lf out (i : Int) c (j : Int) l (l.length : Int) (i : Int) (rd_L1 l (i : Int)) ((rd_L1 l (i : Int)).length : Int) (j : Int) true) R := by
      refine ev_step (fun k => by simp only [match_Match.j2] <;> exact rfl) (ev_pos (show true = true from rfl) ?_)
      rw [w64 (by omega) (by omega)]; exact ih (j + 1) (by omega)
    refine ev_step (fun k => by simp only [match_Match.l1] <;> exact rfl) (ev_pos (by omega) (ev_pos (by omega) (ev_pos (by omega) ?_)))
    by_cases c1 : rdOf false (rd_L1 l (i : Int)) (j : Int) = true
    · refine ev_pos c1 (ev_pos (by omega) ?_)
      by_cases c2 : rdOf false tk (j : Int) = true
      · exact ev_pos c2 go
      · refine ev_neg c2 ?_
        rw [decide_eq_true (show c ≥ 0 from hc)]; exact go
    · exact ev_neg c1 go
/-- A row: its column is looked for. -/
theorem row_ev {m : Nat} (T : Tab l m) {i : Nat} (hi : i < l.length) {tk : List Bool} (ht : tk.length = m) {lf : Nat} (hn : IsNu l tk i lf) {out : List Int} (ho : out.length ≤ 24)
    (hp : ∀ c, Good l tk i lf c → (∀ x, x < c → ¬ Good l tk i lf x) → ∃ rest, Greedy l (i + 1) (tk.set c true) (lf - 1) rest ∧ Ev (fun k => match_Match.l0 k l (tk.set c true) ((lf - 1 : Nat) : Int) (out ++ [(c : Int)]) l (l.length : Int) ((i + 1 : Nat) : Int)) (out ++ (c : Int) :: rest, 0))
    (hs : (∀ x, ¬ Good l tk i lf x) → ∃ rest, Greedy l (i + 1) tk lf rest ∧ Ev (fun k => match_Match.l0 k l tk (lf : Int) (out ++ [-1]) l (l.length : Int) ((i + 1 : Nat) : Int)) (out ++ -1 :: rest, 0)) (d : Nat) : ∀ j : Nat, j + d = m → (∀ x, x < j → ¬ Good l tk i lf x) →
    ∃ rest, Greedy l i tk lf rest ∧ Ev (fun k => match_Match.l1 k l tk (lf : Int) out (i : Int) (-1) l (l.length : Int) (i : Int) (rd_L1 l (i : Int)) ((rd_L1 l (i : Int)).length : Int) (j : Int)) (out ++ rest, 0) := by
  have hw := T.wide i hi
  have h1 := T.rows
  have h2 := T.cols
  have small := nu_small hn
  induction d with
  | zero =>
    intro j hj hx
    have all : ∀ x, ¬ Good l tk i lf x := fun x g => hx x (by have := g.1.2.1; omega) g
    obtain ⟨rest, g, e⟩ := hs all
    refine ⟨-1 :: rest, .skip i tk lf rest hi hn all g, ev_step (fun k => by simp only [match_Match.l1] <;> exact rfl) (ev_neg (by omega) (ev_pos (by omega) ?_))⟩
    rw [w64 (by omega) (by omega)]; exact e
  | succ d ih =>
    intro j hj hx
    have no : ¬ Good l tk i lf j → ∃ rest, Greedy l i tk lf rest ∧ Ev (fun k => match_Match.l1 k l tk (lf : Int) out (i : Int) (-1) l (l.length : Int) (i : Int) (rd_L1 l (i : Int)) ((rd_L1 l (i : Int)).length : Int) (wrap64 ((j : Int) + 1))) (out ++ rest, 0) := fun g => by
      rw [w64 (by omega) (by omega)]
      refine ih (j + 1) (by omega) (fun x hx' => ?_)
      by_cases e : x = j
      · subst e; exact g
      · exact hx x (by omega)
    have go : ¬ Good l tk i lf j → ∃ rest, Greedy l i tk lf rest ∧ Ev (fun k => match_Match.j2 k l tk (lf : Int) out (i : Int) (-1) (j : Int) l (l.length : Int) (i : Int) (rd_L1 l (i : Int)) ((rd_L1 l (i : Int)).length : Int) (j : Int) true) (out ++ rest, 0) := fun g => by
      obtain ⟨rest, g1, e1⟩ := no g
      exact ⟨rest, g1, ev_step (fun k => by simp only [match_Match.j2] <;> exact rfl) (ev_pos (show true = true from rfl) e1)⟩
    by_cases c1 : rdOf false (rd_L1 l (i : Int)) (j : Int) = true
    · by_cases c2 : sb tk j
      · obtain ⟨rest, g1, e1⟩ := go fun g => g.1.2.2.2 c2
        exact ⟨rest, g1, ev_step (fun k => by simp only [match_Match.l1] <;> exact rfl) (ev_pos (by omega) (ev_pos (by omega) (ev_pos (by omega) (ev_pos c1 (ev_pos (by omega) (ev_pos c2 e1))))))⟩
      · have hE : Ed l tk i j := ⟨hi, by omega, c1, c2⟩
        have ht' : (tk.set j true).length = m := by simpa using ht
        obtain ⟨o, S, e0, hO⟩ := greatest_ev (l := l) (tk := tk.set j true) (by rw [ht']; exact T) (fr := i + 1) (by omega)
        have hnu := hO.nu
        generalize hk : o.countP (fun x => decide (0 ≤ x)) = n at *
        have sn := nu_small hnu
        have enter : ∀ {R : List Int × Int}, Ev (fun k => if (wrap64 ((n : Int) + 1)) = (lf : Int) then (match_Match.l1 k l (tk.set j true) (wrap64 ((lf : Int) - 1)) out (i : Int) (j : Int) l (l.length : Int) (i : Int) (rd_L1 l (i : Int)) ((rd_L1 l (i : Int)).length : Int) (wrap64 ((j : Int) + 1))) else (match_Match.l1 k l ((tk.set j true).set j false) (lf : Int) out (i : Int) (-1) l (l.length : Int) (i : Int) (rd_L1 l (i : Int)) ((rd_L1 l (i : Int)).length : Int) (wrap64 ((j : Int) + 1)))) R →
            Ev (fun k => match_Match.l1 k l tk (lf : Int) out (i : Int) (-1) l (l.length : Int) (i : Int) (rd_L1 l (i : Int)) ((rd_L1 l (i : Int)).length : Int) (j : Int)) R := by
          intro R h
          refine ev_step (fun k => by simp only [match_Match.l1] <;> exact rfl) (ev_pos (by omega) (ev_pos (by omega) (ev_pos (by omega) (ev_pos c1 (ev_pos (by omega) (ev_neg c2 ?_))))))
          rw [decide_eq_false (show ¬ ((-1 : Int) ≥ 0) by omega)]
          refine ev_step (fun k => by simp only [match_Match.j2] <;> exact rfl) (ev_neg (by simp) (ev_pos (by omega) (ev_pos (by omega) ?_)))
          simp only [Option.bind_some, Int.toNat_natCast]
          rw [w64 (n := (i : Int) + 1) (by omega) (by omega)]
          exact Ev.bind e0 h
        rw [w64 (n := (n : Int) + 1) (by omega) (by omega)] at enter
        by_cases c3 : (n : Int) + 1 = (lf : Int)
        · have hg : Good l tk i lf j := ⟨hE, by rw [show lf - 1 = n by omega]; exact hnu, by omega⟩
          obtain ⟨rest, g1, e1⟩ := hp j hg hx
          refine ⟨(j : Int) :: rest, .pick i tk lf j rest hi hn hg hx g1, enter (ev_pos c3 ?_)⟩
          rw [w64 (n := (lf : Int) - 1) (by omega) (by omega), w64 (n := (j : Int) + 1) (by omega) (by omega), show (lf : Int) - 1 = ((lf - 1 : Nat) : Int) by omega]
          exact row_rest T hi ht' (by omega) ho e1 d (j + 1) (by omega)
        · have hg : ¬ Good l tk i lf j := fun g => c3 (by have := hnu.uniq g.2.1; have := g.2.2; omega)
          obtain ⟨rest, g1, e1⟩ := no hg
          have back : (tk.set j true).set j false = tk := by
            rw [List.set_set]
            have : tk[j]'(by omega) = false := by rw [sb_get (by omega), Bool.not_eq_true] at c2; exact c2
            rw [← this]; exact List.set_getElem_self _
          refine ⟨rest, g1, enter (ev_neg c3 ?_)⟩
          rw [back]; exact e1
    · obtain ⟨rest, g1, e1⟩ := go fun g => c1 g.1.2.2.1
      exact ⟨rest, g1, ev_step (fun k => by simp only [match_Match.l1] <;> exact rfl) (ev_pos (by omega) (ev_pos (by omega) (ev_pos (by omega) (ev_neg c1 e1))))⟩
theorem rows_ev {m : Nat} (T : Tab l m) (d : Nat) : ∀ (i : Nat) (tk : List Bool) (lf : Nat) (out : List Int), i + d = l.length → tk.length = m → IsNu l tk i lf → out.length = i →
    ∃ rest, Greedy l i tk lf rest ∧ Ev (fun k => match_Match.l0 k l tk (lf : Int) out l (l.length : Int) (i : Int)) (out ++ rest, 0) := by
  have h1 := T.rows
  induction d with
  | zero =>
    intro i tk lf out hi ht hn ho
    exact ⟨[], .done i tk lf (by omega) hn, ev_step (fun k => by simp only [match_Match.l0] <;> exact rfl) (ev_neg (by omega) (by rw [List.append_nil]; exact ev_now _))⟩
  | succ d ih =>
    intro i tk lf out hi ht hn ho
    obtain ⟨rest, g, e⟩ := row_ev T (i := i) (by omega) ht hn (out := out) (by omega) (fun c hg hl => by
      obtain ⟨rest, g, e⟩ := ih (i + 1) (tk.set c true) (lf - 1) (out ++ [(c : Int)]) (by omega) (by simpa using ht) hg.2.1 (by simp [ho])
      exact ⟨rest, g, by rw [List.append_assoc] at e; exact e⟩) (fun hl => by
      obtain ⟨rest, g, e⟩ := ih (i + 1) tk lf (out ++ [-1]) (by omega) ht (nu_skip hn hl) (by simp [ho])
      exact ⟨rest, g, by rw [List.append_assoc] at e; exact e⟩) m 0 (by omega) (fun x hx => by omega)
    exact ⟨rest, g, ev_step (fun k => by simp only [match_Match.l0] <;> exact rfl) (ev_pos (by omega) (ev_pos (by omega) (ev_pos (by omega) e)))⟩
end
theorem match_ok {l : List (List Bool)} (h : chk l = 0) : ∃ k out, IsNu l (free l) 0 k ∧ Greedy l 0 (free l) k out ∧ Ev (fun k => match_Match.f k l) (out, 0) := by
  have T := chk_free h
  have hc := T.cols
  obtain ⟨o, S, e, hO⟩ := greatest_ev T (fr := 0) (Nat.zero_le _)
  obtain ⟨out, g, e2⟩ := rows_ev T l.length 0 (free l) _ [] (by omega) rfl hO.nu rfl
  refine ⟨_, out, hO.nu, g, ?_⟩
  simp only [match_Match.f]
  refine Ev.bind (check_ev l) (ev_pos h ?_)
  rw [columns_some T, free_len]
  simp only [Option.bind_some]
  rw [free_len] at hc
  refine ev_pos (by omega) (ev_pos (by omega) ?_)
  rw [Int.toNat_natCast]
  exact Ev.bind e e2
theorem match_bad {l : List (List Bool)} (h : chk l ≠ 0) : Ev (fun k => match_Match.f k l) ([], chk l) := by
  simp only [match_Match.f]
  exact Ev.bind (check_ev l) (ev_neg h (ev_now _))
end Go.Proofs.Ytaacihkhckpecaa.PAll
