/- The program's and the reference's hull are one list. -/
import Derived.Test.YtmilejcbkpkplaaPAllx0
import Derived.Test.YtmilejcbkpkplaaPAllf21
import Derived.Test.YtmilejcbkpkplaaPAllf32
import Derived.Test.YtmilejcbkpkplaaPAllf34
import Derived.Test.YtmilejcbkpkplaaPAllf41
import Derived.Test.YtmilejcbkpkplaaPAllf42
import Derived.Test.YtmilejcbkpkplaaPAllf43
import Derived.Test.YtmilejcbkpkplaaPAllf50
import Derived.Test.YtmilejcbkpkplaaGeomHullMath
import Derived.Test.YtmilejcbkpkplaaGeomNear0
namespace Go.Proofs.Ytmilejcbkpkplaa.PAll
set_option linter.unusedVariables false
open Go Go.RowKit Go.Proofs.YtmilejcbkpkplaaW.PrintWords Go.Proofs.YtmilejcbkpkplaaW.PrintLast Go.Proofs.YtmilejcbkpkplaaW.PrintMore Go.Proofs.Ytmilejcbkpkplaa.MathNum Go.Proofs.Ytmilejcbkpkplaa.EvWords Go.Proofs.Ytmilejcbkpkplaa.MathGeom

theorem beq_pt (a b : S23) : (a.f0 == b.f0 && (a.f1 == b.f1)) = decide (a = b) := by
  by_cases h : a = b
  · subst h; simp
  · rw [decide_eq_false h]
    by_cases h0 : a.f0 = b.f0
    · by_cases h1 : a.f1 = b.f1
      · exact absurd (S23_ext h0 h1) h
      · simp [h1]
    · simp [h0]
theorem bne_pt (a b : S23) : (!(a.f0 == b.f0) || (!(a.f1 == b.f1))) = !decide (a = b) := by
  rw [← beq_pt, Bool.not_and]
theorem fn1_ok {c o p : S23} (hc : pOk c) (ho : pOk o) (hp : pOk p) : geom_hull_fn1.f c.f0 c.f1 o.f0 o.f1 p.f0 p.f1 = some (decide (better c o p)) := by
  unfold geom_hull_fn1.f better
  rw [beq_pt, bne_pt]
  by_cases h : o = c
  · rw [if_pos (by simpa using h)]
    congr 1
    simp [h]
  · rw [if_neg (by simpa using h), minus_ok ho.1 ho.2 hc.1 hc.2, minus_ok hp.1 hp.2 hc.1 hc.2]
    obtain ⟨c0, c1⟩ := hc
    obtain ⟨o0, o1⟩ := ho
    obtain ⟨p0, p1⟩ := hp
    unfold cOk at *
    simp only [Option.bind_some]
    rw [(cross_cr (a := o.f0 - c.f0) (b := o.f1 - c.f1) (c := p.f0 - c.f0) (d := p.f1 - c.f1) (by omega) (by omega) (by omega) (by omega)).1, (dot_dt (a := o.f0 - c.f0) (b := o.f1 - c.f1) (c := o.f0 - c.f0) (d := o.f1 - c.f1) (by omega) (by omega) (by omega) (by omega)).1, (dot_dt (a := p.f0 - c.f0) (b := p.f1 - c.f1) (c := p.f0 - c.f0) (d := p.f1 - c.f1) (by omega) (by omega) (by omega) (by omega)).1]
    simp only [Option.bind_some]
    change (if cx c o p < 0 then some true else if cx c o p = 0 then some (decide (sq c p > sq c o)) else some false) = _
    simp only [if_neg h]
    by_cases h1 : cx c o p < 0
    · rw [if_pos h1, decide_eq_true (Or.inl h1)]
    · rw [if_neg h1]
      by_cases h2 : cx c o p = 0
      · rw [if_pos h2]; exact congrArg some (decide_eq_decide.2 (by omega))
      · rw [if_neg h2]; exact congrArg some (decide_eq_false (by omega)).symm
theorem step_ok {c o p : S23} (ho : pOk o) (hp : pOk p) : pOk (step c o p) := by unfold step; split <;> assumption
theorem fold_ok {c : S23} : ∀ (t : List S23) (o : S23), pOk o → (∀ p ∈ t, pOk p) → pOk (t.foldl (step c) o) := by
  intro t
  induction t with
  | nil => intro o h _; exact h
  | cons p t ih => intro o h ht; exact ih _ (step_ok h (ht p (by simp))) (fun q hq => ht q (by simp [hq]))
theorem nxt_ok {l : List S23} {c : S23} (h : ∀ p ∈ l, pOk p) (hc : pOk c) : pOk (nxt l c) := fold_ok l c hc h
theorem pt_eta (p : S23) : (⟨p.f0, p.f1⟩ : S23) = p := rfl

/-- The program's search for the next corner. -/
theorem next_ev {l out : List S23} (hl : ∀ p ∈ l, pOk p) (hlen : l.length ≤ 16) {c : S23} (hc : pOk c) {R : List S23} (d : Nat) : ∀ (i : Nat) (o : S23), i + d = l.length → pOk o →
    Ev (fun k => geom_hull.l3 k l out (out.length : Int) 0 ((l.drop i).foldl (step c) o).f0 ((l.drop i).foldl (step c) o).f1) R → Ev (fun k => geom_hull.l2 k l out l (l.length : Int) (i : Int) c.f0 c.f1 o.f0 o.f1) R := by
  induction d with
  | zero =>
    intro i o hi ho h
    rw [List.drop_eq_nil_of_le (by omega)] at h
    exact ev_step (fun k => by simp only [geom_hull.l2] <;> exact rfl) (ev_neg (by omega) h)
  | succ d ih =>
    intro i o hi ho h
    have hlt : i < l.length := by omega
    rw [List.drop_eq_getElem_cons hlt, List.foldl_cons] at h
    have hp := hl l[i] (List.getElem_mem hlt)
    refine ev_step (fun k => by simp only [geom_hull.l2] <;> exact rfl) (ev_pos (by omega) (ev_pos (by omega) (ev_pos (by omega) ?_)))
    rw [rdT_nat l hlt, fn1_ok hc ho hp]
    simp only [Option.bind_some]
    rw [w64 (n := (i : Int) + 1) (by omega) (by omega)]
    have := ih (i + 1) (step c o l[i]) (by omega) (step_ok ho hp) h
    by_cases hb : better c o l[i]
    · rw [show step c o l[i] = l[i] by unfold step; rw [if_pos hb]] at this
      exact ev_pos (by simpa using hb) this
    · rw [show step c o l[i] = o by unfold step; rw [if_neg hb]] at this
      exact ev_neg (by simpa using hb) this
/-- The program's search for a corner that was there already. -/
theorem seen_ev {l out : List S23} (hlen : out.length ≤ 16) {q : S23} {R : List S23} (hy : q ∈ out → R = out) (hn : q ∉ out → Ev (fun k => geom_hull.l1 k l (out ++ [q])) R) (d : Nat) : ∀ (i : Nat), i + d = out.length → q ∉ out.take i →
    Ev (fun k => geom_hull.l3 k l out (out.length : Int) (i : Int) q.f0 q.f1) R := by
  induction d with
  | zero =>
    intro i hi h
    rw [List.take_of_length_le (by omega)] at h
    exact ev_step (fun k => by simp only [geom_hull.l3] <;> exact rfl) (ev_neg (by omega) (ev_pos (by omega) (hn h)))
  | succ d ih =>
    intro i hi h
    have hlt : i < out.length := by omega
    refine ev_step (fun k => by simp only [geom_hull.l3] <;> exact rfl) (ev_pos (by omega) (ev_pos (by omega) (ev_pos (by omega) ?_)))
    rw [rdT_nat out hlt, beq_pt]
    by_cases he : out[i] = q
    · rw [hy (he ▸ List.getElem_mem hlt)]
      exact ev_pos (by simpa using he) (ev_now _)
    · refine ev_neg (by simpa using he) ?_
      rw [w64 (by omega) (by omega)]
      refine ih (i + 1) (by omega) ?_
      rw [List.take_succ_eq_append_getElem hlt]
      simp only [List.mem_append, List.mem_singleton, not_or]
      exact ⟨h, fun e => he e.symm⟩

/-- The reference's search. -/
theorem rcross_cx {c o p : S23} (hc : pOk c) (ho : pOk o) (hp : pOk p) : dancestudioref03_cross.f c.f0 c.f1 o.f0 o.f1 p.f0 p.f1 = some (cx c o p) := rcross_ok hc.1 hc.2 ho.1 ho.2 hp.1 hp.2
theorem rsq {c p : S23} (hc : pOk c) (hp : pOk p) : dancestudioref03_square.f c.f0 c.f1 p.f0 p.f1 = some (sq c p) := by
  rw [square_ok hc.1 hc.2 hp.1 hp.2]; unfold sq dt; congr 1; grind
theorem better_self (c o : S23) : ¬ better c o c := by
  unfold better
  split
  · simp
  · have := sq_nonneg c o
    have z : cx c o c = 0 := by unfold cx cr; simp
    rw [sq_self]; omega
theorem rnext_ev0 {l : List S23} (hl : ∀ p ∈ l, pOk p) (hlen : l.length ≤ 16) {c : S23} (hc : pOk c) (d : Nat) : ∀ (i : Nat) (o : S23), i + d = l.length → pOk o →
    Ev (fun k => dancestudioref03_next.l0 k l (i : Int) c.f0 c.f1 o.f0 o.f1) (((l.drop i).foldl (step c) o).f0, ((l.drop i).foldl (step c) o).f1) := by
  induction d with
  | zero =>
    intro i o hi ho
    rw [List.drop_eq_nil_of_le (by omega)]
    exact ev_step (fun k => by simp only [dancestudioref03_next.l0] <;> exact rfl) (ev_neg (by omega) (ev_now _))
  | succ d ih =>
    intro i o hi ho
    have hlt : i < l.length := by omega
    rw [List.drop_eq_getElem_cons hlt, List.foldl_cons]
    have hp := hl l[i] (List.getElem_mem hlt)
    have go := ih (i + 1) (step c o l[i]) (by omega) (step_ok ho hp)
    refine ev_step (fun k => by simp only [dancestudioref03_next.l0] <;> exact rfl) (ev_pos (by omega) (ev_pos (by omega) ?_))
    rw [rdT_nat l hlt, beq_pt]
    by_cases he : l[i] = c
    · refine ev_pos (by simpa using he) ?_
      rw [w64 (by omega) (by omega)]
      rw [show step c o l[i] = o by unfold step; rw [if_neg (by rw [he]; exact better_self c o)]] at go ⊢
      exact go
    · refine ev_neg (by simpa using he) ?_
      rw [rcross_cx hc ho hp, rsq hc hp, rsq hc ho, beq_pt]
      simp only [Option.bind_some]
      have yes : better c o l[i] → Ev (fun k => dancestudioref03_next.j1 k l (i : Int) true c.f0 c.f1 o.f0 o.f1) (((l.drop (i + 1)).foldl (step c) (step c o l[i])).f0, ((l.drop (i + 1)).foldl (step c) (step c o l[i])).f1) := fun hb => by
        refine ev_step (fun k => by simp only [dancestudioref03_next.j1] <;> exact rfl) (ev_pos (show true = true from rfl) (ev_pos (by omega) (ev_pos (by omega) ?_)))
        rw [rdT_nat l hlt, w64 (by omega) (by omega)]
        rw [show step c o l[i] = l[i] by unfold step; rw [if_pos hb]] at go ⊢
        exact go
      have no : ¬ better c o l[i] → Ev (fun k => dancestudioref03_next.j1 k l (i : Int) false c.f0 c.f1 o.f0 o.f1) (((l.drop (i + 1)).foldl (step c) (step c o l[i])).f0, ((l.drop (i + 1)).foldl (step c) (step c o l[i])).f1) := fun hb => by
        refine ev_step (fun k => by simp only [dancestudioref03_next.j1] <;> exact rfl) (ev_neg (by simp) ?_)
        rw [w64 (by omega) (by omega)]
        rw [show step c o l[i] = o by unfold step; rw [if_neg hb]] at go ⊢
        exact go
      unfold better at yes no
      by_cases ho' : o = c
      · rw [if_pos ho'] at yes
        exact ev_pos (by simpa using ho') (yes he)
      · rw [if_neg ho'] at yes no
        refine ev_neg (by simpa using ho') ?_
        by_cases h1 : cx c o l[i] < 0
        · exact ev_pos h1 (yes (Or.inl h1))
        · refine ev_neg h1 ?_
          by_cases h2 : cx c o l[i] = 0
          · refine ev_pos h2 ?_
            by_cases h3 : sq c l[i] > sq c o
            · rw [decide_eq_true h3]; exact yes (Or.inr ⟨h2, h3⟩)
            · rw [decide_eq_false h3]; exact no (by omega)
          · exact ev_neg h2 (no (by omega))
theorem rnext_ev {l : List S23} (hl : ∀ p ∈ l, pOk p) (hlen : l.length ≤ 16) {c : S23} (hc : pOk c) : Ev (fun k => dancestudioref03_next.f k l c.f0 c.f1) ((nxt l c).f0, (nxt l c).f1) := by
  simp only [dancestudioref03_next.f]
  exact rnext_ev0 hl hlen hc l.length 0 c (by omega) hc

/-- Both walks come around, and are one list. -/
theorem hull_both {l : List S23} (hl : ∀ p ∈ l, pOk p) (hlen : l.length ≤ 16) (d : Nat) : ∀ (h : List S23) (n : Nat) (w : Walk l h) (hn : h.length = n + 1) (_ : h.length + d = l.length),
    ∃ H, Hulled l H ∧ Ev (fun k => geom_hull.l1 k l h) H ∧ Ev (fun k => dancestudioref03_Hull.l2 k l h (h[0]'w.ne).f0 (h[0]'w.ne).f1 (nxt l (h[n]'(by omega))).f0 (nxt l (h[n]'(by omega))).f1) (H, 0) := by
  have l1 : ∀ (h : List S23) (n : Nat) (w : Walk l h) (hn : h.length = n + 1) (R : List S23), (nxt l (h[n]'(by omega)) ∈ h → R = h) → (nxt l (h[n]'(by omega)) ∉ h → Ev (fun k => geom_hull.l1 k l (h ++ [nxt l (h[n]'(by omega))])) R) → Ev (fun k => geom_hull.l1 k l h) R := by
    intro h n w hn R hy hno
    have wl := w.len
    have on := hl _ (w.sub (h[n]'(by omega)) (List.getElem_mem _))
    refine ev_step (fun k => by simp only [geom_hull.l1] <;> exact rfl) ?_
    rw [show wrap64 ((h.length : Int) - 1) = (n : Int) by rw [w64 (by omega) (by omega)]; omega]
    refine ev_pos (by omega) (ev_pos (by omega) ?_)
    rw [rdT_nat h (by omega)]
    refine next_ev hl hlen on l.length 0 _ (by omega) on ?_
    exact seen_ev (by omega) hy hno h.length 0 (by omega) (by simp)
  induction d with
  | zero =>
    intro h n w hn hd
    have hm : nxt l (h[n]'(by omega)) ∈ h := by
      apply Classical.byContradiction
      intro hm
      have := (w.more hn hm).len
      simp at this; omega
    have ag := w.again hn hm
    refine ⟨h, ⟨w, ?_⟩, l1 h n w hn h (fun _ => rfl) (fun x => absurd hm x), ?_⟩
    · simp only [hn, Nat.add_sub_cancel]; exact ag
    · rw [ag]
      refine ev_step (fun k => by simp only [dancestudioref03_Hull.l2] <;> exact rfl) (ev_neg (by rw [bne_pt]; simp) (ev_now _))
  | succ d ih =>
    intro h n w hn hd
    by_cases hm : nxt l (h[n]'(by omega)) ∈ h
    · have ag := w.again hn hm
      refine ⟨h, ⟨w, ?_⟩, l1 h n w hn h (fun _ => rfl) (fun x => absurd hm x), ?_⟩
      · simp only [hn, Nat.add_sub_cancel]; exact ag
      · rw [ag]
        refine ev_step (fun k => by simp only [dancestudioref03_Hull.l2] <;> exact rfl) (ev_neg (by rw [bne_pt]; simp) (ev_now _))
    · have w' := w.more hn hm
      obtain ⟨H, hH, e1, e2⟩ := ih _ (n + 1) w' (by simp [hn]) (by simp; omega)
      refine ⟨H, hH, l1 h n w hn H (fun x => absurd x hm) (fun _ => e1), ?_⟩
      have hne : nxt l (h[n]'(by omega)) ≠ h[0]'w.ne := fun e => hm (e ▸ List.getElem_mem _)
      have okq := nxt_ok (c := h[n]'(by omega)) hl (hl _ (w.sub _ (List.getElem_mem _)))
      refine ev_step (fun k => by simp only [dancestudioref03_Hull.l2] <;> exact rfl) (ev_pos (by rw [bne_pt]; simpa using hne) (ev_pos (by omega) ?_))
      refine Ev.bind (rnext_ev hl hlen okq) ?_
      have g0 : (h ++ [nxt l (h[n]'(by omega))])[0]'w'.ne = h[0]'w.ne := List.getElem_append_left _
      have g1 : (h ++ [nxt l (h[n]'(by omega))])[n + 1]'(by simp; omega) = nxt l (h[n]'(by omega)) := by rw [List.getElem_append_right (by omega)]; simp [hn]
      rw [g0, g1] at e2
      exact e2

/-- The first corner: the least point. -/
theorem first_ev {l : List S23} (hlen : l.length ≤ 16) {R : List S23} (d : Nat) : ∀ (i : Nat) (o : S23), i + d = l.length → Ev (fun k => geom_hull.l1 k l [(l.drop i).foldl low o]) R →
    Ev (fun k => geom_hull.l0 k l l (l.length : Int) (i : Int) o.f0 o.f1) R := by
  induction d with
  | zero =>
    intro i o hi h
    rw [List.drop_eq_nil_of_le (by omega)] at h
    exact ev_step (fun k => by simp only [geom_hull.l0] <;> exact rfl) (ev_neg (by omega) h)
  | succ d ih =>
    intro i o hi h
    have hlt : i < l.length := by omega
    rw [List.drop_eq_getElem_cons hlt, List.foldl_cons] at h
    have go := ih (i + 1) (low o l[i]) (by omega) h
    refine ev_step (fun k => by simp only [geom_hull.l0] <;> exact rfl) (ev_pos (by omega) (ev_pos (by omega) (ev_pos (by omega) ?_)))
    rw [rdT_nat l hlt, w64 (by omega) (by omega)]
    have yes : lt2 l[i] o → low o l[i] = l[i] := fun h => by unfold low; rw [if_pos h]
    have no : ¬ lt2 l[i] o → low o l[i] = o := fun h => by unfold low; rw [if_neg h]
    unfold lt2 at yes no
    by_cases h1 : l[i].f0 < o.f0
    · rw [yes (Or.inl h1)] at go; exact ev_pos h1 go
    · refine ev_neg h1 ?_
      by_cases h2 : l[i].f0 = o.f0
      · refine ev_pos h2 ?_
        by_cases h3 : l[i].f1 < o.f1
        · rw [yes (Or.inr ⟨h2, h3⟩)] at go; exact ev_pos h3 go
        · rw [no (by omega)] at go; exact ev_neg h3 go
      · rw [no (by omega)] at go; exact ev_neg h2 go
theorem rbefore (a b : S23) : dancestudioref03_before.f a.f0 a.f1 b.f0 b.f1 = some (decide (lt2 a b)) := by
  unfold dancestudioref03_before.f lt2
  by_cases h1 : a.f0 < b.f0
  · rw [if_pos h1]; exact congrArg some (decide_eq_true (Or.inl h1)).symm
  · rw [if_neg h1]
    by_cases h2 : a.f0 = b.f0
    · rw [if_pos h2]; exact congrArg some (decide_eq_decide.2 (by omega))
    · rw [if_neg h2]; exact congrArg some (decide_eq_false (by omega)).symm
theorem rfirst_ev {l : List S23} (hl : ∀ p ∈ l, pOk p) (hlen : l.length ≤ 16) {R : List S23 × Int} (d : Nat) : ∀ (i : Nat) (o : S23), i + d = l.length → pOk ((l.drop i).foldl low o) →
    Ev (fun k => dancestudioref03_Hull.l2 k l [(l.drop i).foldl low o] ((l.drop i).foldl low o).f0 ((l.drop i).foldl low o).f1 (nxt l ((l.drop i).foldl low o)).f0 (nxt l ((l.drop i).foldl low o)).f1) R →
    Ev (fun k => dancestudioref03_Hull.l1 k l (i : Int) o.f0 o.f1) R := by
  induction d with
  | zero =>
    intro i o hi ho h
    rw [List.drop_eq_nil_of_le (by omega)] at h ho
    exact ev_step (fun k => by simp only [dancestudioref03_Hull.l1] <;> exact rfl) (ev_neg (by omega) (Ev.bind (rnext_ev hl hlen ho) h))
  | succ d ih =>
    intro i o hi ho h
    have hlt : i < l.length := by omega
    rw [List.drop_eq_getElem_cons hlt, List.foldl_cons] at h ho
    have go := ih (i + 1) (low o l[i]) (by omega) ho h
    refine ev_step (fun k => by simp only [dancestudioref03_Hull.l1] <;> exact rfl) (ev_pos (by omega) (ev_pos (by omega) ?_))
    rw [rdT_nat l hlt, rbefore, w64 (by omega) (by omega)]
    simp only [Option.bind_some]
    by_cases h1 : lt2 l[i] o
    · rw [show low o l[i] = l[i] by unfold low; rw [if_pos h1]] at go; exact ev_pos (by simpa using h1) go
    · rw [show low o l[i] = o by unfold low; rw [if_neg h1]] at go; exact ev_neg (by simpa using h1) go

/-- The hull of valid points. -/
theorem hull_ev {l : List S23} (hl : ∀ p ∈ l, pOk p) (hlen : l.length ≤ 16) : ∃ H, (l = [] ∧ H = [] ∨ Hulled l H) ∧ Ev (fun k => geom_hull.f k l) H ∧
    Ev (fun k => if (l.length : Int) = 0 then (some (([] : List (S23)), (0 : Int))) else (if 0 < (l.length : Int) then (dancestudioref03_Hull.l1 k l 0 ((rd_T23 l 0).f0) ((rd_T23 l 0).f1)) else (none))) (H, 0) := by
  cases l with
  | nil => exact ⟨[], Or.inl ⟨rfl, rfl⟩, by simp only [geom_hull.f]; exact ev_pos (by simp) (ev_now _), ev_pos (by simp) (ev_now _)⟩
  | cons a t =>
    have ll := low_least (a :: t) [a] a (by simp) (fun r hr => by rw [List.mem_singleton.1 hr]; unfold lt2; omega)
    generalize hc : (a :: t).foldl low a = c at ll
    have mc : c ∈ a :: t := by simpa using ll.1
    have w := Walk.one (l := a :: t) mc (fun r hr => ll.2 r (List.mem_append.2 (Or.inr hr)))
    obtain ⟨H, hH, e1, e2⟩ := hull_both hl hlen t.length [c] 0 w rfl (by simp; omega)
    refine ⟨H, Or.inr hH, ?_, ?_⟩
    · simp only [geom_hull.f]
      refine ev_neg (by simp only [List.length_cons]; omega) (ev_pos (by simp only [List.length_cons]; omega) ?_)
      exact first_ev hlen (a :: t).length 0 a (by omega) (by simpa only [List.drop_zero, hc] using e1)
    · refine ev_neg (by simp only [List.length_cons]; omega) (ev_pos (by simp only [List.length_cons]; omega) ?_)
      exact rfirst_ev hl hlen (a :: t).length 0 a (by omega) (by simpa only [List.drop_zero, hc] using hl c mc) (by rw [List.drop_zero, hc]; exact e2)
end Go.Proofs.Ytmilejcbkpkplaa.PAll
