/- The reference's search, breadth first: it finds what the other search finds. -/
import Derived.Test.YtaacihkhckpecaaPAllx0
import Derived.Test.YtaacihkhckpecaaPAllf12
import Derived.Test.YtaacihkhckpecaaPAllf14
import Derived.Test.YtaacihkhckpecaaPAllf26
import Derived.Test.YtaacihkhckpecaaPAllf27
import Derived.Test.YtaacihkhckpecaaPAllf29
import Derived.Test.YtaacihkhckpecaaPAllf32
import Derived.Test.YtaacihkhckpecaaPAllf33
import Derived.Test.YtaacihkhckpecaaPAllf34
import Derived.Test.YtaacihkhckpecaaMatCheck
namespace Go.Proofs.Ytaacihkhckpecaa.PAll
set_option linter.unusedVariables false
open Go Go.RowKit Go.Proofs.YtaacihkhckpecaaW.PrintWords Go.Proofs.YtaacihkhckpecaaW.PrintLast Go.Proofs.YtaacihkhckpecaaW.PrintMore Go.Proofs.Ytaacihkhckpecaa.MathNum Go.Proofs.Ytaacihkhckpecaa.EvWords

theorem rcheck_loop {l : List (List Bool)} (hl : l.length ≤ 24) (hcol : colsOf l ≤ 24) {R : Int} (hy : (∀ r, r < l.length → (rd_L1 l (r : Int)).length = colsOf l) → R = 0) (hn : ¬ (∀ r, r < l.length → (rd_L1 l (r : Int)).length = colsOf l) → R = 2) (d : Nat) :
    ∀ i : Nat, i + d = l.length → (∀ r, r < i → (rd_L1 l (r : Int)).length = colsOf l) → Ev (fun k => dancestudioref10_Check.l0 k l (i : Int)) R := by
  induction d with
  | zero =>
    intro i hi h
    rw [hy fun r hr => h r (by omega)]
    exact ev_step (fun k => by simp only [dancestudioref10_Check.l0] <;> exact rfl) (ev_neg (by omega) (ev_now _))
  | succ d ih =>
    intro i hi h
    have cs : dancestudioref10_Columns.f l = some (colsOf l : Int) := by
      unfold dancestudioref10_Columns.f
      rw [if_neg (by omega), if_pos (by omega)]; rfl
    refine ev_step (fun k => by simp only [dancestudioref10_Check.l0] <;> exact rfl) (ev_pos (by omega) (ev_pos (by omega) ?_))
    rw [cs]
    simp only [Option.bind_some]
    by_cases hc : (rd_L1 l (i : Int)).length = colsOf l
    · refine ev_pos (by omega) ?_
      rw [w64 (by omega) (by omega)]
      refine ih (i + 1) (by omega) (fun r hr => ?_)
      by_cases e : r = i
      · subst e; exact hc
      · exact h r (by omega)
    · rw [hn fun g => hc (g i (by omega))]
      exact ev_neg (by omega) (ev_now _)
theorem rcols (l : List (List Bool)) : dancestudioref10_Columns.f l = some (colsOf l : Int) := by
  unfold dancestudioref10_Columns.f
  by_cases h : l.length = 0
  · rw [if_pos (by omega), colsOf_nil h]; rfl
  · rw [if_neg (by omega), if_pos (by omega)]; rfl
theorem rcheck_ev (l : List (List Bool)) : Ev (fun k => dancestudioref10_Check.f k l) (chk l) := by
  simp only [dancestudioref10_Check.f]
  have full : (24 < l.length ∨ 24 < colsOf l) → Ev (fun k => dancestudioref10_Check.j0 k l true) (chk l) := fun h =>
    ev_step (fun k => by simp only [dancestudioref10_Check.j0] <;> exact rfl) (ev_pos (show true = true from rfl) (by unfold chk; rw [if_pos h]; exact ev_now _))
  by_cases h1 : 24 < l.length
  · exact ev_pos (by omega) (full (Or.inl h1))
  · refine ev_neg (by omega) ?_
    rw [rcols]
    simp only [Option.bind_some]
    by_cases h2 : 24 < colsOf l
    · rw [decide_eq_true (show ((colsOf l : Nat) : Int) > 24 by omega)]; exact full (Or.inr h2)
    · rw [decide_eq_false (show ¬ ((colsOf l : Nat) : Int) > 24 by omega)]
      refine ev_step (fun k => by simp only [dancestudioref10_Check.j0] <;> exact rfl) (ev_neg (by simp) ?_)
      refine rcheck_loop (by omega) (by omega) (fun g => ?_) (fun g => ?_) l.length 0 (by omega) (fun r hr => by omega)
      · unfold chk; rw [if_neg (by omega), if_pos g]
      · unfold chk; rw [if_neg (by omega), if_neg g]
theorem rnone_loop {n : Nat} (hn : n ≤ 24) (d : Nat) : ∀ i : Nat, i + d = n → Ev (fun k => dancestudioref10_none.l0 k (n : Int) (List.replicate i (-1))) (List.replicate n (-1)) := by
  induction d with
  | zero =>
    intro i hi
    have : i = n := by omega
    subst this
    exact ev_step (fun k => by simp only [dancestudioref10_none.l0] <;> exact rfl) (ev_neg (by simp) (ev_now _))
  | succ d ih =>
    intro i hi
    refine ev_step (fun k => by simp only [dancestudioref10_none.l0] <;> exact rfl) (ev_pos (by simp; omega) (ev_pos (by simp; omega) ?_))
    rw [← List.replicate_succ']; exact ih (i + 1) (by omega)
theorem rnone_ev {n : Nat} (hn : n ≤ 24) : Ev (fun k => dancestudioref10_none.f k (n : Int)) (List.replicate n (-1)) := by
  simp only [dancestudioref10_none.f]
  exact rnone_loop hn n 0 (by omega)
theorem rhas_loop {xs : List Int} (hx : xs.length ≤ 24) {x : Int} (d : Nat) : ∀ i : Nat, i + d = xs.length → (∀ j, j < i → ow xs j ≠ x) → Ev (fun k => dancestudioref10_has.l0 k xs x (i : Int)) (decide (x ∈ xs)) := by
  induction d with
  | zero =>
    intro i hi h
    rw [decide_eq_false]
    · exact ev_step (fun k => by simp only [dancestudioref10_has.l0] <;> exact rfl) (ev_neg (by omega) (ev_now _))
    · intro hm
      obtain ⟨j, hj, e⟩ := List.getElem_of_mem hm
      exact h j (by omega) (by rw [ow_get hj]; exact e)
  | succ d ih =>
    intro i hi h
    refine ev_step (fun k => by simp only [dancestudioref10_has.l0] <;> exact rfl) (ev_pos (by omega) (ev_pos (by omega) ?_))
    by_cases c : ow xs i = x
    · rw [decide_eq_true (by rw [← c, ow_get (by omega)]; exact List.getElem_mem _)]
      exact ev_pos c (ev_now _)
    · refine ev_neg c ?_
      rw [w64 (by omega) (by omega)]
      refine ih (i + 1) (by omega) fun j hj => ?_
      by_cases q : j = i
      · subst q; exact c
      · exact h j (by omega)
theorem rhas_ev {xs : List Int} (hx : xs.length ≤ 24) (x : Int) : Ev (fun k => dancestudioref10_has.f k xs x) (decide (x ∈ xs)) := by
  simp only [dancestudioref10_has.f]
  exact rhas_loop hx xs.length 0 (by omega) (fun j hj => by omega)

/-- The columns of a list, marked. -/
def mkOf (m : Nat) (P : List Nat) : List Bool := (List.range m).map fun c => decide (c ∈ P)
theorem mkOf_len (m : Nat) (P : List Nat) : (mkOf m P).length = m := by simp [mkOf]
theorem mkOf_sb {m c : Nat} (hc : c < m) (P : List Nat) : sb (mkOf m P) c ↔ c ∈ P := by
  rw [sb_get (by rw [mkOf_len]; exact hc)]; simp [mkOf]
theorem sb_lt {s : List Bool} {c : Nat} (h : sb s c) : c < s.length := by
  apply Classical.byContradiction
  intro g
  unfold sb rdOf at h
  rw [List.getD_eq_getElem?_getD, Int.toNat_natCast, List.getElem?_eq_none (by omega)] at h
  cases h
section
variable {l : List (List Bool)} {tk : List Bool} {o F : List Int} {i : Nat} {P : List Nat}
/-- Where a column was reached from. -/
def From (l : List (List Bool)) (tk : List Bool) (o F : List Int) (i : Nat) (P : List Nat) : Prop := ∀ j (h : j < P.length), P[j] < tk.length ∧ 0 ≤ ow o P[j] ∧ ∃ r : Nat, ow F P[j] = (r : Int) ∧ Ed l tk r P[j] ∧ (r = i ∨ ∃ j', ∃ h' : j' < P.length, j' < j ∧ ow o P[j'] = (r : Int))
theorem exch_find {v : Int} {p c : Nat} {out : List Int} {R : List Int} (hm : o.length ≤ 24) (hc : c < F.length) (hco : c < out.length) (hv : ow F c = v) (hp : ∀ k, k < o.length → (ow o k = v ↔ k = p)) (h : Ev (fun k => dancestudioref10_exchange.l0 k o F (if p < o.length then (p : Int) else -1) (out.set c v)) R) (d : Nat) :
    ∀ j : Nat, j + d = o.length → Ev (fun k => dancestudioref10_exchange.l1 k o F (c : Int) out (if p < j then (p : Int) else -1) (j : Int)) R := by
  induction d with
  | zero =>
    intro j hj
    have : j = o.length := by omega
    subst this
    refine ev_step (fun k => by simp only [dancestudioref10_exchange.l1] <;> exact rfl) (ev_neg (by omega) (ev_pos (by omega) (ev_pos (by omega) (ev_pos (by omega) ?_))))
    rw [show rd F (c : Int) = v from hv, Int.toNat_natCast]; exact h
  | succ d ih =>
    intro j hj
    have := ih (j + 1) (by omega)
    refine ev_step (fun k => by simp only [dancestudioref10_exchange.l1] <;> exact rfl) (ev_pos (by omega) (ev_pos (by omega) (ev_pos (by omega) (ev_pos (by omega) ?_))))
    rw [w64 (by omega) (by omega), show rd F (c : Int) = v from hv]
    by_cases e : ow o j = v
    · have hpj := (hp j (by omega)).1 e
      refine ev_pos e ?_
      rw [if_pos (by omega)] at this
      rw [← hpj] at this; exact this
    · have hpj : j ≠ p := fun q => e ((hp j (by omega)).2 q)
      refine ev_neg e ?_
      by_cases q : p < j
      · rw [if_pos (by omega)] at this
        rw [if_pos q]; exact this
      · rw [if_neg (by omega)] at this
        rw [if_neg q]; exact this
/-- One column changes its row. -/
theorem exch_step {v : Int} {p c : Nat} {out : List Int} {R : List Int} (hm : o.length ≤ 24) (hc : c < F.length) (hco : c < out.length) (hv : ow F c = v) (hp : ∀ k, k < o.length → (ow o k = v ↔ k = p)) (h : Ev (fun k => dancestudioref10_exchange.l0 k o F (if p < o.length then (p : Int) else -1) (out.set c v)) R) :
    Ev (fun k => dancestudioref10_exchange.l0 k o F (c : Int) out) R := by
  refine ev_step (fun k => by simp only [dancestudioref10_exchange.l0] <;> exact rfl) (ev_pos (by omega) ?_)
  have := exch_find hm hc hco hv hp h o.length 0 (by omega)
  rw [if_neg (by omega)] at this; exact this
theorem exch_end {out : List Int} : Ev (fun k => dancestudioref10_exchange.l0 k o F (-1) out) out :=
  ev_step (fun k => by simp only [dancestudioref10_exchange.l0] <;> exact rfl) (ev_neg (by omega) (ev_now _))
/-- Back to the row that looked for a column: what is won from r is won from i. -/
theorem exch_row (hm : o.length ≤ 24) (ho : o.length = tk.length) (hF : F.length = tk.length) (once : ∀ x : Int, 0 ≤ x → o.count x ≤ 1) (fresh : o.count (i : Int) = 0) (hnd : P.Nodup) (hfr : From l tk o F i P) (n : Nat) :
    ∀ (r c : Nat) (out : List Int), n ≤ P.length → Won l tk o (mkOf tk.length (P.take n)) r (out.set c (r : Int)) → c < tk.length → out.length = tk.length → ow F c = (r : Int) → (r = i ∨ ∃ j', ∃ h' : j' < P.length, j' < n ∧ ow o P[j'] = (r : Int)) →
    ∃ o', Ev (fun k => dancestudioref10_exchange.l0 k o F (c : Int) out) o' ∧ Won l tk o (List.replicate tk.length false) i o' := by
  induction n using Nat.strongRecOn with
  | _ n IH =>
    intro r c out hn w hc hout hv hr
    have weak : ∀ {o' : List Int} {s : List Bool} {r : Nat}, Won l tk o s r o' → Won l tk o (List.replicate tk.length false) r o' := fun w => w.weaken fun c h => absurd h sb_rep
    rcases hr with rfl | ⟨j', h', hj, e⟩
    · refine ⟨_, exch_step (p := o.length) hm (by omega) (by omega) hv (fun k hk => ⟨fun q => ?_, fun q => by omega⟩) ?_, weak w⟩
      · have := count_of_ow hk q; omega
      · rw [if_neg (by omega)]; exact exch_end
    · obtain ⟨g1, g2, r', g3, g4, g5⟩ := hfr j' h'
      have uniq : ∀ k, k < o.length → (ow o k = (r : Int) ↔ k = P[j']) := fun k hk => ⟨fun q => own_inj (once (r : Int) (by omega)) hk (by omega) q e, fun q => by rw [q]; exact e⟩
      have nin : ¬ sb (mkOf tk.length (P.take j')) P[j'] := by
        rw [mkOf_sb g1]
        intro hm'
        rw [List.mem_take_iff_getElem] at hm'
        obtain ⟨q, q1, q2⟩ := hm'
        exact List.pairwise_iff_getElem.1 hnd q j' (by omega) (by omega) (by omega) q2
      have w2 : Won l tk o ((mkOf tk.length (P.take j')).set P[j'] true) (ow o P[j']).toNat (out.set c (r : Int)) := by
        rw [e, Int.toNat_natCast]
        refine w.weaken fun x hx => ?_
        have xl := sb_lt hx
        rw [List.length_set, mkOf_len] at xl
        rw [sb_set (by rw [mkOf_len]; exact g1), mkOf_sb xl] at hx
        rw [mkOf_sb xl]
        rcases hx with rfl | hx
        · rw [List.mem_take_iff_getElem]
          exact ⟨j', by omega, rfl⟩
        · rw [List.mem_take_iff_getElem] at hx ⊢
          obtain ⟨q, q1, q2⟩ := hx
          exact ⟨q, by omega, q2⟩
      have w3 := Won.turn ho (mkOf_len _ _) g1 nin g4 g2 w2
      obtain ⟨o', e', w'⟩ := IH j' hj r' P[j'] (out.set c (r : Int)) (by omega) w3 g1 (by simpa using hout) g3 (by
        rcases g5 with q | ⟨a, b, c, d⟩
        · exact Or.inl q
        · exact Or.inr ⟨a, b, c, d⟩)
      refine ⟨o', exch_step hm (by omega) (by omega) hv uniq ?_, w'⟩
      rw [if_pos (by omega)]; exact e'
/-- What the search has reached. -/
structure Bf (l : List (List Bool)) (tk : List Bool) (o F : List Int) (i : Nat) (P : List Nat) : Prop where
  len : F.length = tk.length
  nodup : P.Nodup
  mem : ∀ c, c < tk.length → (0 ≤ ow F c ↔ c ∈ P)
  frm : From l tk o F i P
/-- The rows whose columns are looked at, in their order. -/
def qu (o : List Int) (i : Nat) (P : List Nat) : List Int := (i : Int) :: P.map (ow o)
theorem qu_len : (qu o i P).length = P.length + 1 := by simp [qu]
theorem qu_app (c : Nat) : qu o i P ++ [ow o c] = qu o i (P ++ [c]) := by simp [qu]
theorem qu_zero : ow (qu o i P) 0 = (i : Int) := rfl
theorem qu_succ {j : Nat} (h : j < P.length) : ow (qu o i P) (j + 1) = ow o P[j] := by
  rw [ow_get (by rw [qu_len]; omega)]; simp [qu]
/-- Every row that waits is a row. -/
theorem Bf.row (hlt : ∀ c, c < tk.length → ow o c < l.length) (hi : i < l.length) (B : Bf l tk o F i P) {q : Nat} (hq : q < P.length + 1) : ∃ r : Nat, ow (qu o i P) q = (r : Int) ∧ r < l.length ∧ (r = i ∨ ∃ j', ∃ h' : j' < P.length, j' < q ∧ ow o P[j'] = (r : Int)) := by
  cases q with
  | zero => exact ⟨i, qu_zero, hi, Or.inl rfl⟩
  | succ j =>
    obtain ⟨g1, g2, _⟩ := B.frm j (by omega)
    have := hlt _ g1
    refine ⟨(ow o (P[j]'(by omega))).toNat, ?_, by omega, Or.inr ⟨j, by omega, by omega, by omega⟩⟩
    rw [qu_succ (by omega)]; omega
theorem Bf.small (B : Bf l tk o F i P) : P.length ≤ tk.length := by
  have := nodup_len (l := List.range tk.length) B.nodup (fun x hx => by
    obtain ⟨j, hj, rfl⟩ := List.getElem_of_mem hx
    exact List.mem_range.2 (B.frm j hj).1)
  rw [List.length_range] at this; exact this
/-- One column more. -/
theorem Bf.add (B : Bf l tk o F i P) {c r q : Nat} (hc : c < tk.length) (hP : c ∉ P) (hE : Ed l tk r c) (h0 : 0 ≤ ow o c) (hq : q < P.length + 1) (hr : r = i ∨ ∃ j', ∃ h' : j' < P.length, j' < q ∧ ow o P[j'] = (r : Int)) : Bf l tk o (F.set c (r : Int)) i (P ++ [c]) := by
  have fl := B.len
  refine ⟨by simpa using fl, ?_, fun x hx => ?_, fun j hj => ?_⟩
  · rw [List.nodup_append]
    exact ⟨B.nodup, by simp, fun a ha b hb => by simp at hb; rintro rfl; subst hb; exact hP ha⟩
  · rw [ow_set (by omega)]
    by_cases e : x = c
    · subst e; simp
    · rw [if_neg e, B.mem x hx]; simp [e]
  · rw [List.length_append, List.length_singleton] at hj
    by_cases e : j < P.length
    · obtain ⟨g1, g2, r', g3, g4, g5⟩ := B.frm j e
      have ne : P[j] ≠ c := fun q => hP (q ▸ List.getElem_mem e)
      rw [List.getElem_append_left e]
      refine ⟨g1, g2, r', by rw [ow_set (by omega), if_neg ne]; exact g3, g4, ?_⟩
      rcases g5 with q | ⟨a, b, c, d⟩
      · exact Or.inl q
      · exact Or.inr ⟨a, by simp; omega, c, by rw [List.getElem_append_left b]; exact d⟩
    · have : j = P.length := by omega
      subst this
      rw [List.getElem_append_right (Nat.le_refl _)]
      simp only [Nat.sub_self, List.getElem_cons_zero]
      refine ⟨hc, h0, r, by rw [ow_set (by omega), if_pos rfl], hE, ?_⟩
      rcases hr with q | ⟨a, b, c, d⟩
      · exact Or.inl q
      · exact Or.inr ⟨a, by simp; omega, by omega, by rw [List.getElem_append_left b]; exact d⟩
/-- The rows ahead of q are looked at. -/
def Seen (l : List (List Bool)) (tk : List Bool) (o : List Int) (i : Nat) (P : List Nat) (q : Nat) : Prop := ∀ a, a < q → ∀ x, Ed l tk (ow (qu o i P) a).toNat x → x ∈ P
theorem qu_keep {a c : Nat} (h : a < P.length + 1) : ow (qu o i (P ++ [c])) a = ow (qu o i P) a := by
  cases a with
  | zero => rfl
  | succ j =>
    rw [qu_succ (show j < P.length by omega), qu_succ (show j < (P ++ [c]).length by rw [List.length_append]; omega), List.getElem_append_left (show j < P.length by omega)]
/-- The list of the columns that are used, and their marks. -/
def Us (tk : List Bool) (us : List Int) : Prop := us.length ≤ 24 ∧ ∀ c, c < tk.length → (sb tk c ↔ (c : Int) ∈ us)
section
variable {us : List Int}
def Enl (l : List (List Bool)) (tk : List Bool) (o : List Int) (i : Nat) (A : Nat → Option (List Int × Bool)) : Prop := ∃ o' b s', Ev A (o', b) ∧ Found l tk o (List.replicate tk.length false) i b s' o'
theorem enl_step {A B : Nat → Option (List Int × Bool)} (h : ∀ k, A (k + 1) = B k) (e : Enl l tk o i B) : Enl l tk o i A := by
  obtain ⟨o', b, s', e, f⟩ := e
  exact ⟨o', b, s', ev_step h e, f⟩
theorem enl_map {A B : Nat → Option (List Int × Bool)} (h : ∀ R, Ev B R → Ev A R) (e : Enl l tk o i B) : Enl l tk o i A := by
  obtain ⟨o', b, s', e, f⟩ := e
  exact ⟨o', b, s', h _ e, f⟩
theorem enl_l1 (T : Tab l tk.length) (ho : o.length = tk.length) (hlt : ∀ c, c < tk.length → ow o c < l.length) (once : ∀ x : Int, 0 ≤ x → o.count x ≤ 1) (fresh : o.count (i : Int) = 0) (hi : i < l.length) (hus : Us tk us) {q : Nat}
    (next : ∀ F P, Bf l tk o F i P → Seen l tk o i P (q + 1) → q + 1 ≤ P.length + 1 → Enl l tk o i (fun k => dancestudioref10_enlarge.l0 k l o us F (qu o i P) ((q + 1 : Nat) : Int))) (d : Nat) :
    ∀ (c : Nat) (F : List Int) (P : List Nat), c + d = tk.length → Bf l tk o F i P → Seen l tk o i P q → q < P.length + 1 → (∀ x, x < c → Ed l tk (ow (qu o i P) q).toNat x → x ∈ P) →
    Enl l tk o i (fun k => dancestudioref10_enlarge.l1 k l o us F (qu o i P) (q : Int) (c : Int)) := by
  have h1 := T.rows
  have h2 := T.cols
  induction d with
  | zero =>
    intro c F P hc B hs hq hx
    have bs := B.small
    refine enl_map (fun R e => ?_) (next F P B (fun a ha x hE => ?_) hq)
    · refine ev_step (fun k => by simp only [dancestudioref10_enlarge.l1] <;> exact rfl) (ev_neg (by omega) ?_)
      rw [w64 (by omega) (by omega)]; exact e
    · by_cases h : a = q
      · subst h; exact hx x (by have := hE.2.1; omega) hE
      · exact hs a (by omega) x hE
  | succ d ih =>
    intro c F P hc B hs hq hx
    have bs := B.small
    have ql := qu_len (o := o) (i := i) (P := P)
    have fl := B.len
    have hcl : c < tk.length := by omega
    obtain ⟨r, er, hr, hfr⟩ := B.row hlt hi hq
    have hw := T.wide r hr
    have er' : rd (qu o i P) (q : Int) = (r : Int) := er
    rw [er, Int.toNat_natCast] at hx
    have skip : (Ed l tk r c → c ∈ P) → Enl l tk o i (fun k => dancestudioref10_enlarge.j2 k l o us F (qu o i P) (q : Int) (c : Int) true) := fun h => by
      refine enl_map (fun R e => ?_) (ih (c + 1) F P (by omega) B hs hq (fun x hx' hE => ?_))
      · refine ev_step (fun k => by simp only [dancestudioref10_enlarge.j2] <;> exact rfl) (ev_pos (show true = true from rfl) ?_)
        rw [w64 (by omega) (by omega)]; exact e
      · rw [er, Int.toNat_natCast] at hE
        by_cases e : x = c
        · subst e; exact h hE
        · exact hx x (by omega) hE
    have enter : ∀ {R}, Ev (fun k => if (rdOf false (rd_L1 l (r : Int)) (c : Int) = true) then (if (rd F (c : Int)) ≥ 0 then (dancestudioref10_enlarge.j2 k l o us F (qu o i P) (q : Int) (c : Int) true) else ((dancestudioref10_has.f k us (c : Int)).bind fun t173 => (dancestudioref10_enlarge.j2 k l o us F (qu o i P) (q : Int) (c : Int) t173))) else (dancestudioref10_enlarge.j2 k l o us F (qu o i P) (q : Int) (c : Int) true)) R → Ev (fun k => dancestudioref10_enlarge.l1 k l o us F (qu o i P) (q : Int) (c : Int)) R := by
      intro R h
      refine ev_step (fun k => by simp only [dancestudioref10_enlarge.l1] <;> exact rfl) (ev_pos (by omega) (ev_pos (by omega) (ev_pos (by omega) ?_)))
      rw [er']
      refine ev_pos (by omega) (ev_pos (by omega) (ev_pos (by omega) (ev_pos (by omega) ?_)))
      by_cases g : rdOf false (rd_L1 l (r : Int)) (c : Int) = true
      · simp only [if_pos g] at h ⊢
        exact ev_pos (by omega) h
      · simp only [if_neg g] at h ⊢
        exact h
    by_cases c1 : rdOf false (rd_L1 l (r : Int)) (c : Int) = true
    · by_cases c2 : ow F c ≥ 0
      · exact enl_map (fun R e => enter (ev_pos c1 (ev_pos c2 e))) (skip fun _ => (B.mem c hcl).1 c2)
      · have nP : c ∉ P := fun h => c2 ((B.mem c hcl).2 h)
        by_cases c3 : sb tk c
        · refine enl_map (fun R e => enter (ev_pos c1 (ev_neg c2 (Ev.bind (rhas_ev hus.1 _) ?_)))) (skip fun h => absurd c3 h.2.2.2)
          rw [decide_eq_true ((hus.2 c hcl).1 c3)]; exact e
        · have hE : Ed l tk r c := ⟨hr, hcl, c1, c3⟩
          have enter2 : ∀ {R}, Ev (fun k => if (rd o (c : Int)) < 0 then ((dancestudioref10_exchange.f k o (F.set c (r : Int)) (c : Int)).bind fun t177 => (some (t177, true))) else (dancestudioref10_enlarge.l1 k l o us (F.set c (r : Int)) (qu o i P ++ [rd o (c : Int)]) (q : Int) (wrap64 ((c : Int) + 1)))) R → Ev (fun k => dancestudioref10_enlarge.l1 k l o us F (qu o i P) (q : Int) (c : Int)) R := by
            intro R h
            refine enter (ev_pos c1 (ev_neg c2 (Ev.bind (rhas_ev hus.1 _) ?_)))
            rw [decide_eq_false fun g => c3 ((hus.2 c hcl).2 g)]
            refine ev_step (fun k => by simp only [dancestudioref10_enlarge.j2] <;> exact rfl) (ev_neg (by simp) (ev_pos (by omega) (ev_pos (by omega) (ev_pos (by omega) (ev_pos (by omega) ?_)))))
            simp only [Option.bind_some, er', Int.toNat_natCast]
            refine ev_pos (by omega) ?_
            by_cases g : rd o (c : Int) < 0
            · simp only [if_pos g] at h ⊢; exact h
            · simp only [if_neg g] at h ⊢
              exact ev_pos (by omega) h
          by_cases c4 : ow o c < 0
          · have w0 := Won.free (s := mkOf tk.length P) ho hcl (fun h => nP ((mkOf_sb hcl P).1 h)) hE c4
            have fr' : From l tk o (F.set c (r : Int)) i P := fun j hj => by
              obtain ⟨g1, g2, r', g3, g4⟩ := B.frm j hj
              refine ⟨g1, g2, r', ?_, g4⟩
              have ne : P[j] ≠ c := fun q => nP (by rw [← q]; exact List.getElem_mem hj)
              rw [ow_set (by omega), if_neg ne]; exact g3
            obtain ⟨o', e, w⟩ := exch_row (n := P.length) (r := r) (c := c) (out := o) (by omega) ho (by simpa using fl) once fresh B.nodup fr' (Nat.le_refl _) (by rw [List.take_length]; exact w0) hcl ho (by rw [ow_set (by omega), if_pos rfl]) (by
              rcases hfr with q | ⟨a, b, c, d⟩
              · exact Or.inl q
              · exact Or.inr ⟨a, b, b, d⟩)
            refine ⟨o', true, List.replicate tk.length false, enter2 (ev_pos c4 (Ev.bind (a := o') ?_ (ev_now _))), rfl, (fun h => by cases h), fun _ => w⟩
            simp only [dancestudioref10_exchange.f, Option.bind_some, List.nil_append]
            exact ev_pos (by simp; omega) e
          · refine enl_map (fun R e => enter2 (ev_neg c4 ?_)) (ih (c + 1) (F.set c (r : Int)) (P ++ [c]) (by omega) (B.add hcl nP hE (by omega) hq hfr) (fun a ha x hE' => ?_) (by simp; omega) (fun x hx' hE' => ?_))
            · rw [w64 (by omega) (by omega), show rd o (c : Int) = ow o c from rfl, qu_app]; exact e
            · rw [qu_keep (by omega)] at hE'
              exact List.mem_append_left _ (hs a ha x hE')
            · rw [qu_keep (by omega), er, Int.toNat_natCast] at hE'
              by_cases e : x = c
              · subst e; simp
              · exact List.mem_append_left _ (hx x (by omega) hE')
    · exact enl_map (fun R e => enter (ev_neg c1 e)) (skip fun h => absurd h.2.2.1 c1)
theorem enl_l0 (T : Tab l tk.length) (ho : o.length = tk.length) (hlt : ∀ c, c < tk.length → ow o c < l.length) (once : ∀ x : Int, 0 ≤ x → o.count x ≤ 1) (fresh : o.count (i : Int) = 0) (hi : i < l.length) (hus : Us tk us) (d : Nat) :
    ∀ (q : Nat) (F : List Int) (P : List Nat), q + d = tk.length + 2 → Bf l tk o F i P → Seen l tk o i P q → q ≤ P.length + 1 → Enl l tk o i (fun k => dancestudioref10_enlarge.l0 k l o us F (qu o i P) (q : Int)) := by
  induction d with
  | zero =>
    intro q F P hd B hs hq
    have := B.small
    omega
  | succ d ih =>
    intro q F P hd B hs hq
    have ql := qu_len (o := o) (i := i) (P := P)
    by_cases h : q < P.length + 1
    · refine enl_map (fun R e => ?_) (enl_l1 T ho hlt once fresh hi hus (fun F' P' B' s' q' => ih (q + 1) F' P' (by omega) B' s' q') tk.length 0 F P (by omega) B hs h (fun x hx => by omega))
      exact ev_step (fun k => by simp only [dancestudioref10_enlarge.l0] <;> exact rfl) (ev_pos (by omega) e)
    · have hql : q = P.length + 1 := by omega
      refine ⟨o, false, mkOf tk.length P, ev_step (fun k => by simp only [dancestudioref10_enlarge.l0] <;> exact rfl) (ev_neg (by omega) (ev_now _)), by simp [mkOf_len], fun _ => ⟨rfl, ⟨fun c h => absurd h sb_rep, fun c hc h1 h2 => ?_⟩, fun x hE => ?_⟩, fun h => by cases h⟩
      · rw [mkOf_sb hc] at h1
        obtain ⟨j, hj, rfl⟩ := List.getElem_of_mem h1
        refine ⟨(B.frm j hj).2.1, fun x hE => ?_⟩
        rw [mkOf_sb hE.2.1]
        refine hs (j + 1) (by omega) x ?_
        rw [qu_succ hj]; exact hE
      · rw [mkOf_sb hE.2.1]
        refine hs 0 (by omega) x ?_
        rw [qu_zero, Int.toNat_natCast]; exact hE
theorem enlarge_ev (T : Tab l tk.length) (ho : o.length = tk.length) (hlt : ∀ c, c < tk.length → ow o c < l.length) (once : ∀ x : Int, 0 ≤ x → o.count x ≤ 1) (fresh : o.count (i : Int) = 0) (hi : i < l.length) (hus : Us tk us) :
    Enl l tk o i (fun k => dancestudioref10_enlarge.f k l o us (i : Int)) := by
  have h2 := T.cols
  refine enl_map (fun R e => ?_) (enl_l0 T ho hlt once fresh hi hus (tk.length + 2) 0 (List.replicate tk.length (-1)) [] (by omega) ⟨by simp, List.nodup_nil, fun c hc => ?_, fun j h => by simp at h⟩ (fun a ha => by omega) (by simp))
  · simp only [dancestudioref10_enlarge.f]
    refine Ev.bind (rnone_ev (n := o.length) (by omega)) ?_
    rw [ho]; exact e
  · rw [show ow (List.replicate tk.length (-1)) c = -1 from rd_rep (by omega) (by omega)]
    simp
/-- The rows one by one: the greatest number. -/
theorem most_loop (T : Tab l tk.length) (hus : Us tk us) {fr : Nat} (d : Nat) : ∀ (r : Nat) (o : List Int) (S : Nat → Prop), r + d = l.length → fr ≤ r → Own l tk o fr r S →
    ∃ n : Nat, Ev (fun k => dancestudioref10_most.l0 k l us o ((o.countP (fun x => decide (0 ≤ x)) : Nat) : Int) (r : Int)) (n : Int) ∧ IsNu l tk fr n := by
  have hr := T.rows
  have hc := T.cols
  induction d with
  | zero =>
    intro r o S hd hfr h
    have : r = l.length := by omega
    subst this
    exact ⟨_, ev_step (fun k => by simp only [dancestudioref10_most.l0] <;> exact rfl) (ev_neg (by omega) (ev_now _)), h.nu⟩
  | succ d ih =>
    intro r o S hd hfr h
    have hl := h.len
    have le := List.countP_le_length (p := fun x : Int => decide (0 ≤ x)) (l := o)
    obtain ⟨o1, b, s', e1, f1⟩ := enlarge_ev (i := r) T hl (fun c hc => by have := (h.lt hc).1; omega) h.once (Nat.eq_zero_of_not_pos fun hp => by
      obtain ⟨c, hc, e⟩ := ow_of_count hp
      have := (h.lt (c := c) (by omega)).1
      omega) (by omega) hus
    obtain ⟨S1, h1, keep, size⟩ := h.next hfr f1
    obtain ⟨n, e2, h2⟩ := ih (r + 1) o1 S1 (by omega) (by omega) h1
    refine ⟨n, ev_step (fun k => by simp only [dancestudioref10_most.l0] <;> exact rfl) (ev_pos (by omega) (Ev.bind e1 ?_)), h2⟩
    cases b with
    | true =>
      rw [if_pos rfl] at size
      refine ev_pos rfl ?_
      rw [w64 (n := ((o.countP (fun x => decide (0 ≤ x)) : Nat) : Int) + 1) (by omega) (by omega), w64 (n := (r : Int) + 1) (by omega) (by omega)]
      rw [show ((o.countP (fun x => decide (0 ≤ x)) : Nat) : Int) + 1 = ((o1.countP (fun x => decide (0 ≤ x)) : Nat) : Int) by omega]
      exact e2
    | false =>
      refine ev_neg (by simp) ?_
      rw [w64 (n := (r : Int) + 1) (by omega) (by omega)]
      rw [keep rfl] at e2 ⊢
      exact e2
theorem most_ev (T : Tab l tk.length) (hus : Us tk us) {fr : Nat} (hfr : fr ≤ l.length) : ∃ n : Nat, Ev (fun k => dancestudioref10_most.f k l (fr : Int) us) (n : Int) ∧ IsNu l tk fr n := by
  have hc := T.cols
  have start : Own l tk (List.replicate tk.length (-1)) fr fr (fun _ => False) := by
    refine ⟨by simp, fun c hc => Or.inl ?_, fun x hx => ?_, fun c _ h => h.elim, fun r h1 h2 => by omega⟩
    · unfold ow; exact rd_rep (by omega) (by omega)
    · rw [List.count_replicate, if_neg (by simp; omega)]; omega
  have z : (List.replicate tk.length (-1 : Int)).countP (fun x => decide (0 ≤ x)) = 0 := by
    rw [List.countP_replicate]; simp
  obtain ⟨n, e, h⟩ := most_loop T hus (l.length - fr) fr (List.replicate tk.length (-1)) (fun _ => False) (by omega) (Nat.le_refl _) start
  rw [z] at e
  refine ⟨n, ?_, h⟩
  simp only [dancestudioref10_most.f, rcols, Option.bind_some]
  rw [(tab_chk T).2]
  exact Ev.bind (rnone_ev hc) e
end
end
theorem us_nil (l : List (List Bool)) : Us (free l) [] := ⟨by simp, fun c hc => ⟨fun h => by unfold free at h; exact absurd h sb_rep, fun h => by simp at h⟩⟩
theorem rsize_ok {l : List (List Bool)} (h : chk l = 0) : ∃ k : Nat, Ev (fun k => dancestudioref10_Size.f k l) ((k : Int), 0) ∧ IsNu l (free l) 0 k := by
  obtain ⟨n, e, hn⟩ := most_ev (chk_free h) (us_nil l) (fr := 0) (Nat.zero_le _)
  refine ⟨n, ?_, hn⟩
  simp only [dancestudioref10_Size.f]
  exact Ev.bind (rcheck_ev l) (ev_pos h (Ev.bind e (ev_now _)))
theorem rsize_bad {l : List (List Bool)} (h : chk l ≠ 0) : Ev (fun k => dancestudioref10_Size.f k l) (0, chk l) := by
  simp only [dancestudioref10_Size.f]
  exact Ev.bind (rcheck_ev l) (ev_neg h (ev_now _))
end Go.Proofs.Ytaacihkhckpecaa.PAll
