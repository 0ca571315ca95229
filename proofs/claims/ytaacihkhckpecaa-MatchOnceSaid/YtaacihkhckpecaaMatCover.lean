/- Cover: rows and columns that hold every place, as many as the greatest matching has. -/
import Derived.Test.YtaacihkhckpecaaPAllx0
import Derived.Test.YtaacihkhckpecaaPAllf19
import Derived.Test.YtaacihkhckpecaaMatReach
namespace Go.Proofs.Ytaacihkhckpecaa.PAll
set_option linter.unusedVariables false
open Go Go.RowKit Go.Proofs.YtaacihkhckpecaaW.PrintWords Go.Proofs.YtaacihkhckpecaaW.PrintLast Go.Proofs.YtaacihkhckpecaaW.PrintMore Go.Proofs.Ytaacihkhckpecaa.MathNum Go.Proofs.Ytaacihkhckpecaa.EvWords

/-- The numbers below n with a mark as wanted. -/
def marked (b : Bool) (s : List Bool) (n : Nat) : List Nat := (List.range n).filter fun c => decide (sb s c) == b
theorem marked_mem {b : Bool} {s : List Bool} {n c : Nat} : c ∈ marked b s n ↔ c < n ∧ decide (sb s c) = b := by simp [marked]
theorem marked_nodup (b : Bool) (s : List Bool) (n : Nat) : (marked b s n).Nodup := List.Pairwise.filter _ List.nodup_range
theorem marked_lt (b : Bool) (s : List Bool) (n : Nat) : (marked b s n).Pairwise (· < ·) := List.Pairwise.filter _ List.pairwise_lt_range
theorem marked_len (b : Bool) (s : List Bool) (n : Nat) : (marked b s n).length ≤ n := by
  have := List.length_filter_le (fun c => decide (sb s c) == b) (List.range n)
  rw [List.length_range] at this; exact this
theorem marked_succ (b : Bool) (s : List Bool) (n : Nat) : marked b s (n + 1) = if decide (sb s n) = b then marked b s n ++ [n] else marked b s n := by
  unfold marked
  rw [List.range_succ, List.filter_append]
  by_cases h : decide (sb s n) = b
  · rw [if_pos h]; simp [h]
  · rw [if_neg h]; simp [h]
def ints (l : List Nat) : List Int := l.map fun (c : Nat) => (c : Int)
theorem ints_app (l : List Nat) (c : Nat) : ints (l ++ [c]) = ints l ++ [(c : Int)] := by simp [ints]
theorem ints_len (l : List Nat) : (ints l).length = l.length := by simp [ints]
theorem ints_mem {l : List Nat} {c : Nat} : (c : Int) ∈ ints l ↔ c ∈ l := by
  unfold ints
  constructor
  · intro h
    obtain ⟨x, hx, e⟩ := List.mem_map.1 h
    rw [show c = x by omega]; exact hx
  · exact fun h => List.mem_map.2 ⟨c, h, rfl⟩

section
variable {l : List (List Bool)} {tk : List Bool} {o : List Int} {S : Nat → Prop}
/-- The rows that have a column. -/
def Marks (l : List (List Bool)) (o : List Int) (i : Nat) (mk : List Bool) : Prop := mk.length = l.length ∧ ∀ r, r < l.length → (sb mk r ↔ ∃ c, c < i ∧ ow o c = (r : Int))
/-- What is reached. -/
structure Rd (l : List (List Bool)) (tk : List Bool) (o : List Int) (S : Nat → Prop) (mk R C : List Bool) (i : Nat) : Prop where
  rlen : R.length = l.length
  clen : C.length = tk.length
  row : ∀ r, r < l.length → sb R r → (∀ x, Ed l tk r x → sb C x) ∧ (sb mk r → ∃ c, c < tk.length ∧ sb C c ∧ ow o c = (r : Int))
  col : ∀ c, c < tk.length → sb C c → S c ∧ ∃ r : Nat, r < l.length ∧ ow o c = (r : Int) ∧ sb R r
  done : ∀ r, r < i → ¬ sb mk r → sb R r
theorem cover_l3 {C : List Bool} (hC : C.length ≤ 24) {a : List Int} (d : Nat) : ∀ i : Nat, i + d = C.length → Ev (fun k => match_Cover.l3 k a (ints (marked true C i)) C (C.length : Int) (i : Int)) (a, ints (marked true C C.length), 0) := by
  induction d with
  | zero =>
    intro i hi
    have : i = C.length := by omega
    subst this
    exact ev_step (fun k => by simp only [match_Cover.l3] <;> exact rfl) (ev_neg (by omega) (ev_now _))
  | succ d ih =>
    intro i hi
    have := ih (i + 1) (by omega)
    have ml := marked_len true C i
    rw [marked_succ] at this
    refine ev_step (fun k => by simp only [match_Cover.l3] <;> exact rfl) (ev_pos (by omega) (ev_pos (by omega) (ev_pos (by omega) ?_)))
    rw [w64 (by omega) (by omega)]
    by_cases h : sb C i
    · rw [if_pos (decide_eq_true h), ints_app] at this
      exact ev_pos h (ev_pos (by rw [ints_len]; omega) this)
    · rw [if_neg (by simp [h])] at this
      exact ev_neg h this
theorem cover_l2 {R C : List Bool} (hR : R.length ≤ 24) (hC : C.length ≤ 24) (d : Nat) : ∀ i : Nat, i + d = R.length → Ev (fun k => match_Cover.l2 k (ints (marked false R i)) R (R.length : Int) (i : Int) C) (ints (marked false R R.length), ints (marked true C C.length), 0) := by
  induction d with
  | zero =>
    intro i hi
    have : i = R.length := by omega
    subst this
    exact ev_step (fun k => by simp only [match_Cover.l2] <;> exact rfl) (ev_neg (by omega) (cover_l3 hC C.length 0 (by omega)))
  | succ d ih =>
    intro i hi
    have := ih (i + 1) (by omega)
    have ml := marked_len false R i
    rw [marked_succ] at this
    refine ev_step (fun k => by simp only [match_Cover.l2] <;> exact rfl) (ev_pos (by omega) (ev_pos (by omega) (ev_pos (by omega) ?_)))
    rw [w64 (by omega) (by omega)]
    by_cases h : sb R i
    · rw [if_neg (by simp [h])] at this
      exact ev_pos h this
    · rw [if_pos (decide_eq_false h), ints_app] at this
      exact ev_neg h (ev_pos (by rw [ints_len]; omega) this)
/-- What Cover answers. -/
def Covered (l : List (List Bool)) (tk : List Bool) (o : List Int) (S : Nat → Prop) (a b : List Int) : Prop := ∃ mk R C, Marks l o tk.length mk ∧ Rd l tk o S mk R C l.length ∧ a = ints (marked false R l.length) ∧ b = ints (marked true C tk.length)
theorem cover_l1 (T : Tab l tk.length) (hO : Own l tk o 0 l.length S) (hfree : ∀ c, ¬ sb tk c) {mk : List Bool} (hmk : Marks l o tk.length mk) (d : Nat) : ∀ (i : Nat) (R C : List Bool), i + d = l.length → Rd l tk o S mk R C i →
    ∃ a b, Ev (fun k => match_Cover.l1 k mk (l.length : Int) (i : Int) l o R C) (a, b, 0) ∧ Covered l tk o S a b := by
  have h1 := T.rows
  have h2 := T.cols
  induction d with
  | zero =>
    intro i R C hi h
    have : i = l.length := by omega
    subst this
    have rl := h.rlen
    have cl := h.clen
    refine ⟨_, _, ev_step (fun k => by simp only [match_Cover.l1] <;> exact rfl) (ev_neg (by omega) (cover_l2 (R := R) (C := C) (by omega) (by omega) R.length 0 (by omega))), mk, R, C, hmk, h, ?_, ?_⟩
    · rw [rl]
    · rw [cl]
  | succ d ih =>
    intro i R C hi h
    have ml := hmk.1
    by_cases hm : sb mk i
    · obtain ⟨a, b, e, g⟩ := ih (i + 1) R C (by omega) ⟨h.rlen, h.clen, h.row, h.col, fun r hr hn => by
        by_cases q : r = i
        · subst q; exact absurd hm hn
        · exact h.done r (by omega) hn⟩
      refine ⟨a, b, ev_step (fun k => by simp only [match_Cover.l1] <;> exact rfl) (ev_pos (by omega) (ev_pos (by omega) (ev_pos (by omega) (ev_pos hm ?_)))), g⟩
      rw [w64 (by omega) (by omega)]; exact e
    · have out : ∀ x, Ed l tk i x → S x := by
        refine hO.out i (by omega) (by omega) (Nat.eq_zero_of_not_pos fun hp => hm ?_)
        obtain ⟨c, hc, e⟩ := ow_of_count hp
        have := hO.len
        exact (hmk.2 i (by omega)).2 ⟨c, by omega, e⟩
      obtain ⟨R', C', e1, E, g1⟩ := reaches T hO hfree (R.count false) i R C (by omega) h.rlen h.clen (Nat.le_refl _) out
      obtain ⟨a, b, e, g⟩ := ih (i + 1) R' C' (by omega) ⟨by rw [E.rlen]; exact h.rlen, by rw [E.clen]; exact h.clen, fun r hr hR => by
          by_cases q : sb R r
          · obtain ⟨u, v⟩ := h.row r hr q
            exact ⟨fun x hx => E.csub x (u x hx), fun hv => by obtain ⟨c, c1, c2, c3⟩ := v hv; exact ⟨c, c1, E.csub c c2, c3⟩⟩
          · by_cases z : r = i
            · subst z; exact ⟨g1.elim (fun y => absurd y q) id, fun hv => absurd hv hm⟩
            · obtain ⟨u, v⟩ := E.row r hr hR q z
              exact ⟨u, fun _ => v⟩, fun c hc hC => by
          by_cases q : sb C c
          · obtain ⟨u, r, r1, r2, r3⟩ := h.col c hc q
            exact ⟨u, r, r1, r2, E.rsub r r3⟩
          · exact E.col c hc hC q, fun r hr hn => by
          by_cases z : r = i
          · subst z; exact E.self
          · exact E.rsub r (h.done r (by omega) hn)⟩
      refine ⟨a, b, ev_step (fun k => by simp only [match_Cover.l1] <;> exact rfl) (ev_pos (by omega) (ev_pos (by omega) (ev_pos (by omega) (ev_neg hm (Ev.bind e1 ?_))))), g⟩
      rw [w64 (by omega) (by omega)]; exact e
theorem cover_l0 (T : Tab l tk.length) (hO : Own l tk o 0 l.length S) (hfree : ∀ c, ¬ sb tk c) (d : Nat) : ∀ (i : Nat) (mk : List Bool), i + d = tk.length → Marks l o i mk →
    ∃ a b, Ev (fun k => match_Cover.l0 k mk o (o.length : Int) (i : Int) l o) (a, b, 0) ∧ Covered l tk o S a b := by
  have h1 := T.rows
  have h2 := T.cols
  have hol := hO.len
  induction d with
  | zero =>
    intro i mk hi h
    have : i = tk.length := by omega
    subst this
    obtain ⟨a, b, e, g⟩ := cover_l1 T hO hfree h l.length 0 (List.replicate l.length false) (List.replicate o.length false) (by omega)
      ⟨by simp, by simp [hol], fun r hr q => absurd q sb_rep, fun c hc q => absurd q sb_rep, fun r hr => by omega⟩
    refine ⟨a, b, ev_step (fun k => by simp only [match_Cover.l0] <;> exact rfl) (ev_neg (by omega) (ev_pos (by omega) (ev_pos (by omega) (ev_pos (by omega) (ev_pos (by omega) ?_))))), g⟩
    rw [Int.toNat_natCast, Int.toNat_natCast]; exact e
  | succ d ih =>
    intro i mk hi h
    have hil : i < tk.length := by omega
    have ml := h.1
    by_cases hp : 0 ≤ ow o i
    · obtain ⟨lt, _⟩ := hO.lt hil
      obtain ⟨r, er⟩ : ∃ r : Nat, ow o i = (r : Int) := ⟨(ow o i).toNat, by omega⟩
      obtain ⟨a, b, e, g⟩ := ih (i + 1) (mk.set r true) (by omega) ⟨by simp [ml], fun x hx => by
        rw [sb_set (by omega), h.2 x hx]
        constructor
        · rintro (q | ⟨c, c1, c2⟩)
          · exact ⟨i, by omega, by rw [er, q]⟩
          · exact ⟨c, by omega, c2⟩
        · rintro ⟨c, c1, c2⟩
          by_cases q : c = i
          · subst q; exact Or.inl (by omega)
          · exact Or.inr ⟨c, by omega, c2⟩⟩
      refine ⟨a, b, ev_step (fun k => by simp only [match_Cover.l0] <;> exact rfl) (ev_pos (by omega) (ev_pos (by omega) (ev_pos (by omega) (ev_pos hp ?_)))), g⟩
      rw [show rd o (i : Int) = (r : Int) from er]
      refine ev_pos (by omega) (ev_pos (by omega) ?_)
      rw [w64 (by omega) (by omega), Int.toNat_natCast]; exact e
    · obtain ⟨a, b, e, g⟩ := ih (i + 1) mk (by omega) ⟨ml, fun x hx => by
        rw [h.2 x hx]
        constructor
        · rintro ⟨c, c1, c2⟩; exact ⟨c, by omega, c2⟩
        · rintro ⟨c, c1, c2⟩
          by_cases q : c = i
          · subst q; omega
          · exact ⟨c, by omega, c2⟩⟩
      refine ⟨a, b, ev_step (fun k => by simp only [match_Cover.l0] <;> exact rfl) (ev_pos (by omega) (ev_pos (by omega) (ev_pos (by omega) (ev_neg hp ?_)))), g⟩
      rw [w64 (by omega) (by omega)]; exact e
/-- The cover has as many rows and columns as columns are owned. -/
theorem Covered.count (hO : Own l tk o 0 l.length S) {a b : List Int} (h : Covered l tk o S a b) : a.length + b.length = o.countP (fun x => decide (0 ≤ x)) := by
  obtain ⟨mk, R, C, hmk, hR, rfl, rfl⟩ := h
  rw [ints_len, ints_len]
  have ol := owned_len (o := o)
  have hol := hO.len
  rw [hol] at ol
  have split : (owned tk.length o).length = ((owned tk.length o).filter fun c => decide (sb C c)).length + ((owned tk.length o).filter fun c => !decide (sb C c)).length := by
    rw [← List.countP_eq_length_filter, ← List.countP_eq_length_filter]
    exact List.length_eq_countP_add_countP (fun c => decide (sb C c)) |>.trans (by congr 1; apply List.countP_congr; intro x _; simp)
  have nd : (owned tk.length o).Nodup := owned_nodup _ _
  have nm : ∀ c, c < tk.length → 0 ≤ ow o c → ∃ r : Nat, r < l.length ∧ ow o c = (r : Int) := fun c hc hp => by
    have := (hO.lt hc).1
    exact ⟨(ow o c).toNat, by omega, by omega⟩
  have ebC : (marked true C tk.length).length = ((owned tk.length o).filter fun c => decide (sb C c)).length := by
    apply Nat.le_antisymm
    · refine nodup_len (marked_nodup _ _ _) fun x hx => ?_
      obtain ⟨x1, x2⟩ := marked_mem.1 hx
      have hs : sb C x := by simpa using x2
      obtain ⟨_, r, _, r2, _⟩ := hR.col x x1 hs
      exact List.mem_filter.2 ⟨owned_mem.2 ⟨x1, by omega⟩, by simpa using hs⟩
    · refine nodup_len (nd.filter _) fun x hx => ?_
      obtain ⟨x1, x2⟩ := List.mem_filter.1 hx
      exact marked_mem.2 ⟨(owned_mem.1 x1).1, x2⟩
  have eaR : (marked false R l.length).length = ((owned tk.length o).filter fun c => !decide (sb C c)).length := by
    have e : (((owned tk.length o).filter fun c => !decide (sb C c)).map fun c => (ow o c).toNat).length = ((owned tk.length o).filter fun c => !decide (sb C c)).length := by simp
    rw [← e]
    apply Nat.le_antisymm
    · refine nodup_len (marked_nodup _ _ _) fun x hx => ?_
      obtain ⟨x1, x2⟩ := marked_mem.1 hx
      have hs : ¬ sb R x := by simpa using x2
      have hm : sb mk x := Classical.byContradiction fun q => hs (hR.done x x1 q)
      obtain ⟨c, c1, c2⟩ := (hmk.2 x x1).1 hm
      refine List.mem_map.2 ⟨c, List.mem_filter.2 ⟨owned_mem.2 ⟨c1, by omega⟩, ?_⟩, by omega⟩
      have : ¬ sb C c := fun q => by
        obtain ⟨_, r, r1, r2, r3⟩ := hR.col c c1 q
        have : r = x := by omega
        subst this; exact hs r3
      simpa using this
    · refine nodup_len ?_ fun x hx => ?_
      · show List.Pairwise (· ≠ ·) _
        rw [List.pairwise_map]
        refine List.Pairwise.imp_of_mem (fun {u v} hu hv huv e => ?_) (nd.filter _)
        have u1 := owned_mem.1 (List.mem_filter.1 hu).1
        have v1 := owned_mem.1 (List.mem_filter.1 hv).1
        exact huv (own_inj (hO.once (ow o u) u1.2) (by omega) (by omega) rfl (by omega))
      · obtain ⟨c, hc, rfl⟩ := List.mem_map.1 hx
        obtain ⟨c1, c2⟩ := List.mem_filter.1 hc
        obtain ⟨c3, c4⟩ := owned_mem.1 c1
        obtain ⟨r, r1, r2⟩ := nm c c3 c4
        have hs : ¬ sb C c := by simpa using c2
        rw [r2, Int.toNat_natCast]
        refine marked_mem.2 ⟨r1, decide_eq_false fun q => ?_⟩
        obtain ⟨c', d1, d2, d3⟩ := (hR.row r r1 q).2 ((hmk.2 r r1).2 ⟨c, c3, r2⟩)
        have : c' = c := own_inj (hO.once (r : Int) (by omega)) (by omega) (by omega) d3 r2
        subst this; exact hs d2
  omega
end
theorem cover_ok {l : List (List Bool)} (h : chk l = 0) : ∃ a b o S, Ev (fun k => match_Cover.f k l) (a, b, 0) ∧ Own l (free l) o 0 l.length S ∧ Covered l (free l) o S a b := by
  have T := chk_free h
  have hr := T.rows
  have hc := T.cols
  obtain ⟨o, S, e, hO⟩ := greatest_ev T (fr := 0) (Nat.zero_le _)
  obtain ⟨a, b, e2, g⟩ := cover_l0 T hO (fun c => by unfold free; exact sb_rep) (free l).length 0 (List.replicate l.length false) (by omega) ⟨by simp, fun r hr => ⟨fun q => absurd q sb_rep, fun ⟨c, c1, _⟩ => by omega⟩⟩
  refine ⟨a, b, o, S, ?_, hO, g⟩
  simp only [match_Cover.f]
  refine Ev.bind (check_ev l) (ev_pos h ?_)
  rw [columns_some T, free_len]
  simp only [Option.bind_some]
  rw [free_len] at hc
  refine ev_pos (by omega) (ev_pos (by omega) ?_)
  rw [Int.toNat_natCast]
  refine Ev.bind e (ev_pos (by omega) (ev_pos (by omega) ?_))
  rw [Int.toNat_natCast]; exact e2
theorem cover_bad {l : List (List Bool)} (h : chk l ≠ 0) : Ev (fun k => match_Cover.f k l) ([], [], chk l) := by
  simp only [match_Cover.f]
  exact Ev.bind (check_ev l) (ev_neg h (ev_now _))
end Go.Proofs.Ytaacihkhckpecaa.PAll
