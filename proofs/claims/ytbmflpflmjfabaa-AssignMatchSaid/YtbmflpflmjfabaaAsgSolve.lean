/- Solve answers the lexicographically least of the assignments of least cost. -/
import Derived.Test.YtbmflpflmjfabaaPAllx0
import Derived.Test.YtbmflpflmjfabaaPAllf14
import Derived.Test.YtbmflpflmjfabaaAsgWout
namespace Go.Proofs.Ytbmflpflmjfabaa.PAll
set_option linter.unusedVariables false
open Go Go.RowKit Go.Proofs.YtbmflpflmjfabaaW.PrintWords Go.Proofs.YtbmflpflmjfabaaW.PrintLast Go.Proofs.YtbmflpflmjfabaaW.PrintMore Go.Proofs.Ytbmflpflmjfabaa.MathNum Go.Proofs.Ytbmflpflmjfabaa.EvWords
attribute [local irreducible] rd M rdOf

/-- l is the lexicographically least assignment that costs m; m is the least cost. -/
structure Best (c : List (List Int)) (n : Nat) (l : List Int) (m : Int) : Prop where
  asg : Asg l n
  cost : csum c l n = m
  min : ∀ l', Asg l' n → m ≤ csum c l' n
  lex : ∀ l', Asg l' n → csum c l' n = m → ∀ i : Nat, i < n → (∀ p : Nat, p < i → rd l' p = rd l p) → rd l i ≤ rd l' i

theorem Best.isMin {c : List (List Int)} {l : List Int} {m : Int} (h : Best c c.length l m) : IsMin c m := ⟨⟨l, h.asg, h.cost⟩, h.min⟩
theorem Best.unique {c : List (List Int)} {n : Nat} {l l' : List Int} {m m' : Int} (h : Best c n l m) (h' : Best c n l' m') : l = l' ∧ m = m' := by
  have hm : m = m' := by
    have a := h.min l' h'.asg
    have b := h'.min l h.asg
    rw [h'.cost] at a; rw [h.cost] at b; omega
  subst hm
  refine ⟨?_, rfl⟩
  have all : ∀ i : Nat, i < n → rd l i = rd l' i := by
    intro i
    induction i using Nat.strongRecOn with
    | _ i ih =>
      intro hi
      have a := h.lex l' h'.asg h'.cost i hi (fun p hp => (ih p hp (by omega)).symm)
      have b := h'.lex l h.asg h.cost i hi (fun p hp => ih p hp (by omega))
      omega
  have la := h.asg.1
  have lb := h'.asg.1
  refine List.ext_getElem (by omega) fun i h1 h2 => ?_
  have := all i (by omega)
  rwa [rd_nat l h1, rd_nat l' h2] at this

theorem best_nil {c : List (List Int)} : Best c 0 [] 0 :=
  ⟨⟨rfl, fun p a b => by omega⟩, rfl, fun l' _ => Int.le_refl _, fun l' _ _ i hi => by omega⟩

/-- The first column with which the least cost can be reached, and the best of what is left. -/
theorem best_cons {c : List (List Int)} {n : Nat} (T : Tab c ((n : Int) + 1)) {j : Int} (h0 : 0 ≤ j) (h1 : j < (n : Int) + 1) {l : List Int} {m m' : Int} (hm : IsMin c m) (B : Best (wout c j) n l m') (e : M c 1 (j + 1) + m' = m)
    (hfirst : ∀ q, 0 ≤ q → q < j → ∀ m'', IsMin (wout c q) m'' → M c 1 (q + 1) + m'' ≠ m) : Best c (n + 1) (j :: l.map (skip j)) m := by
  have hl := T.len
  have hlen : c.length = n + 1 := by omega
  have hc : csum c (j :: l.map (skip j)) (n + 1) = m := by rw [csum_cons T h0 h1 B.asg, B.cost, e]
  have hla := B.asg.1
  have cast : ((n + 1 : Nat) : Int) = (n : Int) + 1 := by omega
  have hsub : (n : Int) + 1 - 1 = n := by omega
  have A : Asg (j :: l.map (skip j)) ((n + 1 : Nat) : Int) := by
    rw [cast]; exact asg_cons h0 h1 (by rw [hsub]; exact B.asg)
  refine ⟨A, hc, fun l' h => ?_, fun l' h hc' i hi hp => ?_⟩
  · have := hm.2 l' (by rw [hlen]; exact h); rwa [hlen] at this
  · rw [cast] at h
    obtain ⟨r, hr, er⟩ := asg_uncons (by omega) h
    rw [hsub] at hr
    have h00 := h.2 0 (by omega) (by omega)
    obtain ⟨v, hv⟩ : ∃ v, v = rd l' 0 := ⟨_, rfl⟩
    rw [← hv] at er h00
    have hcc := csum_cons T h00.1 h00.2.1 hr
    rw [← er, hc'] at hcc
    have hv0 : j ≤ v := by
      apply Classical.byContradiction
      intro hlt
      -- the least cost of the table without column v
      have hwl : (wout c v).length = n := by rw [wout_len, hlen]; omega
      have Tv := T.wout h00.1 h00.2.1
      have : IsMin (wout c v) (csum (wout c v) r n) := by
        refine ⟨⟨r, by rw [hwl]; exact hr, by rw [hwl]⟩, fun r' h' => ?_⟩
        rw [hwl] at h' ⊢
        have a := asg_cons h00.1 h00.2.1 (l := r') (by rw [hsub]; exact h')
        have := hm.2 _ (by rw [hlen, cast]; exact a)
        rw [hlen, csum_cons T h00.1 h00.2.1 h'] at this
        omega
      exact hfirst v h00.1 (by omega) _ this hcc.symm
    by_cases hi0 : i = 0
    · subst hi0
      show rd (j :: _) 0 ≤ rd l' 0
      rw [rd_cons0, ← hv]; exact hv0
    · have e0 := hp 0 (by omega)
      have e0' : rd l' 0 = rd (j :: l.map (skip j)) 0 := e0
      rw [rd_cons0, ← hv] at e0'
      subst e0'
      rw [er]
      rw [rd_cons (by omega), rd_cons (by omega), rd_map (by omega) (by omega), rd_map (by omega) (by have := hr.1; omega)]
      apply skip_mono
      have hx := B.lex r hr (by have := hcc; omega) (i - 1) (by omega) (fun p hp' => ?_)
      · rwa [show ((i - 1 : Nat) : Int) = (i : Int) - 1 by omega] at hx
      · have := hp (p + 1) (by omega)
        rw [er, rd_cons (by omega), rd_cons (by omega), rd_map (by omega) (by have := hr.1; omega), rd_map (by omega) (by omega), show ((p + 1 : Nat) : Int) - 1 = p by omega] at this
        exact skip_inj this

/-- With some first column the least cost can be reached. -/
theorem first_exists {c : List (List Int)} {n : Nat} (T : Tab c ((n : Int) + 1)) {m : Int} (hm : IsMin c m) : ∃ q, 0 ≤ q ∧ q < (n : Int) + 1 ∧ ∀ m'', IsMin (wout c q) m'' → M c 1 (q + 1) + m'' = m := by
  have hl := T.len
  have hlen : c.length = n + 1 := by omega
  have cast : ((n + 1 : Nat) : Int) = (n : Int) + 1 := by omega
  have hsub : (n : Int) + 1 - 1 = n := by omega
  obtain ⟨l', h, e⟩ := hm.1
  rw [hlen] at h e
  rw [cast] at h
  obtain ⟨r, hr, er⟩ := asg_uncons (by omega) h
  rw [hsub] at hr
  have h00 := h.2 0 (by omega) (by omega)
  obtain ⟨v, hv⟩ : ∃ v, v = rd l' 0 := ⟨_, rfl⟩
  rw [← hv] at er h00
  have hcc := csum_cons T h00.1 h00.2.1 hr
  rw [← er, e] at hcc
  refine ⟨v, h00.1, h00.2.1, fun m'' h'' => ?_⟩
  have hwl : (wout c v).length = n := by rw [wout_len, hlen]; omega
  have a := h''.2 r (by rw [hwl]; exact hr)
  rw [hwl] at a
  obtain ⟨r2, hr2, e2⟩ := h''.1
  rw [hwl] at hr2 e2
  have b := hm.2 _ (by rw [hlen, cast]; exact asg_cons h00.1 h00.2.1 (l := r2) (by rw [hsub]; exact hr2))
  rw [hlen, csum_cons T h00.1 h00.2.1 hr2, e2] at b
  omega

theorem rd_names {names : List Int} {j : Int} (h0 : 0 ≤ j) (h1 : j < names.length) {q : Int} (hq : 0 ≤ q) : rd (([] ++ names.take j.toNat) ++ names.drop (j + 1).toNat) q = rd names (skip j q) := by
  have : (([] ++ names.take j.toNat) ++ names.drop (j + 1).toNat) = cutAt names j := by unfold cutAt; rw [List.nil_append, show (j + 1).toNat = j.toNat + 1 by omega]
  rw [this, rd_cutAt h0 h1 hq]
theorem names_len {names : List Int} {j : Int} (h0 : 0 ≤ j) (h1 : j < names.length) : (([] ++ names.take j.toNat) ++ names.drop (j + 1).toNat).length = names.length - 1 := by
  rw [List.nil_append, List.length_append, List.length_take, List.length_drop]; omega

theorem IsMin.rng {c : List (List Int)} {n m : Int} (T : Tab c n) (h : IsMin c m) : 0 ≤ m ∧ m ≤ 17592186044416 := by
  obtain ⟨l, a, e⟩ := h.1
  have hl := T.len
  have hn := T.le
  have := csum_bound T (l := l) c.length (by omega) (by rw [← hl]; exact a.2)
  omega

theorem solve_l2 {best : Int} {n : Nat} {names out : List Int} {c : List (List Int)} {left : Int} (T : Tab c ((n : Int) + 1)) (hm : IsMin c left) (hnl : names.length = n + 1) (hol : out.length ≤ 16)
    (R : List Int × Int × Int) (hR : ∀ l, Best c (n + 1) l left → R = (out ++ l.map (rd names), best, 0))
    (hK : ∀ j m', 0 ≤ j → j < (n : Int) + 1 → IsMin (wout c j) m' → ∃ l', Best (wout c j) n l' m' ∧
        Ev (fun k => assign_Solve.l1 k best (([] ++ names.take j.toNat) ++ names.drop (j + 1).toNat) (out ++ [rd names j]) m' (wout c j)) ((out ++ [rd names j]) ++ l'.map (rd (([] ++ names.take j.toNat) ++ names.drop (j + 1).toNat)), best, 0))
    (d : Nat) : ∀ j : Int, 0 ≤ j → j + d = (n : Int) + 1 → (∀ q, 0 ≤ q → q < j → ∀ m'', IsMin (wout c q) m'' → M c 1 (q + 1) + m'' ≠ left) →
      Ev (fun k => assign_Solve.l2 k best names out left c (rd_L1 c 0) ((rd_L1 c 0).length : Int) j) R := by
  have hl := T.len
  have hn := T.le
  have row := T.row0 (i := 0) (Int.le_refl _) (by omega)
  induction d with
  | zero =>
    intro j h0 hj hf
    obtain ⟨q, q0, q1, hq⟩ := first_exists T hm
    obtain ⟨mq, _, hmq⟩ := cost_ev (T.wout q0 q1)
    exact absurd (hq mq hmq) (hf q q0 (by omega) mq hmq)
  | succ d ih =>
    intro j h0 hj hf
    have h1 : j < (n : Int) + 1 := by omega
    obtain ⟨mj, ej, hmj⟩ := cost_ev (T.wout h0 h1)
    have b1 := hmj.rng (T.wout h0 h1)
    have b2 := T.lo 1 (j + 1) (by omega) (by omega) (by omega) (by omega)
    have b3 := T.hi 1 (j + 1) (by omega) (by omega) (by omega) (by omega)
    refine ev_step (fun k => by simp only [assign_Solve.l2] <;> exact rfl) (ev_pos (by omega) (ev_pos h0 (ev_pos (by omega) ?_)))
    refine Ev.bind (without_ev T h0 h1) (Ev.bind ej ?_)
    rw [cell_M (i := 0) (j := j), show (0 : Int) + 1 = 1 by omega, w64 (n := M c 1 (j + 1) + mj) (by omega) (by omega)]
    by_cases e : M c 1 (j + 1) + mj = left
    · obtain ⟨l', B, e'⟩ := hK j mj h0 h1 hmj
      have hla := B.asg.1
      refine ev_pos e (ev_pos (by omega) (ev_pos (by omega) (ev_let (ev_pos (by omega) (ev_let (ev_pos (by rw [List.length_take]; simp only [List.length_nil]; omega) (ev_let ?_)))))))
      rw [w64 (n := j + 1) (by omega) (by omega)]
      refine ev_pos (by omega) (ev_pos (by omega) (ev_let (ev_pos (by rw [List.length_append, List.length_take, List.length_drop]; simp only [List.length_nil]; omega) ?_)))
      rw [show left - M c 1 (j + 1) = mj by omega, w64 (n := mj) (by omega) (by omega)]
      refine ev_eq e' ?_
      rw [hR _ (best_cons T h0 h1 hm B e hf), List.map_cons, List.append_assoc, List.map_map]
      congr 2
      show rd names j :: _ = rd names j :: _
      congr 1
      refine List.map_congr_left fun q hq => ?_
      obtain ⟨i, hi, rfl⟩ := List.getElem_of_mem hq
      have := B.asg.2 i (by omega) (by omega)
      rw [rd_nat l' hi] at this
      rw [rd_names h0 (by omega) this.1]; rfl
    · refine ev_neg e ?_
      rw [w64 (n := j + 1) (by omega) (by omega)]
      exact ih (j + 1) (by omega) (by omega) (fun q q0 q1 m'' h'' => by
        by_cases eq : q = j
        · subst eq; rw [h''.unique hmj]; exact e
        · exact hf q q0 (by omega) m'' h'')

theorem solve_l1 {best : Int} (n : Nat) : ∀ (names out : List Int) (left : Int) (c : List (List Int)), Tab c n → IsMin c left → names.length = n → out.length + n ≤ 16 →
    ∃ l, Best c n l left ∧ Ev (fun k => assign_Solve.l1 k best names out left c) (out ++ l.map (rd names), best, 0) := by
  induction n with
  | zero =>
    intro names out left c T hm hnl hol
    have hl := T.len
    have hlen : c.length = 0 := by omega
    have : left = 0 := by
      obtain ⟨l, _, e⟩ := hm.1
      rw [hlen] at e
      simpa [csum] using e.symm
    subst this
    refine ⟨[], best_nil, ?_⟩
    rw [List.map_nil, List.append_nil]
    exact ev_step (fun k => by simp only [assign_Solve.l1] <;> exact rfl) (ev_neg (by omega) (ev_now _))
  | succ n ih =>
    intro names out left c T hm hnl hol
    have cast : ((n + 1 : Nat) : Int) = (n : Int) + 1 := by omega
    have hsub : (n : Int) + 1 - 1 = n := by omega
    rw [cast] at T
    have hl := T.len
    -- the best list of this table
    have hK : ∀ j m', 0 ≤ j → j < (n : Int) + 1 → IsMin (wout c j) m' → ∃ l', Best (wout c j) n l' m' ∧
        Ev (fun k => assign_Solve.l1 k best (([] ++ names.take j.toNat) ++ names.drop (j + 1).toNat) (out ++ [rd names j]) m' (wout c j)) ((out ++ [rd names j]) ++ l'.map (rd (([] ++ names.take j.toNat) ++ names.drop (j + 1).toNat)), best, 0) := by
      intro j m' h0 h1 h'
      exact ih _ _ m' (wout c j) (by have := T.wout h0 h1; rwa [hsub] at this) h' (by rw [names_len h0 (by omega), hnl]; omega) (by rw [List.length_append]; simp only [List.length_cons, List.length_nil]; omega)
    -- it exists: the first column from the left
    have hex : ∃ l, Best c (n + 1) l left := by
      obtain ⟨q, q0, q1, hq⟩ := first_exists T hm
      have main : ∀ d : Nat, ∀ j : Int, 0 ≤ j → j + d = q → (∀ p, 0 ≤ p → p < j → ∀ m'', IsMin (wout c p) m'' → M c 1 (p + 1) + m'' ≠ left) → ∃ l, Best c (n + 1) l left := by
        intro d
        induction d with
        | zero =>
          intro j h0 hj hf
          have : j = q := by omega
          subst this
          obtain ⟨mq, _, hmq⟩ := cost_ev (T.wout q0 q1)
          obtain ⟨l', B, _⟩ := hK j mq q0 q1 hmq
          exact ⟨_, best_cons T q0 q1 hm B (hq mq hmq) hf⟩
        | succ d ih2 =>
          intro j h0 hj hf
          have h1 : j < (n : Int) + 1 := by omega
          obtain ⟨mj, _, hmj⟩ := cost_ev (T.wout h0 h1)
          by_cases e : M c 1 (j + 1) + mj = left
          · obtain ⟨l', B, _⟩ := hK j mj h0 h1 hmj
            exact ⟨_, best_cons T h0 h1 hm B e hf⟩
          · exact ih2 (j + 1) (by omega) (by omega) (fun p p0 p1 m'' h'' => by
              by_cases eq : p = j
              · subst eq; rw [h''.unique hmj]; exact e
              · exact hf p p0 (by omega) m'' h'')
      exact main q.toNat 0 (Int.le_refl _) (by omega) (fun p p0 p1 => by omega)
    obtain ⟨l, B⟩ := hex
    refine ⟨l, B, ?_⟩
    refine ev_step (fun k => by simp only [assign_Solve.l1] <;> exact rfl) (ev_pos (by omega) (ev_pos (by omega) ?_))
    exact solve_l2 T hm hnl (by omega) _ (fun l2 B2 => by rw [(B2.unique B).1]) hK (n + 1) 0 (Int.le_refl _) (by omega) (fun p p0 p1 => by omega)

theorem solve_l0 {c : List (List Int)} {best : Int} {n : Nat} (hn : n ≤ 16) {R : List Int × Int × Int} (hK : ∀ names : List Int, names.length = n → (∀ q : Nat, q < n → rd names q = q) → Ev (fun k => assign_Solve.l1 k best names [] best c) R)
    (d : Nat) : ∀ (j : Nat) (names : List Int), j + d = n → names.length = j → (∀ q : Nat, q < j → rd names q = q) → Ev (fun k => assign_Solve.l0 k c best names (n : Int) (j : Int)) R := by
  induction d with
  | zero =>
    intro j names hj hl hs
    have : j = n := by omega
    subst this
    exact ev_step (fun k => by simp only [assign_Solve.l0] <;> exact rfl) (ev_neg (by omega) (hK names hl hs))
  | succ d ih =>
    intro j names hj hl hs
    refine ev_step (fun k => by simp only [assign_Solve.l0] <;> exact rfl) (ev_pos (by omega) (ev_pos (by omega) ?_))
    rw [w64 (by omega) (by omega)]
    refine ih (j + 1) _ (by omega) (by rw [List.length_append]; simp only [List.length_cons, List.length_nil]; omega) (fun q hq => ?_)
    rw [rd_nat _ (by rw [List.length_append]; simp only [List.length_cons, List.length_nil]; omega)]
    by_cases e : q = j
    · subst e
      rw [List.getElem_append_right (by omega)]; simp [hl]
    · rw [List.getElem_append_left (by omega), ← rd_nat names (by omega)]; exact hs q (by omega)

/-- Solve of a valid table. -/
theorem Solve_ev {c : List (List Int)} (h : chk c = 0) : ∃ l m, Best c c.length l m ∧ Ev (fun k => assign_Solve.f k c) (l, m, 0) := by
  have T := tab_of h
  have hn := T.le
  obtain ⟨m, em, hm⟩ := cost_ev T
  obtain ⟨l, B, _⟩ := solve_l1 (best := m) c.length (List.replicate c.length 0) [] m c T hm (by simp) (by simp only [List.length_nil]; omega)
  refine ⟨l, m, B, ?_⟩
  simp only [assign_Solve.f]
  refine Ev.bind (check_ev c) (ev_pos h (Ev.bind em ?_))
  refine solve_l0 (n := c.length) (by omega) (fun names hl hs => ?_) c.length 0 [] (by omega) rfl (fun q hq => by omega)
  obtain ⟨l2, B2, e⟩ := solve_l1 (best := m) c.length names [] m c T hm hl (by simp only [List.length_nil]; omega)
  rw [(B2.unique B).1] at e
  refine ev_eq e ?_
  rw [List.nil_append]
  congr 1
  refine List.ext_getElem (by simp) fun i h1 h2 => ?_
  rw [List.getElem_map]
  have := B.asg.2 i (by omega) (by have := B.asg.1; omega)
  rw [rd_nat l h2] at this
  have hx := hs (l[i]).toNat (by omega)
  rwa [Int.toNat_of_nonneg this.1] at hx
end Go.Proofs.Ytbmflpflmjfabaa.PAll
