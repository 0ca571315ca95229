/- AssignMatch: plain law. An assignment's places of cost 0 are a matching; a matching can be filled up to an assignment. -/
import Derived.Test.YtbmflpflmjfabaaPAllx0
import Derived.Test.YtbmflpflmjfabaaPAllf10
import Derived.Test.YtbmflpflmjfabaaAsgAwake
import Derived.Test.YtbmflpflmjfabaaAsgSolve
import Derived.Test.YtbmflpflmjfabaaMMatSize
namespace Go.Proofs.Ytbmflpflmjfabaa.PAll
set_option linter.unusedVariables false
open Go Go.RowKit Go.Proofs.YtbmflpflmjfabaaW.PrintWords Go.Proofs.YtbmflpflmjfabaaW.PrintLast Go.Proofs.YtbmflpflmjfabaaW.PrintMore Go.Proofs.Ytbmflpflmjfabaa.MathNum Go.Proofs.Ytbmflpflmjfabaa.EvWords

/-- What a place costs; a row's costs; the table of costs. -/
def costB (b : Bool) : Int := if b = true then 0 else 1
def costs (l : List (List Bool)) : List (List Int) := l.map fun r => r.map costB
theorem costB_rng (b : Bool) : 0 ≤ costB b ∧ costB b ≤ 1 := by cases b <;> simp [costB]
/-- A square table of places. -/
structure Sq (l : List (List Bool)) (n : Nat) : Prop where
  len : l.length = n
  le : n ≤ 16
  row : ∀ i (h : i < l.length), l[i].length = n
theorem L3_at {l : List (List Bool)} {i : Nat} (h : i < l.length) : rd_L3 l (i : Int) = l[i] := by
  unfold rd_L3
  rw [List.getD_eq_getElem?_getD, Int.toNat_natCast, List.getElem?_eq_getElem h]; rfl
theorem rdB_at {r : List Bool} {i : Nat} (h : i < r.length) : rdOf false r (i : Int) = r[i] := by
  unfold rdOf
  rw [List.getD_eq_getElem?_getD, Int.toNat_natCast, List.getElem?_eq_getElem h]; rfl
variable {l : List (List Bool)} {n : Nat}
/-- Whether a place may be taken. -/
def plc (l : List (List Bool)) (r c : Nat) : Bool := rdOf false (rd_L3 l (r : Int)) (c : Int)
theorem costs_cell (S : Sq l n) {r c : Nat} (hr : r < n) (hc : c < n) : M (costs l) ((r : Int) + 1) ((c : Int) + 1) = costB (plc l r c) := by
  have h1 : r < l.length := by rw [S.len]; exact hr
  have h2 := S.row r h1
  rw [M, show (r : Int) + 1 - 1 = r by omega, show (c : Int) + 1 - 1 = c by omega, rdL_nat _ (by unfold costs; rw [List.length_map]; exact h1)]
  rw [rd_nat _ (by unfold costs; rw [List.getElem_map, List.length_map]; omega)]
  unfold costs plc
  rw [L3_at h1, rdB_at (by omega)]
  simp only [List.getElem_map]
theorem Sq.chk (S : Sq l n) : PAll.chk (costs l) = 0 := by
  have hl : (costs l).length = n := by unfold costs; rw [List.length_map]; exact S.len
  refine chk_of (by rw [hl]; exact S.le) (fun r hr => ?_) (fun r hr x hx => ?_)
  · obtain ⟨q, hq, rfl⟩ := List.mem_map.1 hr
    obtain ⟨i, hi, rfl⟩ := List.mem_iff_getElem.1 hq
    rw [hl, List.length_map]; exact S.row i hi
  · obtain ⟨q, hq, rfl⟩ := List.mem_map.1 hr
    obtain ⟨b, _, rfl⟩ := List.mem_map.1 hx
    have := costB_rng b
    omega
theorem Sq.tab (S : Sq l n) : Mat.Tab l n where
  rows := by have := S.len; have := S.le; omega
  cols := by have := S.le; omega
  wide := fun r hr => by rw [L3_at hr]; exact S.row r hr
  none := fun h => by rw [← S.len]; exact h
theorem Sq.ed (S : Sq l n) {r c : Nat} : Mat.Ed l (Mat.free l) r c ↔ r < n ∧ c < n ∧ plc l r c = true := by
  unfold Mat.Ed
  rw [Mat.free_len, (Mat.tab_chk S.tab).2, S.len]
  exact ⟨fun h => ⟨h.1, h.2.1, h.2.2.1⟩, fun h => ⟨h.1, h.2.1, h.2.2, Mat.sb_rep⟩⟩

/-- The rows of cost 0 among the first i. -/
def zer (l : List (List Bool)) (s : List Int) (i : Nat) : List Nat := (List.range i).filter fun r => plc l r (rd s (r : Int)).toNat
theorem zer_sum (S : Sq l n) {s : List Int} (h : Asg s n) : ∀ i, i ≤ n → csum (costs l) s i + ((zer l s i).length : Int) = i := by
  intro i
  induction i with
  | zero => intro _; rfl
  | succ i ih =>
    intro hi
    have := ih (by omega)
    have h1 := (h.2 (i : Int) (by omega) (by omega))
    have hc := costs_cell S (r := i) (c := (rd s (i : Int)).toNat) (by omega) (by omega)
    rw [show (((rd s (i : Int)).toNat : Nat) : Int) = rd s (i : Int) by omega] at hc
    simp only [csum]
    rw [hc]
    unfold zer at this ⊢
    rw [List.range_succ, List.filter_append]
    by_cases hp : plc l i (rd s (i : Int)).toNat = true
    · rw [List.filter_cons_of_pos (p := fun r : Nat => plc l r (rd s (r : Int)).toNat) hp, List.filter_nil, List.length_append, hp]
      simp only [costB, List.length_cons, List.length_nil, if_true]
      omega
    · rw [List.filter_cons_of_neg (p := fun r : Nat => plc l r (rd s (r : Int)).toNat) hp, List.filter_nil, List.length_append, Bool.eq_false_iff.2 hp]
      simp only [costB, List.length_nil]
      rw [if_neg (by simp)]
      omega
theorem zer_mt (S : Sq l n) {s : List Int} (h : Asg s n) : Mat.Mt l (Mat.free l) 0 ((zer l s n).map fun r => (r, (rd s (r : Int)).toNat)) where
  rows := by
    rw [List.pairwise_map]
    exact List.Pairwise.filter _ List.nodup_range
  cols := by
    rw [List.pairwise_map]
    have hz : (zer l s n).Pairwise (· ≠ ·) := List.Pairwise.filter _ List.nodup_range
    refine hz.imp_of_mem fun {a b} ha hb hne e => ?_
    have ha := List.mem_range.1 (List.mem_filter.1 ha).1
    have hb := List.mem_range.1 (List.mem_filter.1 hb).1
    exact hne (h.fn.2 a b ha hb e)
  ok := fun p hp => by
    obtain ⟨r, hr, rfl⟩ := List.mem_map.1 hp
    obtain ⟨h1, h2⟩ := List.mem_filter.1 hr
    have hr := List.mem_range.1 h1
    exact ⟨Nat.zero_le _, S.ed.2 ⟨hr, h.fn.1 r hr, h2⟩⟩

/-- Pairs of different rows and different columns below n. -/
structure Inj (n : Nat) (ps : List (Nat × Nat)) : Prop where
  rows : ps.Pairwise fun a b => a.1 ≠ b.1
  cols : ps.Pairwise fun a b => a.2 ≠ b.2
  ok : ∀ p ∈ ps, p.1 < n ∧ p.2 < n
theorem lacks {L : List Nat} (h : L.length < n) : ∃ x, x < n ∧ x ∉ L := by
  refine Classical.byContradiction fun hn => ?_
  have := Mat.nodup_len (s := List.range n) (l := L) List.nodup_range (fun x hx => Classical.byContradiction fun e => hn ⟨x, List.mem_range.1 hx, e⟩)
  rw [List.length_range] at this
  omega
theorem Inj.fill (d : Nat) : ∀ ps, Inj n ps → ps.length + d = n → ∃ qs, Inj n qs ∧ qs.length = n ∧ ∀ p ∈ ps, p ∈ qs := by
  induction d with
  | zero => intro ps h e; exact ⟨ps, h, e, fun _ h => h⟩
  | succ d ih =>
    intro ps h e
    obtain ⟨r, hr, hr'⟩ := lacks (n := n) (L := ps.map (·.1)) (by rw [List.length_map]; omega)
    obtain ⟨c, hc, hc'⟩ := lacks (n := n) (L := ps.map (·.2)) (by rw [List.length_map]; omega)
    obtain ⟨qs, hq, e', sub⟩ := ih ((r, c) :: ps) ⟨List.pairwise_cons.2 ⟨fun p hp e => hr' (List.mem_map.2 ⟨p, hp, e.symm⟩), h.rows⟩, List.pairwise_cons.2 ⟨fun p hp e => hc' (List.mem_map.2 ⟨p, hp, e.symm⟩), h.cols⟩,
      fun p hp => by
        rcases List.mem_cons.1 hp with rfl | hp
        · exact ⟨hr, hc⟩
        · exact h.ok p hp⟩ (by simp only [List.length_cons]; omega)
    exact ⟨qs, hq, e', fun p hp => sub p (List.mem_cons_of_mem _ hp)⟩
theorem pw_inj {α : Type} {f : α → Nat} : ∀ {ps : List α}, ps.Pairwise (fun a b => f a ≠ f b) → ∀ p ∈ ps, ∀ q ∈ ps, f p = f q → p = q := by
  intro ps
  induction ps with
  | nil => intro _ p hp; cases hp
  | cons a t ih =>
    intro h p hp q hq e
    rw [List.pairwise_cons] at h
    rcases List.mem_cons.1 hp with hp1 | hp1
    · rcases List.mem_cons.1 hq with hq1 | hq1
      · rw [hp1, hq1]
      · exact absurd (hp1 ▸ e) (h.1 q hq1)
    · rcases List.mem_cons.1 hq with hq1 | hq1
      · exact absurd (hq1 ▸ e.symm) (h.1 p hp1)
      · exact ih h.2 p hp1 q hq1 e
theorem Inj.total {qs : List (Nat × Nat)} (h : Inj n qs) (e : qs.length = n) {r : Nat} (hr : r < n) : ∃ c, (r, c) ∈ qs := by
  refine Classical.byContradiction fun hn => ?_
  have hnd : (r :: qs.map (·.1)).Nodup := by
    rw [List.nodup_cons]
    refine ⟨fun hm => ?_, ?_⟩
    · obtain ⟨p, hp, rfl⟩ := List.mem_map.1 hm
      exact hn ⟨p.2, hp⟩
    · exact List.pairwise_map.2 h.rows
  have := Mat.nodup_len (l := List.range n) hnd (fun x hx => by
    rcases List.mem_cons.1 hx with rfl | hx
    · exact List.mem_range.2 hr
    · obtain ⟨p, hp, rfl⟩ := List.mem_map.1 hx
      exact List.mem_range.2 (h.ok p hp).1)
  simp only [List.length_cons, List.length_map, List.length_range] at this
  omega
theorem Inj.asg {qs : List (Nat × Nat)} (h : Inj n qs) (e : qs.length = n) : ∃ s, Asg s n ∧ ∀ p ∈ qs, rd s (p.1 : Int) = p.2 := by
  have ex : ∀ r : Nat, ∃ c : Nat, r < n → (r, c) ∈ qs := fun r => by
    by_cases hr : r < n
    · obtain ⟨c, hc⟩ := h.total e hr
      exact ⟨c, fun _ => hc⟩
    · exact ⟨0, fun h => absurd h hr⟩
  obtain ⟨f, hf⟩ := Classical.axiomOfChoice ex
  have hA : Asg ((List.range n).map fun r => ((f r : Nat) : Int)) n := asg_of (fun i hi => by have := (h.ok _ (hf i hi)).2; simp only at this; omega) (fun i j hi hj e => by
    have := pw_inj (f := fun p : Nat × Nat => p.2) h.cols _ (hf i hi) _ (hf j hj) (by simp only; omega)
    exact (Prod.mk.inj this).1)
  refine ⟨_, hA, fun p hp => ?_⟩
  have hr := (h.ok p hp).1
  have := pw_inj (f := fun p : Nat × Nat => p.1) h.rows _ (hf p.1 hr) _ hp rfl
  rw [rd_nat _ (by simpa using hr)]
  simp only [List.getElem_map, List.getElem_range]
  rw [← this]
theorem least_match (S : Sq l n) {m : Int} (hm : IsMin (costs l) m) {k : Nat} (hk : Mat.IsNu l (Mat.free l) 0 k) : m = (n : Int) - k := by
  have hl : (costs l).length = n := by unfold costs; rw [List.length_map]; exact S.len
  unfold IsMin at hm
  rw [hl] at hm
  obtain ⟨⟨s, hs, e⟩, low⟩ := hm
  obtain ⟨⟨ps, hp, ep⟩, up⟩ := hk
  have h1 := zer_sum S hs n (Nat.le_refl _)
  have h2 := up _ (zer_mt S hs)
  rw [List.length_map] at h2
  have hI : Inj n ps := ⟨hp.rows, hp.cols, fun p h => by have := S.ed.1 (hp.ok p h).2; exact ⟨this.1, this.2.1⟩⟩
  have hle : ps.length ≤ n := by
    have hnd : (ps.map (·.1)).Nodup := List.pairwise_map.2 hp.rows
    have := Mat.nodup_len (l := List.range n) hnd (fun x hx => by
      obtain ⟨p, hp, rfl⟩ := List.mem_map.1 hx
      exact List.mem_range.2 (hI.ok p hp).1)
    simpa using this
  obtain ⟨qs, hq, eq, sub⟩ := hI.fill (n - ps.length) ps (by omega)
  obtain ⟨s', hs', at'⟩ := hq.asg eq
  have h3 := zer_sum S hs' n (Nat.le_refl _)
  have h4 : ps.length ≤ (zer l s' n).length := by
    have hnd : (ps.map (·.1)).Nodup := List.pairwise_map.2 hp.rows
    have := Mat.nodup_len (l := zer l s' n) hnd (fun x hx => by
      obtain ⟨p, hpp, rfl⟩ := List.mem_map.1 hx
      have h5 := S.ed.1 (hp.ok p hpp).2
      refine List.mem_filter.2 ⟨List.mem_range.2 h5.1, ?_⟩
      rw [at' p (sub p hpp), Int.toNat_natCast]
      exact h5.2.2)
    simpa using this
  have h5 := low s' hs'
  omega

/-! The walk's values. -/
theorem amatch_l1 {c : List (List Int)} {i : Nat} (hn : n ≤ 16) (hln : l.length = n) (hi : i < l.length) (hr : l[i].length = n) {R : Bool} (hc : c.length ≤ 16) (h : Ev (fun k => dancestudiolaw11_AssignMatch.l0 k l (c ++ [l[i].map costB]) ((i + 1 : Nat) : Int)) R) (d : Nat) :
    ∀ j : Nat, j + d = n → Ev (fun k => dancestudiolaw11_AssignMatch.l1 k l c (i : Int) ((l[i].take j).map costB) (j : Int)) R := by
  have hg := L3_at hi
  induction d with
  | zero =>
    intro j hj
    refine ev_step (fun k => by simp only [dancestudiolaw11_AssignMatch.l1] <;> exact rfl) (ev_neg (by omega) (ev_pos (by omega) ?_))
    rw [List.take_of_length_le (by omega), w64 (by omega) (by omega)]
    exact h
  | succ d ih =>
    intro j hj
    have hj' : j < l[i].length := by omega
    have hb : rdOf false (rd_L3 l (i : Int)) (j : Int) = l[i][j] := by rw [hg, rdB_at hj']
    have hnext := ih (j + 1) (by omega)
    rw [← List.take_append_getElem hj', List.map_append] at hnext
    refine ev_step (fun k => by simp only [dancestudiolaw11_AssignMatch.l1] <;> exact rfl) (ev_pos (by omega) (ev_pos (by omega) (ev_pos (by omega) (ev_pos (by omega) (ev_pos (by rw [hg]; omega) ?_)))))
    rw [hb, w64 (by omega) (by omega)]
    have hlt : ((l[i].take j).map costB).length < 17592186044416 := by rw [List.length_map, List.length_take]; omega
    cases hv : l[i][j] with
    | true =>
      rw [hv] at hnext
      exact ev_pos rfl (ev_pos hlt hnext)
    | false =>
      rw [hv] at hnext
      exact ev_neg (by simp) (ev_pos hlt hnext)
theorem amatch_l0 (hn : n ≤ 16) (hln : l.length = n) (d : Nat) : ∀ i : Nat, i + d = n → (∀ r (h : r < l.length), r < i → l[r].length = n) → Ev (fun k => dancestudiolaw11_AssignMatch.l0 k l (costs (l.take i)) (i : Int)) true := by
  induction d with
  | zero =>
    intro i hi hr
    have S : Sq l n := ⟨hln, hn, fun r h => hr r h (by omega)⟩
    rw [List.take_of_length_le (by omega)]
    obtain ⟨s, m, B, e⟩ := Solve_ev S.chk
    obtain ⟨k, e2, hk⟩ := Mat.size_ok (Mat.tab_chk S.tab).1
    have hm := least_match S B.isMin hk
    have hm0 : 0 ≤ m := (IsMin.rng (tab_of S.chk) B.isMin).1
    refine ev_step (fun k => by simp only [dancestudiolaw11_AssignMatch.l0] <;> exact rfl) (ev_neg (by omega) (Ev.bind e (Ev.bind e2 (ev_pos rfl (ev_pos rfl (ev_pos ?_ (Ev.bind awake_ev (ev_now _))))))))
    show m = wrap64 ((l.length : Int) - (k : Int))
    rw [w64 (by omega) (by omega), hm, hln]
  | succ d ih =>
    intro i hi hr
    have hi' : i < l.length := by omega
    have hg := L3_at hi'
    refine ev_step (fun k => by simp only [dancestudiolaw11_AssignMatch.l0] <;> exact rfl) (ev_pos (by omega) (ev_pos (by omega) ?_))
    by_cases hw : l[i].length = n
    · refine ev_pos (by rw [hg, hw, hln]) ?_
      refine amatch_l1 hn hln hi' hw (c := costs (l.take i)) (by unfold costs; rw [List.length_map, List.length_take]; omega) ?_ n 0 (by omega)
      have := ih (i + 1) (by omega) (fun r h hlt => by
        by_cases e : r = i
        · subst e; exact hw
        · exact hr r h (by omega))
      rw [← List.take_append_getElem hi'] at this
      unfold costs at this ⊢
      rw [List.map_append] at this
      exact this
    · exact ev_neg (by rw [hg, hln]; omega) (Ev.bind awake_ev (ev_now _))
theorem pure_AssignMatch (l : List (List Bool)) (_ : l.length ≤ maxLen) (_ : ∀ r ∈ l, r.length ≤ maxLen) : ∃ k, dancestudiolaw11_AssignMatch.f k l = some true := by
  refine ev_some ?_
  simp only [dancestudiolaw11_AssignMatch.f]
  by_cases h : (l.length : Int) > 16
  · exact ev_pos h (Ev.bind awake_ev (ev_now _))
  · exact ev_neg h (amatch_l0 (n := l.length) (by omega) rfl l.length 0 (by omega) (fun r h hlt => by omega))
end Go.Proofs.Ytbmflpflmjfabaa.PAll
