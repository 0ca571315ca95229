/- MatchOnce: plain law, for tables whose rows lie in memory. -/
import Derived.Test.YtaacihkhckpecaaPAllx0
import Derived.Test.YtaacihkhckpecaaPAllf10
import Derived.Test.YtaacihkhckpecaaPAllf16
import Derived.Test.YtaacihkhckpecaaPAllf19
import Derived.Test.YtaacihkhckpecaaMatCover
import Derived.Test.YtaacihkhckpecaaMatRefMatch
namespace Go.Proofs.Ytaacihkhckpecaa.PAll
set_option linter.unusedVariables false
open Go Go.RowKit Go.Proofs.YtaacihkhckpecaaW.PrintWords Go.Proofs.YtaacihkhckpecaaW.PrintLast Go.Proofs.YtaacihkhckpecaaW.PrintMore Go.Proofs.Ytaacihkhckpecaa.MathNum Go.Proofs.Ytaacihkhckpecaa.EvWords

theorem rd_L1_at {l : List (List Bool)} {i : Nat} (h : i < l.length) : rd_L1 l (i : Int) = l[i] := by
  unfold rd_L1
  rw [List.getD_eq_getElem?_getD, Int.toNat_natCast, List.getElem?_eq_getElem h]; rfl
theorem greedy_len {l : List (List Bool)} {i : Nat} {tk : List Bool} {lf : Nat} {rest : List Int} (h : Greedy l i tk lf rest) : i + rest.length = l.length := by
  induction h with
  | done i tk lf hi hn => simpa using hi
  | pick i tk lf c rest hi hn hg hl h ih => simp only [List.length_cons]; omega
  | skip i tk lf rest hi hn hl h ih => simp only [List.length_cons]; omega
section
variable {l : List (List Bool)} {e : Int} {xs : List Int}
theorem once_l3 {m : Nat} (hl : l.length ≤ 5864062014634) {i : Nat} (hi : i < l.length) (hr : l[i].length ≤ m) (hm : m < 140737488355328) {R : Bool} (h : Ev (fun k => dancestudiolaw10_MatchOnce.l2 k l l e xs xs e ((i + 1 : Nat) : Int)) R) (d : Nat) :
    ∀ j : Nat, j + d = l[i].length → Ev (fun k => dancestudiolaw10_MatchOnce.l3 k l l e xs xs e (i : Int) (j : Int)) R := by
  have hg := rd_L1_at hi
  induction d with
  | zero =>
    intro j hj
    refine ev_step (fun k => by simp only [dancestudiolaw10_MatchOnce.l3] <;> exact rfl) (ev_pos (by omega) (ev_pos (by omega) (ev_neg (by rw [hg]; omega) ?_)))
    rw [w64 (by omega) (by omega)]
    exact h
  | succ d ih =>
    intro j hj
    refine ev_step (fun k => by simp only [dancestudiolaw10_MatchOnce.l3] <;> exact rfl) (ev_pos (by omega) (ev_pos (by omega) (ev_pos (by rw [hg]; omega) (ev_pos (by omega) (ev_pos (by omega) (ev_pos (by rw [hg]; omega) (ev_neg (by simp) ?_)))))))
    rw [w64 (by omega) (by omega)]
    exact ih (j + 1) (by omega)
theorem once_l2 {m : Nat} (hl : l.length ≤ 5864062014634) (hr : ∀ r ∈ l, r.length ≤ m) (hm : m < 140737488355328) (hx : xs.length ≤ 24) (d : Nat) : ∀ i : Nat, i + d = l.length → Ev (fun k => dancestudiolaw10_MatchOnce.l2 k l l e xs xs e (i : Int)) true := by
  induction d with
  | zero =>
    intro i hi
    exact ev_step (fun k => by simp only [dancestudiolaw10_MatchOnce.l2] <;> exact rfl) (ev_neg (by omega) (ev_pos (show e = e from rfl) (Ev.bind (rints_ev hx) (ev_pos (show true = true from rfl) (Ev.bind awake_ev (ev_now _))))))
  | succ d ih =>
    intro i hi
    refine ev_step (fun k => by simp only [dancestudiolaw10_MatchOnce.l2] <;> exact rfl) (ev_pos (by omega) ?_)
    exact once_l3 hl (by omega) (hr _ (List.getElem_mem _)) hm (ih (i + 1) (by omega)) l[i].length 0 (by omega)
theorem once_l1 {m : Nat} (hl : l.length ≤ 5864062014634) (hr : ∀ r ∈ l, r.length ≤ m) (hm : m < 140737488355328) (hx : xs.length ≤ 24) {cov : List Int × List Int × Int} (hc : Ev (fun k => match_Cover.f k l) cov) (hk : Ev (fun k => match_Match.f k l) (xs, e)) (d : Nat) :
    ∀ (ys : List Int) (i : Nat), ys.length ≤ 24 → i + d = ys.length → Ev (fun k => dancestudiolaw10_MatchOnce.l1 k l l ys e xs (i : Int)) true := by
  induction d with
  | zero =>
    intro ys i hy hi
    exact ev_step (fun k => by simp only [dancestudiolaw10_MatchOnce.l1] <;> exact rfl) (ev_neg (by omega) (Ev.bind hc (Ev.bind hk (once_l2 hl hr hm hx l.length 0 (by omega)))))
  | succ d ih =>
    intro ys i hy hi
    refine ev_step (fun k => by simp only [dancestudiolaw10_MatchOnce.l1] <;> exact rfl) (ev_pos (by omega) (ev_pos (by omega) ?_))
    rw [w64 (by omega) (by omega)]
    exact ih _ (i + 1) (by rw [List.length_set]; exact hy) (by rw [List.length_set]; omega)
theorem once_l0 {m : Nat} (hl : l.length ≤ 5864062014634) (hr : ∀ r ∈ l, r.length ≤ m) (hm : m < 140737488355328) (hx : xs.length ≤ 24) {cov : List Int × List Int × Int} (hc : Ev (fun k => match_Cover.f k l) cov) (hk : Ev (fun k => match_Match.f k l) (xs, e)) (d : Nat) :
    ∀ i : Nat, i + d = l.length → Ev (fun k => dancestudiolaw10_MatchOnce.l0 k l (l.take i) (i : Int)) true := by
  induction d with
  | zero =>
    intro i hi
    rw [List.take_of_length_le (by omega)]
    refine ev_step (fun k => by simp only [dancestudiolaw10_MatchOnce.l0] <;> exact rfl) (ev_neg (by omega) (Ev.bind hk (Ev.bind hk (ev_pos rfl (Ev.bind (rints_ev hx) ?_)))))
    exact ev_step (fun k => by simp only [dancestudiolaw10_MatchOnce.j1] <;> exact rfl) (ev_neg (by simp) (once_l1 hl hr hm hx hc hk xs.length xs 0 hx (by omega)))
  | succ d ih =>
    intro i hi
    have hg := rd_L1_at (l := l) (i := i) (by omega)
    have := hr _ (List.getElem_mem (l := l) (n := i) (by omega))
    refine ev_step (fun k => by simp only [dancestudiolaw10_MatchOnce.l0] <;> exact rfl) (ev_pos (by omega) (ev_let (ev_pos (by omega) (ev_pos (by rw [hg]; simp only [List.length_nil]; omega) (ev_pos (by rw [List.length_take]; omega) ?_)))))
    rw [w64 (by omega) (by omega), hg, List.nil_append, List.take_append_getElem]
    exact ih (i + 1) (by omega)
end
theorem pure_MatchOnce (l : List (List Bool)) (hl : l.length ≤ 5864062014634) (hr : ∀ r ∈ l, r.length ≤ 140737488351232) : ∃ k, dancestudiolaw10_MatchOnce.f k l = some true := by
  refine ev_some ?_
  simp only [dancestudiolaw10_MatchOnce.f]
  have z : l.take 0 = [] := rfl
  by_cases hc : chk l = 0
  · obtain ⟨k', out, hk', g, e2⟩ := match_ok hc
    obtain ⟨a, b, o, S, e3, _⟩ := cover_ok hc
    have T := (chk_tab hc).rows
    have := greedy_len g
    have := once_l0 hl hr (by omega) (xs := out) (by omega) e3 e2 l.length 0 (by omega)
    rwa [z] at this
  · have := once_l0 hl hr (by omega) (xs := []) (by simp) (cover_bad hc) (match_bad hc) l.length 0 (by omega)
    rwa [z] at this
end Go.Proofs.Ytaacihkhckpecaa.PAll
