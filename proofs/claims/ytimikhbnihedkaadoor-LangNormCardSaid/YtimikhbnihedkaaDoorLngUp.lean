/- Operations above an expression, and what becomes of its leaves (plain). -/
import Derived.Test.YtimikhbnihedkaaDoorLngOne
import Derived.Test.YtimikhbnihedkaaDoorLngSame
namespace Go.Proofs.YtimikhbnihedkaaDoor.PAll
set_option linter.unusedVariables false
set_option linter.unusedSectionVars false
set_option linter.unusedSimpArgs false
open Go Go.RowKit Go.Proofs.YtimikhbnihedkaaDoorW.PrintWords Go.Proofs.YtimikhbnihedkaaDoorW.PrintLast Go.Proofs.YtimikhbnihedkaaDoorW.PrintMore Go.Proofs.YtimikhbnihedkaaDoor.MathNum Go.Proofs.YtimikhbnihedkaaDoor.EvWords

theorem endV_len (o : List S43) : (endV o).1.length ≤ 64 := by
  unfold endV
  split
  · simp
  · show o.length ≤ 64; omega
theorem nrmV_len (v : List S63 × Bool) : (nrmV v).1.length ≤ 64 := by
  unfold nrmV
  split
  · exact endV_len _
  · simp
def EqL (a b : List S63 × Bool) : Prop := a.2 = b.2 ∧ (a.2 = true → a.1 = b.1)
theorem nrmV_eq {a b : List S63 × Bool} (h : EqL a b) : nrmV a = nrmV b := by
  unfold nrmV
  by_cases h2 : a.2 = true
  · rw [if_pos h2, if_pos (h.1 ▸ h2), h.2 h2]
  · rw [if_neg h2, if_neg (fun q => h2 (h.1 ▸ q))]
/-- A valid expression: its leaves. -/
structure Val (l : List S43) (v : List S63 × Bool) : Prop where
  ex : ∃ (s : S43) (k : Fo), l = s :: k.flat ∧ k.ok ∧ s.f3 = (k.count : Int) ∧ ndE s = 0 ∧ k.nds ∧ v = nodeL s k.lvs
theorem Val.norm {l : List S43} {v : List S63 × Bool} (h : Val l v) (hl : l.length ≤ 64) : Ev (fun n => lang_Norm.f n l) (nrmV v) ∧ GoodL v := by
  obtain ⟨s, k, rfl, hk, h3, hs, hkn, rfl⟩ := h.ex
  simp only [List.length_cons] at hl
  exact ⟨norm_tree hk h3 hs hkn (by omega), (leaves_ev hk h3 hs hkn (by omega)).2⟩
def upL (op n : Int) (v : List S63 × Bool) : List S63 × Bool := if v.2 = true then finL (un op n) v.1 else ([], false)
theorem Val.up {l : List S43} {v : List S63 × Bool} (h : Val l v) {op n : Int} (ho : isOp (un op n)) : Val (un op n :: l) (upL op n v) := by
  obtain ⟨s, k, rfl, hk, h3, hs, hkn, rfl⟩ := h.ex
  refine ⟨un op n, .cons s k .nil, by simp only [Fo.flat, List.append_nil], ⟨h3, hk, trivial⟩, rfl, ndE_iff.2 (.inr ho), fun t ht => ?_, ?_⟩
  · simp only [Fo.flat, List.append_nil, List.mem_cons] at ht
    rcases ht with rfl | h
    · exact hs
    · exact hkn t h
  · unfold upL
    have h1 : ¬ (un op n).f0 = 1 := by have := ho.1; omega
    have e1 : (Fo.cons s k .nil).lvs = [nodeL s k.lvs] := rfl
    have e0 : ∀ cs, nodeL (un op n) cs = if cs.all (·.2) = true then finL (un op n) (catL cs) else ([], false) := fun cs => if_neg h1
    rw [e1, e0]
    have e2 : [nodeL s k.lvs].all (·.2) = (nodeL s k.lvs).2 := by simp
    have e3 : catL [nodeL s k.lvs] = (nodeL s k.lvs).1 := by simp [catL]
    rw [e2, e3]
theorem und_f4 (s : S43) (x : S63) : (undL s x).f4 = if s.f0 = 6 then x.f4 * s.f2 else x.f4 := by
  unfold undL
  by_cases h3 : s.f0 = 3
  · rw [if_pos h3, if_neg (by omega)]
  rw [if_neg h3]
  by_cases h4 : s.f0 = 4
  · rw [if_pos h4, if_neg (by omega)]
  rw [if_neg h4]
  by_cases h5 : s.f0 = 5
  · rw [if_pos h5, if_neg (by omega)]
  rw [if_neg h5]
  by_cases h6 : s.f0 = 6
  · rw [if_pos h6, if_pos h6]
  · rw [if_neg h6, if_neg h6]
theorem upL_ok {op n : Int} {v : List S63 × Bool} (ho : isOp (un op n)) (h7 : op ≠ 7) (h6 : op = 6 → n = 1) (hv : GoodL v) (h : v.2 = true) : upL op n v = ((rev4 (un op n) v.1).map (undL (un op n)), true) := by
  obtain ⟨g1, g2, g3⟩ := hv h
  have h7' : ¬ (un op n).f0 = 7 := h7
  unfold upL
  rw [if_pos h]
  unfold finL
  rw [if_neg (fun q => h7' q.1)]
  unfold rep7
  rw [if_neg h7']
  have r1 : (rev4 (un op n) v.1).length = v.1.length := by unfold rev4; split <;> simp
  have r2 : ∀ x, x ∈ rev4 (un op n) v.1 → x ∈ v.1 := by unfold rev4; intro x hx; split at hx <;> simpa using hx
  have hov : ¬ ovr (un op n) (rev4 (un op n) v.1) = true := by
    unfold ovr
    rw [List.any_eq_true]
    rintro ⟨x, hx, hq⟩
    have hq' := of_decide_eq_true hq
    have hx5 := (g1 x (r2 x hx)).2.2.2.2.1
    rw [und_f4] at hq'
    by_cases q6 : op = 6
    · have e1 : (un op n).f0 = 6 := q6
      have e2 : (un op n).f2 = 1 := h6 q6
      rw [if_pos e1, e2] at hq'; omega
    · have e1 : ¬ (un op n).f0 = 6 := q6
      rw [if_neg e1] at hq'; omega
  unfold endL
  rw [if_neg hov, decide_eq_true (by omega)]
theorem upL_no {op n : Int} {v : List S63 × Bool} (h : ¬ v.2 = true) : upL op n v = ([], false) := by unfold upL; rw [if_neg h]
theorem upL_good {op n : Int} {v : List S63 × Bool} (ho : isOp (un op n)) (hv : GoodL v) : GoodL (upL op n v) := by
  unfold upL
  by_cases h : v.2 = true
  · rw [if_pos h]; obtain ⟨g1, g2, g3⟩ := hv h; exact finL_good ho g1 g3
  · rw [if_neg h]; intro q; cases q
theorem noB_nil : noB.toList = [] := toList_mk []
theorem ops_ok : isOp (un 3 0) ∧ isOp (un 4 0) ∧ isOp (un 6 1) ∧ isOp (un 2 0) := by
  unfold isOp rOk un
  refine ⟨⟨?_, ?_, noB_nil, ⟨?_, ?_, ?_⟩, ?_, ?_, ?_⟩, ⟨?_, ?_, noB_nil, ⟨?_, ?_, ?_⟩, ?_, ?_, ?_⟩, ⟨?_, ?_, noB_nil, ⟨?_, ?_, ?_⟩, ?_, ?_, ?_⟩, ⟨?_, ?_, noB_nil, ⟨?_, ?_, ?_⟩, ?_, ?_, ?_⟩⟩ <;> simp
theorem rot_ok {n : Int} (h0 : 0 ≤ n) (h3 : n ≤ 3) : isOp (un 5 n) := by
  unfold isOp rOk un
  refine ⟨?_, ?_, noB_nil, ⟨?_, ?_, ?_⟩, ?_, ?_, ?_⟩ <;> simp <;> omega
theorem map_id_on {α : Type} {f : α → α} : ∀ {l : List α}, (∀ x, x ∈ l → f x = x) → l.map f = l
  | [], _ => rfl
  | x :: l, h => by rw [List.map_cons, h x (by simp), map_id_on (fun y hy => h y (by simp [hy]))]
theorem map_eq_on {α β : Type} {f g : α → β} : ∀ {l : List α}, (∀ x, x ∈ l → f x = g x) → l.map f = l.map g
  | [], _ => rfl
  | x :: l, h => by rw [List.map_cons, List.map_cons, h x (by simp), map_eq_on (fun y hy => h y (by simp [hy]))]
theorem und3 (x : S63) : undL (un 3 0) x = ⟨x.f0, (4 - x.f1) % 4, !x.f2, x.f3, x.f4⟩ := rfl
theorem und4 (x : S63) : undL (un 4 0) x = ⟨x.f0, x.f1, x.f2, !x.f3, x.f4⟩ := rfl
theorem und5 (n : Int) (x : S63) : undL (un 5 n) x = ⟨x.f0, (x.f1 + n) % 4, x.f2, x.f3, x.f4⟩ := rfl
theorem und6 (n : Int) (x : S63) : undL (un 6 n) x = ⟨x.f0, x.f1, x.f2, x.f3, x.f4 * n⟩ := rfl
theorem und2 (x : S63) : undL (un 2 0) x = x := rfl
theorem ext63 {a b : S63} (h0 : a.f0 = b.f0) (h1 : a.f1 = b.f1) (h2 : a.f2 = b.f2) (h3 : a.f3 = b.f3) (h4 : a.f4 = b.f4) : a = b := by
  cases a; cases b; simp only at h0 h1 h2 h3 h4; subst h0 h1 h2 h3 h4; rfl
section
variable {v : List S63 × Bool} (hv : GoodL v)
include hv
theorem law_mm : EqL (upL 3 0 (upL 3 0 v)) v := by
  by_cases h : v.2 = true
  · obtain ⟨g1, g2, g3⟩ := hv h
    have e1 := upL_ok ops_ok.1 (by decide) (by decide) hv h
    have gd := upL_good ops_ok.1 hv
    rw [upL_ok ops_ok.1 (by decide) (by decide) gd (by rw [e1]), e1]
    refine ⟨h.symm, fun _ => ?_⟩
    show ((v.1.map (undL (un 3 0))).map (undL (un 3 0))) = v.1
    rw [List.map_map]
    refine map_id_on (fun x hx => ?_)
    obtain ⟨a1, a2, a3, a4, a5, a6⟩ := g1 x hx
    show undL (un 3 0) (undL (un 3 0) x) = x
    rw [und3, und3]
    exact ext63 rfl (by show (4 - (4 - x.f1) % 4) % 4 = x.f1; omega) (by simp) rfl rfl
  · rw [upL_no (by rw [upL_no h]; simp)]
    exact ⟨(by simpa using h : v.2 = false).symm, fun q => by cases q⟩
theorem law_rr : EqL (upL 4 0 (upL 4 0 v)) v := by
  by_cases h : v.2 = true
  · have e1 := upL_ok ops_ok.2.1 (by decide) (by decide) hv h
    have gd := upL_good ops_ok.2.1 hv
    rw [upL_ok ops_ok.2.1 (by decide) (by decide) gd (by rw [e1]), e1]
    refine ⟨h.symm, fun _ => ?_⟩
    show ((v.1.reverse.map (undL (un 4 0))).reverse.map (undL (un 4 0))) = v.1
    rw [← List.map_reverse, List.reverse_reverse, List.map_map]
    refine map_id_on (fun x hx => ?_)
    show undL (un 4 0) (undL (un 4 0) x) = x
    rw [und4, und4]
    exact ext63 rfl rfl rfl (by simp) rfl
  · rw [upL_no (by rw [upL_no h]; simp)]
    exact ⟨(by simpa using h : v.2 = false).symm, fun q => by cases q⟩
theorem law_rot {q : Int} (h0 : 0 ≤ q) (h3 : q ≤ 3) : EqL (upL 5 q (upL 5 ((4 - q) % 4) v)) v := by
  have o1 := rot_ok h0 h3
  have o2 := rot_ok (n := (4 - q) % 4) (by omega) (by omega)
  by_cases h : v.2 = true
  · obtain ⟨g1, g2, g3⟩ := hv h
    have e1 := upL_ok o2 (by decide) (fun q => absurd q (by decide)) hv h
    have gd := upL_good o2 hv
    rw [upL_ok o1 (by decide) (fun q => absurd q (by decide)) gd (by rw [e1]), e1]
    refine ⟨h.symm, fun _ => ?_⟩
    show ((v.1.map (undL (un 5 ((4 - q) % 4)))).map (undL (un 5 q))) = v.1
    rw [List.map_map]
    refine map_id_on (fun x hx => ?_)
    obtain ⟨a1, a2, a3, a4, a5, a6⟩ := g1 x hx
    show undL (un 5 q) (undL (un 5 ((4 - q) % 4)) x) = x
    rw [und5, und5]
    exact ext63 rfl (by show ((x.f1 + (4 - q) % 4) % 4 + q) % 4 = x.f1; omega) rfl rfl rfl
  · rw [upL_no (by rw [upL_no h]; simp)]
    exact ⟨(by simpa using h : v.2 = false).symm, fun q => by cases q⟩
theorem law_st : EqL (upL 6 1 v) v := by
  by_cases h : v.2 = true
  · rw [upL_ok ops_ok.2.2.1 (by decide) (fun _ => rfl) hv h]
    refine ⟨h.symm, fun _ => ?_⟩
    show v.1.map (undL (un 6 1)) = v.1
    refine map_id_on (fun x hx => ?_)
    rw [und6]
    exact ext63 rfl rfl rfl rfl (by show x.f4 * 1 = x.f4; omega)
  · rw [upL_no h]
    exact ⟨(by simpa using h : v.2 = false).symm, fun q => by cases q⟩
theorem law_seq : EqL (upL 2 0 v) v := by
  by_cases h : v.2 = true
  · rw [upL_ok ops_ok.2.2.2 (by decide) (by decide) hv h]
    refine ⟨h.symm, fun _ => ?_⟩
    show v.1.map (undL (un 2 0)) = v.1
    exact map_id_on (fun x hx => und2 x)
  · rw [upL_no h]
    exact ⟨(by simpa using h : v.2 = false).symm, fun q => by cases q⟩
theorem law_mr : EqL (upL 3 0 (upL 4 0 v)) (upL 4 0 (upL 3 0 v)) := by
  by_cases h : v.2 = true
  · have e1 := upL_ok ops_ok.2.1 (by decide) (by decide) hv h
    have gd := upL_good ops_ok.2.1 hv
    have e2 := upL_ok ops_ok.1 (by decide) (by decide) hv h
    have gd2 := upL_good ops_ok.1 hv
    rw [upL_ok ops_ok.1 (by decide) (by decide) gd (by rw [e1]), e1, upL_ok ops_ok.2.1 (by decide) (by decide) gd2 (by rw [e2]), e2]
    refine ⟨rfl, fun _ => ?_⟩
    show ((v.1.reverse.map (undL (un 4 0))).map (undL (un 3 0))) = ((v.1.map (undL (un 3 0))).reverse.map (undL (un 4 0)))
    rw [← List.map_reverse, List.map_map, List.map_map]
    exact map_eq_on (fun x _ => rfl)
  · rw [upL_no (by rw [upL_no h]; simp), upL_no (by rw [upL_no h]; simp)]
    exact ⟨rfl, fun q => by cases q⟩
theorem law_mq {q : Int} (h0 : 0 ≤ q) (h3 : q ≤ 3) : EqL (upL 3 0 (upL 5 q v)) (upL 5 ((4 - q) % 4) (upL 3 0 v)) := by
  have o1 := rot_ok h0 h3
  have o2 := rot_ok (n := (4 - q) % 4) (by omega) (by omega)
  by_cases h : v.2 = true
  · obtain ⟨g1, g2, g3⟩ := hv h
    have e1 := upL_ok o1 (by decide) (fun q => absurd q (by decide)) hv h
    have gd := upL_good o1 hv
    have e2 := upL_ok ops_ok.1 (by decide) (by decide) hv h
    have gd2 := upL_good ops_ok.1 hv
    rw [upL_ok ops_ok.1 (by decide) (by decide) gd (by rw [e1]), e1, upL_ok o2 (by decide) (fun q => absurd q (by decide)) gd2 (by rw [e2]), e2]
    refine ⟨rfl, fun _ => ?_⟩
    show ((v.1.map (undL (un 5 q))).map (undL (un 3 0))) = ((v.1.map (undL (un 3 0))).map (undL (un 5 ((4 - q) % 4))))
    rw [List.map_map, List.map_map]
    refine map_eq_on (fun x hx => ?_)
    obtain ⟨a1, a2, a3, a4, a5, a6⟩ := g1 x hx
    show undL (un 3 0) (undL (un 5 q) x) = undL (un 5 ((4 - q) % 4)) (undL (un 3 0) x)
    rw [und3, und5, und3, und5]
    exact ext63 rfl (by show (4 - (x.f1 + q) % 4) % 4 = ((4 - x.f1) % 4 + (4 - q) % 4) % 4; omega) rfl rfl rfl
  · rw [upL_no (by rw [upL_no h]; simp), upL_no (by rw [upL_no h]; simp)]
    exact ⟨rfl, fun q => by cases q⟩
end
end Go.Proofs.YtimikhbnihedkaaDoor.PAll
