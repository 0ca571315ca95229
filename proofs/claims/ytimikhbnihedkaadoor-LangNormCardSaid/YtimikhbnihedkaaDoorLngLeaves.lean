/- The leaves of an expression, as the program finds them. -/
import Derived.Test.YtimikhbnihedkaaDoorMC3
namespace Go.Proofs.YtimikhbnihedkaaDoor.PAll
set_option linter.unusedVariables false
set_option linter.unusedSectionVars false
set_option linter.unusedSimpArgs false
open Go Go.RowKit Go.Proofs.YtimikhbnihedkaaDoorW.PrintWords Go.Proofs.YtimikhbnihedkaaDoorW.PrintLast Go.Proofs.YtimikhbnihedkaaDoorW.PrintMore Go.Proofs.YtimikhbnihedkaaDoor.MathNum Go.Proofs.YtimikhbnihedkaaDoor.EvWords

/-- Products of factors of nodes. -/
inductive Smooth : Nat → Prop
  | one : Smooth 1
  | mul {a n : Nat} : Smooth a → 1 ≤ n → n ≤ 16 → Smooth (a * n)
def undL (s : S43) (x : S63) : S63 :=
  if s.f0 = 3 then ⟨x.f0, (4 - x.f1) % 4, !x.f2, x.f3, x.f4⟩ else if s.f0 = 4 then ⟨x.f0, x.f1, x.f2, !x.f3, x.f4⟩ else if s.f0 = 5 then ⟨x.f0, (x.f1 + s.f2) % 4, x.f2, x.f3, x.f4⟩ else if s.f0 = 6 then ⟨x.f0, x.f1, x.f2, x.f3, x.f4 * s.f2⟩ else x
def Inv (x : S63) : Prop := nameB x.f0 = true ∧ 0 ≤ x.f1 ∧ x.f1 ≤ 3 ∧ 1 ≤ x.f4 ∧ x.f4 ≤ 8192 ∧ Smooth x.f4.toNat
theorem und_inv {s : S43} {x : S63} (hs : isOp s) (hx : Inv x) (h : (undL s x).f4 ≤ 8192) : Inv (undL s x) := by
  obtain ⟨a1, a2, a3, a4, a5, a6⟩ := hx
  unfold undL at h ⊢
  by_cases h3 : s.f0 = 3
  · rw [if_pos h3]; exact ⟨a1, by show 0 ≤ (4 - x.f1) % 4; omega, by show (4 - x.f1) % 4 ≤ 3; omega, a4, a5, a6⟩
  rw [if_neg h3] at h ⊢
  by_cases h4 : s.f0 = 4
  · rw [if_pos h4]; exact ⟨a1, a2, a3, a4, a5, a6⟩
  rw [if_neg h4] at h ⊢
  by_cases h5 : s.f0 = 5
  · rw [if_pos h5]; exact ⟨a1, by show 0 ≤ (x.f1 + s.f2) % 4; omega, by show (x.f1 + s.f2) % 4 ≤ 3; omega, a4, a5, a6⟩
  rw [if_neg h5] at h ⊢
  by_cases h6 : s.f0 = 6
  · rw [if_pos h6] at h ⊢
    have hr := hs.2.2.2.1.2.1 (.inl h6)
    have h1 : 1 * 1 ≤ x.f4 * s.f2 := Int.mul_le_mul a4 hr.1 (by decide) (by omega)
    refine ⟨a1, a2, a3, by show 1 ≤ x.f4 * s.f2; omega, h, ?_⟩
    show Smooth (x.f4 * s.f2).toNat
    rw [Int.toNat_mul (by omega) (by omega)]
    exact Smooth.mul a6 (by omega) (by omega)
  · rw [if_neg h6] at h ⊢; exact ⟨a1, a2, a3, a4, a5, a6⟩
theorem und_ev {s : S43} {x : S63} (hs : isOp s) (hx : Inv x) : lang_leaf_under.f x.f0 x.f1 x.f2 x.f3 x.f4 s.f0 s.f1 s.f2 s.f3 = some ((undL s x).f0, (undL s x).f1, (undL s x).f2, (undL s x).f3, (undL s x).f4) := by
  obtain ⟨a1, a2, a3, a4, a5, a6⟩ := hx
  unfold lang_leaf_under.f undL
  by_cases h3 : s.f0 = 3
  · rw [if_pos h3, if_pos h3, w64 (by omega) (by omega), Int.tmod_eq_emod_of_nonneg (by omega)]
  rw [if_neg h3, if_neg h3]
  by_cases h4 : s.f0 = 4
  · rw [if_pos h4, if_pos h4]
  rw [if_neg h4, if_neg h4]
  by_cases h5 : s.f0 = 5
  · have hr := hs.2.2.2.1.1 h5
    rw [if_pos h5, if_pos h5, w64 (by omega) (by omega), Int.tmod_eq_emod_of_nonneg (by omega)]
  rw [if_neg h5, if_neg h5]
  by_cases h6 : s.f0 = 6
  · have hr := hs.2.2.2.1.2.1 (.inl h6)
    have := mul_range (a := x.f4) (b := s.f2) (A := 8192) (B := 16) (by omega) (by omega) (by omega) (by omega)
    rw [if_pos h6, if_pos h6, w64 (by omega) (by omega)]
  · rw [if_neg h6, if_neg h6]
/-! ### a row turned round -/
theorem rd63 (l : List S63) {i : Nat} (h : i < l.length) : rd_T63 l (i : Int) = l[i] := by
  unfold rd_T63; rw [Int.toNat_natCast, List.getD_eq_getElem?_getD, List.getElem?_eq_getElem h]; rfl
theorem rd63_mid {A B : List S63} {x : S63} {i : Nat} (h : i = A.length) : rd_T63 (A ++ x :: B) (i : Int) = x := by
  subst h
  rw [rd63 _ (by simp)]
  simp
theorem set_mid {A B : List S63} {x y : S63} {i : Nat} (h : i = A.length) : (A ++ x :: B).set i y = A ++ y :: B := by
  subst h
  simp
theorem ends {α : Type} (l : List α) (h : 2 ≤ l.length) : ∃ a m b, l = a :: (m ++ [b]) := by
  cases l with
  | nil => simp at h
  | cons a t =>
    have ht : t ≠ [] := fun q => by subst q; simp at h
    exact ⟨a, t.dropLast, t.getLast ht, by rw [List.dropLast_concat_getLast]⟩
theorem rev_l0 (n : Nat) : ∀ (mid A B : List S63) (i : Nat) (j : Int), mid.length ≤ n → A.length = i → j = (i : Int) + mid.length - 1 → (A ++ mid ++ B).length ≤ 100000 → Ev (fun k => lang_leaf.l0 k (A ++ mid ++ B) (i : Int) j) (A ++ mid.reverse ++ B) := by
  induction n with
  | zero =>
    intro mid A B i j hm hA hj hl
    have : mid = [] := List.length_eq_zero_iff.1 (by omega)
    subst this
    simp only [List.length_nil] at hj
    exact ev_step (fun k => by simp only [lang_leaf.l0] <;> exact rfl) (ev_neg (by omega) (ev_now _))
  | succ n ih =>
    intro mid A B i j hm hA hj hl
    by_cases h2 : 2 ≤ mid.length
    · obtain ⟨a, m, b, rfl⟩ := ends mid h2
      have hml : (a :: (m ++ [b])).length = m.length + 2 := by simp
      rw [hml] at hm hj
      have hlen : (A ++ a :: (m ++ [b]) ++ B).length = A.length + m.length + 2 + B.length := by simp; omega
      rw [hlen] at hl
      have e1 : A ++ a :: (m ++ [b]) ++ B = A ++ a :: (m ++ b :: B) := by simp
      have e2 : A ++ a :: (m ++ b :: B) = (A ++ a :: m) ++ b :: B := by simp
      have hj' : j = ((i + m.length + 1 : Nat) : Int) := by omega
      subst hj'
      have ra : rd_T63 (A ++ a :: (m ++ [b]) ++ B) (i : Int) = a := by rw [e1]; exact rd63_mid hA.symm
      have rb : rd_T63 (A ++ a :: (m ++ [b]) ++ B) ((i + m.length + 1 : Nat) : Int) = b := by rw [e1, e2]; exact rd63_mid (by simp; omega)
      refine ev_step (fun k => by simp only [lang_leaf.l0] <;> exact rfl) (ev_pos (by omega) (ev_pos (by omega) (ev_pos (by rw [hlen]; omega) (ev_pos (by omega) (ev_pos (by rw [hlen]; omega) ?_)))))
      rw [ra, rb, Int.toNat_natCast, Int.toNat_natCast, w64 (by omega) (by omega), w64 (by omega) (by omega), e1]
      have s1 : (A ++ a :: (m ++ b :: B)).set i b = (A ++ b :: m) ++ b :: B := by rw [set_mid hA.symm]; simp
      have s2 : ((A ++ b :: m) ++ b :: B).set (i + m.length + 1) a = (A ++ [b]) ++ m ++ (a :: B) := by rw [set_mid (by simp; omega)]; simp
      have e3 : (⟨b.f0, b.f1, b.f2, b.f3, b.f4⟩ : S63) = b := rfl
      have e4 : (⟨a.f0, a.f1, a.f2, a.f3, a.f4⟩ : S63) = a := rfl
      rw [e3, e4, s1, s2, show (i : Int) + 1 = ((i + 1 : Nat) : Int) by omega]
      refine ev_eq (ih m (A ++ [b]) (a :: B) (i + 1) _ (by omega) (by simp; omega) (by omega) (by simp; omega)) ?_
      simp
    · have hr : mid.reverse = mid := by
        match mid, h2 with
        | [], _ => rfl
        | [a], _ => rfl
        | a :: b :: m, h => exact absurd (by simp) h
      rw [hr]
      exact ev_step (fun k => by simp only [lang_leaf.l0] <;> exact rfl) (ev_neg (by omega) (ev_now _))
theorem rev_ev (l : List S63) (h : l.length ≤ 100000) : Ev (fun k => lang_leaf.f k l) l.reverse := by
  unfold lang_leaf.f
  rw [w64 (by omega) (by omega)]
  have := rev_l0 l.length l [] [] 0 ((l.length : Int) - 1) (Nat.le_refl _) rfl (by omega) (by simp; omega)
  simp only [List.nil_append, List.append_nil] at this
  exact this
/-! ### a node's leaves -/
def ovr (s : S43) (l : List S63) : Bool := l.any (fun x => decide ((undL s x).f4 > 8192))
def repL : Nat → List S63 → List S63
  | 0, _ => []
  | n + 1, l => l ++ repL n l
theorem repL_len : ∀ (n : Nat) (l : List S63), (repL n l).length = n * l.length
  | 0, l => by simp [repL]
  | n + 1, l => by rw [repL, List.length_append, repL_len n l, Nat.succ_mul]; omega
theorem repL_mem {n : Nat} {l : List S63} {x : S63} (h : x ∈ repL n l) : x ∈ l := by
  induction n with
  | zero => simp [repL] at h
  | succ n ih => rcases List.mem_append.1 h with h | h; exact h; exact ih h
def rev4 (s : S43) (out : List S63) : List S63 := if s.f0 = 4 then out.reverse else out
def rep7 (s : S43) (out : List S63) : List S63 := if s.f0 = 7 then repL s.f2.toNat out else out
def endL (s : S43) (o : List S63) : List S63 × Bool := if ovr s o = true then ([], false) else (o.map (undL s), decide ((o.length : Int) ≤ 64))
def finL (s : S43) (out : List S63) : List S63 × Bool := if s.f0 = 7 ∧ (out.length : Int) * s.f2 > 64 then ([], false) else endL s (rep7 s (rev4 s out))
section
variable {s : S43} (hs : isOp s)
include hs
theorem l2_ev (n : Nat) (hn : n ≤ 100000) : ∀ (rest pre : List S63), (pre ++ rest).length = n → (∀ x, x ∈ rest → Inv x) →
    Ev (fun k => lang_leaves.l2 k (pre ++ rest) (n : Int) (pre.length : Int) s.f0 s.f1 s.f2 s.f3) (if ovr s rest = true then ([], false) else (pre ++ rest.map (undL s), decide ((n : Int) ≤ 64)))
  | [], pre, hl, _ => by
    rw [List.append_nil] at hl ⊢
    exact ev_step (fun k => by simp only [lang_leaves.l2] <;> exact rfl) (ev_neg (by omega) (ev_eq (ev_now _) (by rw [if_neg (by simp [ovr]), hl]; simp)))
  | x :: rest, pre, hl, hi => by
    have hll : (pre ++ x :: rest).length = pre.length + rest.length + 1 := by simp; omega
    rw [hll] at hl
    have hx := hi x (by simp)
    refine ev_step (fun k => by simp only [lang_leaves.l2] <;> exact rfl) (ev_pos (by omega) (ev_pos (by omega) (ev_pos (by rw [hll]; omega) ?_)))
    rw [rd63_mid rfl, und_ev hs hx, Int.toNat_natCast, w64 (by omega) (by omega)]
    simp only [Option.bind_some]
    have hset : (pre ++ x :: rest).set pre.length (⟨(undL s x).f0, (undL s x).f1, (undL s x).f2, (undL s x).f3, (undL s x).f4⟩ : S63) = pre ++ undL s x :: rest := set_mid rfl
    rw [hset]
    by_cases h : (undL s x).f4 > 8192
    · exact ev_pos h (ev_eq (ev_now _) (by rw [if_pos (by simp [ovr, h])]))
    · refine ev_neg h ?_
      have := l2_ev n hn rest (pre ++ [undL s x]) (by simp; omega) (fun y hy => hi y (by simp [hy]))
      rw [List.length_append, List.length_singleton, List.append_assoc] at this
      refine ev_eq this ?_
      have : ovr s (x :: rest) = ovr s rest := by simp [ovr, h]
      rw [this]; simp
theorem j3_ev {o : List S63} (hn : o.length ≤ 100000) (hi : ∀ x, x ∈ o → Inv x) : Ev (fun k => lang_leaves.j3 k o s.f0 s.f1 s.f2 s.f3) (endL s o) :=
  ev_step (fun k => by simp only [lang_leaves.j3] <;> exact rfl) (ev_eq (l2_ev hs o.length hn o [] rfl hi) (by unfold endL; rw [List.nil_append]))
theorem l1_ev {x10 : List S63} {v : List S63 × Bool} (n : Nat) (hn : n ≤ 100) : ∀ (d i : Nat) (acc : List S63), i + d = n → acc.length + d * x10.length ≤ 100000 → Ev (fun k => lang_leaves.j3 k (acc ++ repL d x10) s.f0 s.f1 s.f2 s.f3) v →
    Ev (fun k => lang_leaves.l1 k acc x10 (n : Int) (i : Int) s.f0 s.f1 s.f2 s.f3) v
  | 0, i, acc, hi, hl, e => by
    rw [repL, List.append_nil] at e
    exact ev_step (fun k => by simp only [lang_leaves.l1] <;> exact rfl) (ev_neg (by omega) e)
  | d + 1, i, acc, hi, hl, e => by
    rw [Nat.succ_mul] at hl
    refine ev_step (fun k => by simp only [lang_leaves.l1] <;> exact rfl) (ev_pos (by omega) (ev_pos (by omega) ?_))
    rw [w64 (by omega) (by omega), show (i : Int) + 1 = ((i + 1 : Nat) : Int) by omega]
    refine l1_ev n hn d (i + 1) (acc ++ x10) (by omega) (by rw [List.length_append]; omega) ?_
    rw [List.append_assoc]; exact e
theorem j1_ev {o : List S63} (hn : o.length ≤ 10000) (hi : ∀ x, x ∈ o → Inv x) : Ev (fun k => lang_leaves.j1 k o s.f0 s.f1 s.f2 s.f3) (if s.f0 = 7 ∧ (o.length : Int) * s.f2 > 64 then ([], false) else endL s (rep7 s o)) := by
  refine ev_step (fun k => by simp only [lang_leaves.j1] <;> exact rfl) ?_
  by_cases h7 : s.f0 = 7
  · have hr := hs.2.2.2.1.2.1 (.inr h7)
    refine ev_pos h7 ?_
    have := mul_range (a := (o.length : Int)) (b := s.f2) (A := 10000) (B := 16) (by omega) (by omega) (by omega) (by omega)
    rw [w64 (n := (o.length : Int) * s.f2) (by omega) (by omega)]
    refine ev_ite (fun h => ev_eq (ev_now _) (by rw [if_pos ⟨h7, h⟩])) (fun h => ?_)
    rw [if_neg (fun q => h q.2), w64 (by omega) (by omega)]
    refine ev_pos (by simp; omega) ?_
    rw [List.nil_append]
    obtain ⟨m, hm⟩ : ∃ m : Nat, s.f2 = (m : Int) + 1 := ⟨(s.f2 - 1).toNat, by omega⟩
    have e1 : s.f2 - 1 = (m : Int) := by omega
    have e2 : s.f2.toNat = m + 1 := by omega
    unfold rep7
    rw [if_pos h7, e1, e2]
    have hml : m * o.length ≤ 64 := by
      have : ((m * o.length : Nat) : Int) ≤ 64 := by
        have h' : (o.length : Int) * s.f2 ≤ 64 := by omega
        rw [hm, Int.mul_add, Int.mul_one, Int.mul_comm] at h'
        rw [Int.natCast_mul]; omega
      omega
    refine l1_ev hs m (by omega) m 0 o (by omega) (by omega) ?_
    exact j3_ev hs (by rw [List.length_append, repL_len]; omega) (fun x hx => hi x (by rcases List.mem_append.1 hx with q | q; exact q; exact repL_mem q))
  · refine ev_neg h7 ?_
    unfold rep7
    rw [if_neg (fun q => h7 q.1), if_neg h7]
    exact j3_ev hs (by omega) hi
theorem fin_ev {out : List S63} {L : List (List S43)} (hL : L.length ≤ 1000) (hn : out.length ≤ 10000) (hi : ∀ x, x ∈ out → Inv x) : Ev (fun k => lang_leaves.l0 k out L (L.length : Int) (L.length : Int) s.f0 s.f1 s.f2 s.f3) (finL s out) := by
  refine ev_step (fun k => by simp only [lang_leaves.l0] <;> exact rfl) (ev_neg (by omega) ?_)
  unfold finL rev4
  by_cases h4 : s.f0 = 4
  · have := j1_ev hs (o := out.reverse) (by simp; omega) (fun x hx => hi x (by simpa using hx))
    rw [List.length_reverse] at this
    rw [if_pos h4]
    exact ev_pos h4 (Ev.bind (rev_ev out (by omega)) this)
  · rw [if_neg h4]
    exact ev_neg h4 (j1_ev hs hn hi)
end
def catL (vs : List (List S63 × Bool)) : List S63 := (vs.map (·.1)).flatten
def nodeL (s : S43) (cs : List (List S63 × Bool)) : List S63 × Bool := if s.f0 = 1 then ([⟨s.f1, 0, false, false, 1⟩], true) else if cs.all (·.2) = true then finL s (catL cs) else ([], false)
def Fo.lvs : Fo → List (List S63 × Bool)
  | .nil => []
  | .cons s k r => nodeL s k.lvs :: r.lvs
theorem Fo.lvs_length : ∀ f : Fo, f.lvs.length = f.count
  | .nil => rfl
  | .cons s k r => by simp only [Fo.lvs, Fo.count, List.length_cons, Fo.lvs_length r]
/-- Leaves that are right. -/
def GoodL (v : List S63 × Bool) : Prop := v.2 = true → (∀ x, x ∈ v.1 → Inv x) ∧ v.1.length ≤ 64 ∧ 1 ≤ v.1.length
theorem catL_good : ∀ {vs : List (List S63 × Bool)}, (∀ v, v ∈ vs → GoodL v) → vs.all (·.2) = true → (∀ x, x ∈ catL vs → Inv x) ∧ (catL vs).length ≤ 64 * vs.length ∧ vs.length ≤ (catL vs).length
  | [], _, _ => ⟨fun x hx => by simp [catL] at hx, by simp [catL], by simp [catL]⟩
  | v :: vs, h, ha => by
    simp only [List.all_cons, Bool.and_eq_true] at ha
    obtain ⟨g1, g2, g3⟩ := h v (by simp) ha.1
    obtain ⟨i1, i2, i3⟩ := catL_good (fun w hw => h w (by simp [hw])) ha.2
    have e : catL (v :: vs) = v.1 ++ catL vs := by simp [catL]
    rw [e, List.length_append, List.length_cons]
    refine ⟨fun x hx => ?_, by omega, by omega⟩
    rcases List.mem_append.1 hx with q | q
    · exact g1 x q
    · exact i1 x q
theorem endL_good {s : S43} (hs : isOp s) {o : List S63} (hi : ∀ x, x ∈ o → Inv x) (h1 : 1 ≤ o.length) : GoodL (endL s o) := by
  unfold endL GoodL
  by_cases h : ovr s o = true
  · rw [if_pos h]; intro q; cases q
  · rw [if_neg h]
    intro q
    have q' := of_decide_eq_true q
    refine ⟨fun y hy => ?_, by rw [List.length_map]; omega, by rw [List.length_map]; exact h1⟩
    obtain ⟨x, hx, rfl⟩ := List.mem_map.1 hy
    refine und_inv hs (hi x hx) ?_
    have : ¬ (undL s x).f4 > 8192 := fun q => h (by unfold ovr; rw [List.any_eq_true]; exact ⟨x, hx, decide_eq_true q⟩)
    omega
theorem finL_good {s : S43} (hs : isOp s) {out : List S63} (hi : ∀ x, x ∈ out → Inv x) (h1 : 1 ≤ out.length) : GoodL (finL s out) := by
  unfold finL
  by_cases h : s.f0 = 7 ∧ (out.length : Int) * s.f2 > 64
  · rw [if_pos h]; intro q; cases q
  rw [if_neg h]
  have r1 : (rev4 s out).length = out.length := by unfold rev4; split <;> simp
  have r2 : ∀ x, x ∈ rev4 s out → x ∈ out := by unfold rev4; intro x hx; split at hx <;> simpa using hx
  refine endL_good hs (fun x hx => ?_) ?_
  · unfold rep7 at hx
    split at hx
    · exact hi x (r2 x (repL_mem hx))
    · exact hi x (r2 x hx)
  · unfold rep7
    by_cases h7 : s.f0 = 7
    · have hr := hs.2.2.2.1.2.1 (.inr h7)
      rw [if_pos h7, repL_len, r1]
      have : 1 * 1 ≤ s.f2.toNat * out.length := Nat.mul_le_mul (by omega) h1
      omega
    · rw [if_neg h7, r1]; exact h1
theorem Fo.lvs_good : ∀ f : Fo, f.ok → f.nds → ∀ v, v ∈ f.lvs → GoodL v
  | .nil, _, _, v, hv => by simp only [Fo.lvs] at hv; cases hv
  | .cons s k r, ho, hn, v, hv => by
    obtain ⟨h3, hk, hr⟩ := ho
    obtain ⟨hs, hkn, hrn⟩ := Fo.nds_cons hn
    rcases List.mem_cons.1 hv with rfl | h
    · unfold nodeL
      rcases ndE_iff.1 hs with h1 | h1
      · rw [if_pos h1.1]
        intro _
        refine ⟨fun x hx => ?_, by simp, by simp⟩
        rw [List.mem_singleton.1 hx]
        exact ⟨h1.2.1, Int.le_refl _, (by decide : (0 : Int) ≤ 3), Int.le_refl _, (by decide : (1 : Int) ≤ 8192), Smooth.one⟩
      · rw [if_neg (fun q => by have := h1.1; omega)]
        by_cases ha : k.lvs.all (·.2) = true
        · rw [if_pos ha]
          obtain ⟨g1, g2, g3⟩ := catL_good (Fo.lvs_good k hk hkn) ha
          have hc := Fo.lvs_length k
          have := h1.2.2.2.2.1
          exact finL_good h1 g1 (by omega)
        · rw [if_neg ha]; intro q; cases q
    · exact Fo.lvs_good r hr hrn v h
abbrev PL (t : List S43) (v : List S63 × Bool) : Prop := Ev (fun n => lang_leaves.f n t) v
theorem pl_loop {s : S43} (hs : isOp s) {L : List (List S43)} (hL : L.length ≤ 100) : ∀ (l : List (List S43)) (vs : List (List S63 × Bool)), All2 PL l vs → (∀ v, v ∈ vs → GoodL v) → ∀ (acc : List S63) (i : Nat), L.drop i = l → i + l.length = L.length → acc.length ≤ 64 * i → (∀ x, x ∈ acc → Inv x) →
    Ev (fun k => lang_leaves.l0 k acc L (L.length : Int) (i : Int) s.f0 s.f1 s.f2 s.f3) (if vs.all (·.2) = true then finL s (acc ++ catL vs) else ([], false))
  | [], [], _, _, acc, i, hd, hi, ha, hx => by
    simp only [List.length_nil, Nat.add_zero] at hi
    rw [hi, if_pos (by simp), show acc ++ catL [] = acc by simp [catL]]
    exact fin_ev hs (by omega) (by omega) hx
  | t :: l, v :: vs, h, hg, acc, i, hd, hi, ha, hx => by
    obtain ⟨hp, h1, h2⟩ := rdL3_drop hd
    refine ev_step (fun k => by simp only [lang_leaves.l0] <;> exact rfl) (ev_pos (by omega) (ev_pos (by omega) (ev_pos (by omega) ?_)))
    rw [h1]
    refine Ev.bind h.1 ?_
    by_cases hb : v.2 = true
    · obtain ⟨g1, g2, g3⟩ := hg v (by simp) hb
      refine ev_pos hb (ev_pos (by omega) ?_)
      rw [w64 (by omega) (by omega), show (i : Int) + 1 = ((i + 1 : Nat) : Int) by omega]
      have := pl_loop hs hL l vs h.2 (fun w hw => hg w (by simp [hw])) (acc ++ v.1) (i + 1) h2 (by simp only [List.length_cons] at hi; omega) (by rw [List.length_append]; omega) (fun x hx' => by rcases List.mem_append.1 hx' with q | q; exact hx x q; exact g1 x q)
      refine ev_eq this ?_
      have e1 : (v :: vs).all (·.2) = vs.all (·.2) := by simp [hb]
      have e2 : acc ++ catL (v :: vs) = acc ++ v.1 ++ catL vs := by simp [catL]
      rw [e1, e2]
    · exact ev_neg hb (ev_eq (ev_now _) (by rw [if_neg (by simp [hb])]))
theorem pl_node {s : S43} {k : Fo} (hk : k.ok) (h3 : s.f3 = (k.count : Int)) (hs : ndE s = 0) (hkn : k.nds) (hl : k.flat.length < 100) (ih : All2 PL k.trees k.lvs) : PL (s :: k.flat) (nodeL s k.lvs) := by
  have hrd : rd_T43 (s :: k.flat) 0 = s := rfl
  refine ev_step (fun k => by simp only [lang_leaves.f] <;> exact rfl) (ev_pos (by simp only [List.length_cons]; omega) ?_)
  rw [hrd]
  unfold nodeL
  by_cases h : s.f0 = 1
  · rw [if_pos h]; exact ev_pos h (ev_now _)
  rw [if_neg h]
  have hop : isOp s := (ndE_iff.1 hs).resolve_left (fun q => h q.1)
  refine ev_neg h (Ev.bind (parg_ev s k hk h3 (by omega)) ?_)
  have hc := Fo.count_le k
  have htl := Fo.trees_length k
  exact pl_loop hop (by omega) k.trees k.lvs ih (Fo.lvs_good k hk hkn) [] 0 rfl (by omega) (by simp) (fun x hx => by cases hx)
theorem pl_all : ∀ f : Fo, f.ok → f.nds → f.flat.length < 100 → All2 PL f.trees f.lvs
  | .nil, _, _, _ => trivial
  | .cons s k r, ho, hn, hl => by
    obtain ⟨h3, hk, hr⟩ := ho
    obtain ⟨hs, hkn, hrn⟩ := Fo.nds_cons hn
    simp only [Fo.flat, List.length_cons, List.length_append] at hl
    exact ⟨pl_node hk h3 hs hkn (by omega) (pl_all k hk hkn (by omega)), pl_all r hr hrn (by omega)⟩
theorem leaves_ev {s : S43} {k : Fo} (hk : k.ok) (h3 : s.f3 = (k.count : Int)) (hs : ndE s = 0) (hkn : k.nds) (hl : k.flat.length < 100) : Ev (fun n => lang_leaves.f n (s :: k.flat)) (nodeL s k.lvs) ∧ GoodL (nodeL s k.lvs) := by
  refine ⟨pl_node hk h3 hs hkn hl (pl_all k hk hkn hl), ?_⟩
  have hn : (Fo.cons s k .nil).nds := fun t ht => by
    simp only [Fo.flat, List.append_nil, List.mem_cons] at ht
    rcases ht with rfl | h
    · exact hs
    · exact hkn t h
  exact Fo.lvs_good (.cons s k .nil) ⟨h3, hk, trivial⟩ hn _ (by simp only [Fo.lvs, List.mem_cons, true_or])
end Go.Proofs.YtimikhbnihedkaaDoor.PAll
