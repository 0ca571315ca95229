/- Texts of the proof, laid end to end. -/
import Derived.Test.YtimikhbnihedkaaDoorZMC3
import Derived.Test.YtimikhbnihedkaaDoorZPAllf55
import Derived.Test.YtimikhbnihedkaaDoorZLngTreeEv
import Derived.Test.YtimikhbnihedkaaDoorZLngSame
import Derived.Test.YtimikhbnihedkaaDoorZPAllf43
import Derived.Test.YtimikhbnihedkaaDoorZPAllf23
import Derived.Test.YtimikhbnihedkaaDoorZPAllf5
/- The reference's 'arguments' gives the trees of a list. -/
namespace Go.Proofs.YtimikhbnihedkaaDoor.PAll
set_option linter.unusedVariables false
set_option linter.unusedSectionVars false
set_option linter.unusedSimpArgs false
open Go Go.RowKit Go.Proofs.YtimikhbnihedkaaDoorW.PrintWords Go.Proofs.YtimikhbnihedkaaDoorW.PrintLast Go.Proofs.YtimikhbnihedkaaDoorW.PrintMore Go.Proofs.YtimikhbnihedkaaDoor.MathNum Go.Proofs.YtimikhbnihedkaaDoor.EvWords

theorem szT_forest : ∀ (f : Fo), f.ok → ∀ (x : Nat) (rest : List S43) (i : Nat),
    (1 ≤ x → szT ((x + f.count : Nat) : Int) (f.flat ++ rest) i = szT (x : Int) rest (i + f.flat.length)) ∧
    (1 ≤ f.count → szT (f.count : Int) (f.flat ++ rest) i = (i : Int) + f.flat.length)
 | .nil, _, x, rest, i => ⟨fun _ => rfl, fun h => by simp only [Fo.count] at h; omega⟩
 | .cons s k r, ho, x, rest, i => by
  obtain ⟨h3, hk, hr⟩ := ho
  have main : ∀ y : Nat, szT ((y + (r.count + 1) : Nat) : Int) (s :: (k.flat ++ (r.flat ++ rest))) i = if y + r.count + k.count = 0 then (i : Int) + 1 else szT ((y + r.count + k.count : Nat) : Int) (k.flat ++ (r.flat ++ rest)) (i + 1) := by
    intro y
    have e : ((y + (r.count + 1) : Nat) : Int) - 1 + s.f3 = ((y + r.count + k.count : Nat) : Int) := by omega
    simp only [szT, e]
    by_cases h : y + r.count + k.count = 0
    · rw [if_pos h, if_pos (by omega)]
    · rw [if_neg h, if_neg (by omega)]
  have low : ∀ y : Nat, 1 ≤ y + r.count → szT ((y + (r.count + 1) : Nat) : Int) (s :: (k.flat ++ (r.flat ++ rest))) i = szT ((y + r.count : Nat) : Int) (r.flat ++ rest) (i + 1 + k.flat.length) := by
    intro y hy
    rw [main y, if_neg (by omega)]
    exact (szT_forest k hk (y + r.count) (r.flat ++ rest) (i + 1)).1 hy
  constructor
  · intro hx
    simp only [Fo.flat, Fo.count, List.cons_append, List.append_assoc, List.length_cons, List.length_append]
    rw [low x (by omega), (szT_forest r hr x rest _).1 hx]
    congr 1; omega
  · intro _
    simp only [Fo.flat, Fo.count, List.cons_append, List.append_assoc, List.length_cons, List.length_append]
    have z : ((r.count + 1 : Nat) : Int) = ((0 + (r.count + 1) : Nat) : Int) := by omega
    rw [z]
    by_cases hrc : 1 ≤ r.count
    · rw [low 0 (by omega), show ((0 + r.count : Nat) : Int) = (r.count : Int) by omega, (szT_forest r hr 0 rest _).2 hrc]; omega
    · have hrn : r = .nil := by cases r with | nil => rfl | cons _ _ _ => simp only [Fo.count] at hrc; omega
      subst hrn
      rw [main 0]
      by_cases hkc : 1 ≤ k.count
      · rw [if_neg (by simp only [Fo.count]; omega), show ((0 + Fo.nil.count + k.count : Nat) : Int) = (k.count : Int) by simp only [Fo.count]; omega, (szT_forest k hk 0 _ _).2 hkc]
        simp only [Fo.flat, List.length_nil]; omega
      · have hkn : k = .nil := by cases k with | nil => rfl | cons _ _ _ => simp only [Fo.count] at hkc; omega
        subst hkn
        rw [if_pos (by simp only [Fo.count])]
        simp only [Fo.flat, List.length_nil]; omega
theorem rsize_ev (f : Fo) (hf : f.ok) (h1 : f.count = 1) (rest : List S43) (hr : ∀ s, s ∈ rest → 0 ≤ s.f3 ∧ s.f3 ≤ 8) (hf8 : ∀ s, s ∈ f.flat → 0 ≤ s.f3 ∧ s.f3 ≤ 8) (hl : (f.flat ++ rest).length ≤ 64) :
    Ev (fun n => dancestudioref35_Size.f n (f.flat ++ rest)) (f.flat.length : Int) := by
  have e := rsize (f.flat ++ rest) hl (fun i hi => by
    rw [rd43 _ hi]
    have hm := List.getElem_mem hi
    rcases List.mem_append.1 hm with h | h
    · exact hf8 _ h
    · exact hr _ h) (f.flat ++ rest).length 0 1 (by omega) (by omega) (by omega)
  refine ev_eq (show Ev (fun n => dancestudioref35_Size.f n (f.flat ++ rest)) (szT 1 ((f.flat ++ rest).drop 0) 0) from e) ?_
  have := (szT_forest f hf 0 rest 0).2 (by omega)
  rw [h1] at this
  rw [List.drop_zero]
  have h : szT 1 (f.flat ++ rest) 0 = ((0 : Nat) : Int) + f.flat.length := this
  rw [h]; omega
theorem rarg_l0 : ∀ (f : Fo), f.ok → (∀ s, s ∈ f.flat → 0 ≤ s.f3 ∧ s.f3 ≤ 8) → f.flat.length ≤ 64 → ∀ (acc : List (List S43)), acc.length + f.count ≤ 1000 →
    Ev (fun n => dancestudioref35_arguments.l0 n f.flat acc) (acc ++ f.trees)
 | .nil, _, _, _, acc, _ => by
  simp only [Fo.trees, Fo.flat, List.append_nil]
  exact ev_step (fun k => by simp only [dancestudioref35_arguments.l0] <;> exact rfl) (ev_neg (by simp) (ev_now _))
 | .cons s k r, ho, h8, hl, acc, ha => by
  obtain ⟨h3, hk, hr⟩ := ho
  have hf : (Fo.cons s k r).flat = (Fo.cons s k .nil).flat ++ r.flat := by simp only [Fo.flat, List.append_nil, List.cons_append]
  have hs := rsize_ev (.cons s k .nil) ⟨h3, hk, trivial⟩ rfl r.flat (fun t ht => h8 t (by rw [hf]; exact List.mem_append_right _ ht)) (fun t ht => h8 t (by rw [hf]; exact List.mem_append_left _ ht)) (by rw [← hf]; exact hl)
  rw [hf] at hl ⊢
  rw [List.length_append] at hl
  simp only [Fo.count] at ha
  have hl1 : 1 ≤ (Fo.cons s k .nil).flat.length := by simp only [Fo.flat, List.length_cons]; omega
  have hla : (((Fo.cons s k .nil).flat ++ r.flat).length : Int) = (Fo.cons s k .nil).flat.length + r.flat.length := by rw [List.length_append]; omega
  refine ev_step (fun k => by simp only [dancestudioref35_arguments.l0] <;> exact rfl) (ev_pos (by rw [hla]; omega) ?_)
  refine Ev.bind hs (ev_pos (by omega) (ev_pos (by rw [hla]; omega) (ev_pos (by omega) ?_)))
  rw [Int.toNat_natCast, List.drop_left, List.take_left]
  have e := rarg_l0 r hr (fun t ht => h8 t (by rw [hf]; exact List.mem_append_right _ ht)) (by omega) (acc ++ [(Fo.cons s k .nil).flat]) (by rw [List.length_append, List.length_singleton]; omega)
  simp only [Fo.trees]
  rw [List.append_assoc] at e
  simp only [Fo.flat, List.append_nil, List.singleton_append] at e ⊢
  exact e
/-- The reference's arguments: the trees of a list. -/
theorem rarg_ev (f : Fo) (hf : f.ok) (h8 : ∀ s, s ∈ f.flat → 0 ≤ s.f3 ∧ s.f3 ≤ 8) (hl : f.flat.length ≤ 64) : Ev (fun n => dancestudioref35_arguments.f n f.flat) f.trees :=
  rarg_l0 f hf h8 hl [] (by have := Fo.count_le f; simp only [List.length_nil]; omega)

/-- Products of factors of nodes. -/
inductive Smooth : Nat → Prop
  | one : Smooth 1
  | mul {a n : Nat} : Smooth a → 1 ≤ n → n ≤ 16 → Smooth (a * n)
def undL (s : S43) (x : S63) : S63 :=
  if s.f0 = 3 then ⟨x.f0, (4 - x.f1) % 4, !x.f2, x.f3, x.f4⟩ else if s.f0 = 4 then ⟨x.f0, x.f1, x.f2, !x.f3, x.f4⟩ else if s.f0 = 5 then ⟨x.f0, (x.f1 + s.f2) % 4, x.f2, x.f3, x.f4⟩ else if s.f0 = 6 then ⟨x.f0, x.f1, x.f2, x.f3, x.f4 * s.f2⟩ else x
def Inv (x : S63) : Prop := nameB x.f0 = true ∧ 0 ≤ x.f1 ∧ x.f1 ≤ 3 ∧ 1 ≤ x.f4 ∧ x.f4 ≤ 8192 ∧ Smooth x.f4.toNat
theorem und_inv {s : S43} {x : S63} (hs : isOp s) (hx : Inv x) (h : (undL s x).f4 ≤ 8192) : Inv (undL s x) := by
  obtain ⟨a1, a2, a3, a4, a5, a6⟩ := hx
  unfold undL at h ⊢
  by_cases h3 : s.f0 = 3
  · rw [if_pos h3]; exact ⟨a1, by show 0 ≤ (4 - x.f1) % 4; omega, by show (4 - x.f1) % 4 ≤ 3; omega, a4, a5, a6⟩
  rw [if_neg h3] at h ⊢
  by_cases h4 : s.f0 = 4
  · rw [if_pos h4]; exact ⟨a1, a2, a3, a4, a5, a6⟩
  rw [if_neg h4] at h ⊢
  by_cases h5 : s.f0 = 5
  · rw [if_pos h5]; exact ⟨a1, by show 0 ≤ (x.f1 + s.f2) % 4; omega, by show (x.f1 + s.f2) % 4 ≤ 3; omega, a4, a5, a6⟩
  rw [if_neg h5] at h ⊢
  by_cases h6 : s.f0 = 6
  · rw [if_pos h6] at h ⊢
    have hr := hs.2.2.2.1.2.1 (.inl h6)
    have h1 : 1 * 1 ≤ x.f4 * s.f2 := Int.mul_le_mul a4 hr.1 (by decide) (by omega)
    refine ⟨a1, a2, a3, by show 1 ≤ x.f4 * s.f2; omega, h, ?_⟩
    show Smooth (x.f4 * s.f2).toNat
    rw [Int.toNat_mul (by omega) (by omega)]
    exact Smooth.mul a6 (by omega) (by omega)
  · rw [if_neg h6] at h ⊢; exact ⟨a1, a2, a3, a4, a5, a6⟩
theorem und_ev {s : S43} {x : S63} (hs : isOp s) (hx : Inv x) : lang_leaf_under.f x.f0 x.f1 x.f2 x.f3 x.f4 s.f0 s.f1 s.f2 s.f3 = some ((undL s x).f0, (undL s x).f1, (undL s x).f2, (undL s x).f3, (undL s x).f4) := by
  obtain ⟨a1, a2, a3, a4, a5, a6⟩ := hx
  unfold lang_leaf_under.f undL
  by_cases h3 : s.f0 = 3
  · rw [if_pos h3, if_pos h3, w64 (by omega) (by omega), Int.tmod_eq_emod_of_nonneg (by omega)]
  rw [if_neg h3, if_neg h3]
  by_cases h4 : s.f0 = 4
  · rw [if_pos h4, if_pos h4]
  rw [if_neg h4, if_neg h4]
  by_cases h5 : s.f0 = 5
  · have hr := hs.2.2.2.1.1 h5
    rw [if_pos h5, if_pos h5, w64 (by omega) (by omega), Int.tmod_eq_emod_of_nonneg (by omega)]
  rw [if_neg h5, if_neg h5]
  by_cases h6 : s.f0 = 6
  · have hr := hs.2.2.2.1.2.1 (.inl h6)
    have := mul_range (a := x.f4) (b := s.f2) (A := 8192) (B := 16) (by omega) (by omega) (by omega) (by omega)
    rw [if_pos h6, if_pos h6, w64 (by omega) (by omega)]
  · rw [if_neg h6, if_neg h6]
theorem rd63 (l : List S63) {i : Nat} (h : i < l.length) : rd_T63 l (i : Int) = l[i] := by
  unfold rd_T63; rw [Int.toNat_natCast, List.getD_eq_getElem?_getD, List.getElem?_eq_getElem h]; rfl
theorem rd63_mid {A B : List S63} {x : S63} {i : Nat} (h : i = A.length) : rd_T63 (A ++ x :: B) (i : Int) = x := by
  subst h
  rw [rd63 _ (by simp)]
  simp
theorem set_mid {A B : List S63} {x y : S63} {i : Nat} (h : i = A.length) : (A ++ x :: B).set i y = A ++ y :: B := by
  subst h
  simp
theorem ends {α : Type} (l : List α) (h : 2 ≤ l.length) : ∃ a m b, l = a :: (m ++ [b]) := by
  cases l with
  | nil => simp at h
  | cons a t =>
    have ht : t ≠ [] := fun q => by subst q; simp at h
    exact ⟨a, t.dropLast, t.getLast ht, by rw [List.dropLast_concat_getLast]⟩
theorem rev_l0 (n : Nat) : ∀ (mid A B : List S63) (i : Nat) (j : Int), mid.length ≤ n → A.length = i → j = (i : Int) + mid.length - 1 → (A ++ mid ++ B).length ≤ 100000 → Ev (fun k => lang_leaf.l0 k (A ++ mid ++ B) (i : Int) j) (A ++ mid.reverse ++ B) := by
  induction n with
  | zero =>
    intro mid A B i j hm hA hj hl
    have : mid = [] := List.length_eq_zero_iff.1 (by omega)
    subst this
    simp only [List.length_nil] at hj
    exact ev_step (fun k => by simp only [lang_leaf.l0] <;> exact rfl) (ev_neg (by omega) (ev_now _))
  | succ n ih =>
    intro mid A B i j hm hA hj hl
    by_cases h2 : 2 ≤ mid.length
    · obtain ⟨a, m, b, rfl⟩ := ends mid h2
      have hml : (a :: (m ++ [b])).length = m.length + 2 := by simp
      rw [hml] at hm hj
      have hlen : (A ++ a :: (m ++ [b]) ++ B).length = A.length + m.length + 2 + B.length := by simp; omega
      rw [hlen] at hl
      have e1 : A ++ a :: (m ++ [b]) ++ B = A ++ a :: (m ++ b :: B) := by simp
      have e2 : A ++ a :: (m ++ b :: B) = (A ++ a :: m) ++ b :: B := by simp
      have hj' : j = ((i + m.length + 1 : Nat) : Int) := by omega
      subst hj'
      have ra : rd_T63 (A ++ a :: (m ++ [b]) ++ B) (i : Int) = a := by rw [e1]; exact rd63_mid hA.symm
      have rb : rd_T63 (A ++ a :: (m ++ [b]) ++ B) ((i + m.length + 1 : Nat) : Int) = b := by rw [e1, e2]; exact rd63_mid (by simp; omega)
      refine ev_step (fun k => by simp only [lang_leaf.l0] <;> exact rfl) (ev_pos (by omega) (ev_pos (by omega) (ev_pos (by rw [hlen]; omega) (ev_pos (by omega) (ev_pos (by rw [hlen]; omega) ?_)))))
      rw [ra, rb, Int.toNat_natCast, Int.toNat_natCast, w64 (by omega) (by omega), w64 (by omega) (by omega), e1]
      have s1 : (A ++ a :: (m ++ b :: B)).set i b = (A ++ b :: m) ++ b :: B := by rw [set_mid hA.symm]; simp
      have s2 : ((A ++ b :: m) ++ b :: B).set (i + m.length + 1) a = (A ++ [b]) ++ m ++ (a :: B) := by rw [set_mid (by simp; omega)]; simp
      have e3 : (⟨b.f0, b.f1, b.f2, b.f3, b.f4⟩ : S63) = b := rfl
      have e4 : (⟨a.f0, a.f1, a.f2, a.f3, a.f4⟩ : S63) = a := rfl
      rw [e3, e4, s1, s2, show (i : Int) + 1 = ((i + 1 : Nat) : Int) by omega]
      refine ev_eq (ih m (A ++ [b]) (a :: B) (i + 1) _ (by omega) (by simp; omega) (by omega) (by simp; omega)) ?_
      simp
    · have hr : mid.reverse = mid := by
        match mid, h2 with
        | [], _ => rfl
        | [a], _ => rfl
        | a :: b :: m, h => exact absurd (by simp) h
      rw [hr]
      exact ev_step (fun k => by simp only [lang_leaf.l0] <;> exact rfl) (ev_neg (by omega) (ev_now _))
theorem rev_ev (l : List S63) (h : l.length ≤ 100000) : Ev (fun k => lang_leaf.f k l) l.reverse := by
  unfold lang_leaf.f
  rw [w64 (by omega) (by omega)]
  have := rev_l0 l.length l [] [] 0 ((l.length : Int) - 1) (Nat.le_refl _) rfl (by omega) (by simp; omega)
  simp only [List.nil_append, List.append_nil] at this
  exact this
def ovr (s : S43) (l : List S63) : Bool := l.any (fun x => decide ((undL s x).f4 > 8192))
def repL : Nat → List S63 → List S63
  | 0, _ => []
  | n + 1, l => l ++ repL n l
theorem repL_len : ∀ (n : Nat) (l : List S63), (repL n l).length = n * l.length
  | 0, l => by simp [repL]
  | n + 1, l => by rw [repL, List.length_append, repL_len n l, Nat.succ_mul]; omega
theorem repL_mem {n : Nat} {l : List S63} {x : S63} (h : x ∈ repL n l) : x ∈ l := by
  induction n with
  | zero => simp [repL] at h
  | succ n ih => rcases List.mem_append.1 h with h | h; exact h; exact ih h
def rev4 (s : S43) (out : List S63) : List S63 := if s.f0 = 4 then out.reverse else out
def rep7 (s : S43) (out : List S63) : List S63 := if s.f0 = 7 then repL s.f2.toNat out else out
def endL (s : S43) (o : List S63) : List S63 × Bool := if ovr s o = true then ([], false) else (o.map (undL s), decide ((o.length : Int) ≤ 64))
def finL (s : S43) (out : List S63) : List S63 × Bool := if s.f0 = 7 ∧ (out.length : Int) * s.f2 > 64 then ([], false) else endL s (rep7 s (rev4 s out))
section
variable {s : S43} (hs : isOp s)
include hs
theorem l2_ev (n : Nat) (hn : n ≤ 100000) : ∀ (rest pre : List S63), (pre ++ rest).length = n → (∀ x, x ∈ rest → Inv x) →
    Ev (fun k => lang_leaves.l2 k (pre ++ rest) (n : Int) (pre.length : Int) s.f0 s.f1 s.f2 s.f3) (if ovr s rest = true then ([], false) else (pre ++ rest.map (undL s), decide ((n : Int) ≤ 64)))
  | [], pre, hl, _ => by
    rw [List.append_nil] at hl ⊢
    exact ev_step (fun k => by simp only [lang_leaves.l2] <;> exact rfl) (ev_neg (by omega) (ev_eq (ev_now _) (by rw [if_neg (by simp [ovr]), hl]; simp)))
  | x :: rest, pre, hl, hi => by
    have hll : (pre ++ x :: rest).length = pre.length + rest.length + 1 := by simp; omega
    rw [hll] at hl
    have hx := hi x (by simp)
    refine ev_step (fun k => by simp only [lang_leaves.l2] <;> exact rfl) (ev_pos (by omega) (ev_pos (by omega) (ev_pos (by rw [hll]; omega) ?_)))
    rw [rd63_mid rfl, und_ev hs hx, Int.toNat_natCast, w64 (by omega) (by omega)]
    simp only [Option.bind_some]
    have hset : (pre ++ x :: rest).set pre.length (⟨(undL s x).f0, (undL s x).f1, (undL s x).f2, (undL s x).f3, (undL s x).f4⟩ : S63) = pre ++ undL s x :: rest := set_mid rfl
    rw [hset]
    by_cases h : (undL s x).f4 > 8192
    · exact ev_pos h (ev_eq (ev_now _) (by rw [if_pos (by simp [ovr, h])]))
    · refine ev_neg h ?_
      have := l2_ev n hn rest (pre ++ [undL s x]) (by simp; omega) (fun y hy => hi y (by simp [hy]))
      rw [List.length_append, List.length_singleton, List.append_assoc] at this
      refine ev_eq this ?_
      have : ovr s (x :: rest) = ovr s rest := by simp [ovr, h]
      rw [this]; simp
theorem j3_ev {o : List S63} (hn : o.length ≤ 100000) (hi : ∀ x, x ∈ o → Inv x) : Ev (fun k => lang_leaves.j3 k o s.f0 s.f1 s.f2 s.f3) (endL s o) :=
  ev_step (fun k => by simp only [lang_leaves.j3] <;> exact rfl) (ev_eq (l2_ev hs o.length hn o [] rfl hi) (by unfold endL; rw [List.nil_append]))
theorem l1_ev {x10 : List S63} {v : List S63 × Bool} (n : Nat) (hn : n ≤ 100) : ∀ (d i : Nat) (acc : List S63), i + d = n → acc.length + d * x10.length ≤ 100000 → Ev (fun k => lang_leaves.j3 k (acc ++ repL d x10) s.f0 s.f1 s.f2 s.f3) v →
    Ev (fun k => lang_leaves.l1 k acc x10 (n : Int) (i : Int) s.f0 s.f1 s.f2 s.f3) v
  | 0, i, acc, hi, hl, e => by
    rw [repL, List.append_nil] at e
    exact ev_step (fun k => by simp only [lang_leaves.l1] <;> exact rfl) (ev_neg (by omega) e)
  | d + 1, i, acc, hi, hl, e => by
    rw [Nat.succ_mul] at hl
    refine ev_step (fun k => by simp only [lang_leaves.l1] <;> exact rfl) (ev_pos (by omega) (ev_pos (by omega) ?_))
    rw [w64 (by omega) (by omega), show (i : Int) + 1 = ((i + 1 : Nat) : Int) by omega]
    refine l1_ev n hn d (i + 1) (acc ++ x10) (by omega) (by rw [List.length_append]; omega) ?_
    rw [List.append_assoc]; exact e
theorem j1_ev {o : List S63} (hn : o.length ≤ 10000) (hi : ∀ x, x ∈ o → Inv x) : Ev (fun k => lang_leaves.j1 k o s.f0 s.f1 s.f2 s.f3) (if s.f0 = 7 ∧ (o.length : Int) * s.f2 > 64 then ([], false) else endL s (rep7 s o)) := by
  refine ev_step (fun k => by simp only [lang_leaves.j1] <;> exact rfl) ?_
  by_cases h7 : s.f0 = 7
  · have hr := hs.2.2.2.1.2.1 (.inr h7)
    refine ev_pos h7 ?_
    have := mul_range (a := (o.length : Int)) (b := s.f2) (A := 10000) (B := 16) (by omega) (by omega) (by omega) (by omega)
    rw [w64 (n := (o.length : Int) * s.f2) (by omega) (by omega)]
    refine ev_ite (fun h => ev_eq (ev_now _) (by rw [if_pos ⟨h7, h⟩])) (fun h => ?_)
    rw [if_neg (fun q => h q.2), w64 (by omega) (by omega)]
    refine ev_pos (by simp; omega) ?_
    rw [List.nil_append]
    obtain ⟨m, hm⟩ : ∃ m : Nat, s.f2 = (m : Int) + 1 := ⟨(s.f2 - 1).toNat, by omega⟩
    have e1 : s.f2 - 1 = (m : Int) := by omega
    have e2 : s.f2.toNat = m + 1 := by omega
    unfold rep7
    rw [if_pos h7, e1, e2]
    have hml : m * o.length ≤ 64 := by
      have : ((m * o.length : Nat) : Int) ≤ 64 := by
        have h' : (o.length : Int) * s.f2 ≤ 64 := by omega
        rw [hm, Int.mul_add, Int.mul_one, Int.mul_comm] at h'
        rw [Int.natCast_mul]; omega
      omega
    refine l1_ev hs m (by omega) m 0 o (by omega) (by omega) ?_
    exact j3_ev hs (by rw [List.length_append, repL_len]; omega) (fun x hx => hi x (by rcases List.mem_append.1 hx with q | q; exact q; exact repL_mem q))
  · refine ev_neg h7 ?_
    unfold rep7
    rw [if_neg (fun q => h7 q.1), if_neg h7]
    exact j3_ev hs (by omega) hi
theorem fin_ev {out : List S63} {L : List (List S43)} (hL : L.length ≤ 1000) (hn : out.length ≤ 10000) (hi : ∀ x, x ∈ out → Inv x) : Ev (fun k => lang_leaves.l0 k out L (L.length : Int) (L.length : Int) s.f0 s.f1 s.f2 s.f3) (finL s out) := by
  refine ev_step (fun k => by simp only [lang_leaves.l0] <;> exact rfl) (ev_neg (by omega) ?_)
  unfold finL rev4
  by_cases h4 : s.f0 = 4
  · have := j1_ev hs (o := out.reverse) (by simp; omega) (fun x hx => hi x (by simpa using hx))
    rw [List.length_reverse] at this
    rw [if_pos h4]
    exact ev_pos h4 (Ev.bind (rev_ev out (by omega)) this)
  · rw [if_neg h4]
    exact ev_neg h4 (j1_ev hs hn hi)
end
def catL (vs : List (List S63 × Bool)) : List S63 := (vs.map (·.1)).flatten
def nodeL (s : S43) (cs : List (List S63 × Bool)) : List S63 × Bool := if s.f0 = 1 then ([⟨s.f1, 0, false, false, 1⟩], true) else if cs.all (·.2) = true then finL s (catL cs) else ([], false)
def Fo.lvs : Fo → List (List S63 × Bool)
  | .nil => []
  | .cons s k r => nodeL s k.lvs :: r.lvs
theorem Fo.lvs_length : ∀ f : Fo, f.lvs.length = f.count
  | .nil => rfl
  | .cons s k r => by simp only [Fo.lvs, Fo.count, List.length_cons, Fo.lvs_length r]
/-- Leaves that are right. -/
def GoodL (v : List S63 × Bool) : Prop := v.2 = true → (∀ x, x ∈ v.1 → Inv x) ∧ v.1.length ≤ 64 ∧ 1 ≤ v.1.length
theorem catL_good : ∀ {vs : List (List S63 × Bool)}, (∀ v, v ∈ vs → GoodL v) → vs.all (·.2) = true → (∀ x, x ∈ catL vs → Inv x) ∧ (catL vs).length ≤ 64 * vs.length ∧ vs.length ≤ (catL vs).length
  | [], _, _ => ⟨fun x hx => by simp [catL] at hx, by simp [catL], by simp [catL]⟩
  | v :: vs, h, ha => by
    simp only [List.all_cons, Bool.and_eq_true] at ha
    obtain ⟨g1, g2, g3⟩ := h v (by simp) ha.1
    obtain ⟨i1, i2, i3⟩ := catL_good (fun w hw => h w (by simp [hw])) ha.2
    have e : catL (v :: vs) = v.1 ++ catL vs := by simp [catL]
    rw [e, List.length_append, List.length_cons]
    refine ⟨fun x hx => ?_, by omega, by omega⟩
    rcases List.mem_append.1 hx with q | q
    · exact g1 x q
    · exact i1 x q
theorem endL_good {s : S43} (hs : isOp s) {o : List S63} (hi : ∀ x, x ∈ o → Inv x) (h1 : 1 ≤ o.length) : GoodL (endL s o) := by
  unfold endL GoodL
  by_cases h : ovr s o = true
  · rw [if_pos h]; intro q; cases q
  · rw [if_neg h]
    intro q
    have q' := of_decide_eq_true q
    refine ⟨fun y hy => ?_, by rw [List.length_map]; omega, by rw [List.length_map]; exact h1⟩
    obtain ⟨x, hx, rfl⟩ := List.mem_map.1 hy
    refine und_inv hs (hi x hx) ?_
    have : ¬ (undL s x).f4 > 8192 := fun q => h (by unfold ovr; rw [List.any_eq_true]; exact ⟨x, hx, decide_eq_true q⟩)
    omega
theorem finL_good {s : S43} (hs : isOp s) {out : List S63} (hi : ∀ x, x ∈ out → Inv x) (h1 : 1 ≤ out.length) : GoodL (finL s out) := by
  unfold finL
  by_cases h : s.f0 = 7 ∧ (out.length : Int) * s.f2 > 64
  · rw [if_pos h]; intro q; cases q
  rw [if_neg h]
  have r1 : (rev4 s out).length = out.length := by unfold rev4; split <;> simp
  have r2 : ∀ x, x ∈ rev4 s out → x ∈ out := by unfold rev4; intro x hx; split at hx <;> simpa using hx
  refine endL_good hs (fun x hx => ?_) ?_
  · unfold rep7 at hx
    split at hx
    · exact hi x (r2 x (repL_mem hx))
    · exact hi x (r2 x hx)
  · unfold rep7
    by_cases h7 : s.f0 = 7
    · have hr := hs.2.2.2.1.2.1 (.inr h7)
      rw [if_pos h7, repL_len, r1]
      have : 1 * 1 ≤ s.f2.toNat * out.length := Nat.mul_le_mul (by omega) h1
      omega
    · rw [if_neg h7, r1]; exact h1
theorem Fo.lvs_good : ∀ f : Fo, f.ok → f.nds → ∀ v, v ∈ f.lvs → GoodL v
  | .nil, _, _, v, hv => by simp only [Fo.lvs] at hv; cases hv
  | .cons s k r, ho, hn, v, hv => by
    obtain ⟨h3, hk, hr⟩ := ho
    obtain ⟨hs, hkn, hrn⟩ := Fo.nds_cons hn
    rcases List.mem_cons.1 hv with rfl | h
    · unfold nodeL
      rcases ndE_iff.1 hs with h1 | h1
      · rw [if_pos h1.1]
        intro _
        refine ⟨fun x hx => ?_, by simp, by simp⟩
        rw [List.mem_singleton.1 hx]
        exact ⟨h1.2.1, Int.le_refl _, (by decide : (0 : Int) ≤ 3), Int.le_refl _, (by decide : (1 : Int) ≤ 8192), Smooth.one⟩
      · rw [if_neg (fun q => by have := h1.1; omega)]
        by_cases ha : k.lvs.all (·.2) = true
        · rw [if_pos ha]
          obtain ⟨g1, g2, g3⟩ := catL_good (Fo.lvs_good k hk hkn) ha
          have hc := Fo.lvs_length k
          have := h1.2.2.2.2.1
          exact finL_good h1 g1 (by omega)
        · rw [if_neg ha]; intro q; cases q
    · exact Fo.lvs_good r hr hrn v h
abbrev PL (t : List S43) (v : List S63 × Bool) : Prop := Ev (fun n => lang_leaves.f n t) v
theorem pl_loop {s : S43} (hs : isOp s) {L : List (List S43)} (hL : L.length ≤ 100) : ∀ (l : List (List S43)) (vs : List (List S63 × Bool)), All2 PL l vs → (∀ v, v ∈ vs → GoodL v) → ∀ (acc : List S63) (i : Nat), L.drop i = l → i + l.length = L.length → acc.length ≤ 64 * i → (∀ x, x ∈ acc → Inv x) →
    Ev (fun k => lang_leaves.l0 k acc L (L.length : Int) (i : Int) s.f0 s.f1 s.f2 s.f3) (if vs.all (·.2) = true then finL s (acc ++ catL vs) else ([], false))
  | [], [], _, _, acc, i, hd, hi, ha, hx => by
    simp only [List.length_nil, Nat.add_zero] at hi
    rw [hi, if_pos (by simp), show acc ++ catL [] = acc by simp [catL]]
    exact fin_ev hs (by omega) (by omega) hx
  | t :: l, v :: vs, h, hg, acc, i, hd, hi, ha, hx => by
    obtain ⟨hp, h1, h2⟩ := rdL3_drop hd
    refine ev_step (fun k => by simp only [lang_leaves.l0] <;> exact rfl) (ev_pos (by omega) (ev_pos (by omega) (ev_pos (by omega) ?_)))
    rw [h1]
    refine Ev.bind h.1 ?_
    by_cases hb : v.2 = true
    · obtain ⟨g1, g2, g3⟩ := hg v (by simp) hb
      refine ev_pos hb (ev_pos (by omega) ?_)
      rw [w64 (by omega) (by omega), show (i : Int) + 1 = ((i + 1 : Nat) : Int) by omega]
      have := pl_loop hs hL l vs h.2 (fun w hw => hg w (by simp [hw])) (acc ++ v.1) (i + 1) h2 (by simp only [List.length_cons] at hi; omega) (by rw [List.length_append]; omega) (fun x hx' => by rcases List.mem_append.1 hx' with q | q; exact hx x q; exact g1 x q)
      refine ev_eq this ?_
      have e1 : (v :: vs).all (·.2) = vs.all (·.2) := by simp [hb]
      have e2 : acc ++ catL (v :: vs) = acc ++ v.1 ++ catL vs := by simp [catL]
      rw [e1, e2]
    · exact ev_neg hb (ev_eq (ev_now _) (by rw [if_neg (by simp [hb])]))
theorem pl_node {s : S43} {k : Fo} (hk : k.ok) (h3 : s.f3 = (k.count : Int)) (hs : ndE s = 0) (hkn : k.nds) (hl : k.flat.length < 100) (ih : All2 PL k.trees k.lvs) : PL (s :: k.flat) (nodeL s k.lvs) := by
  have hrd : rd_T43 (s :: k.flat) 0 = s := rfl
  refine ev_step (fun k => by simp only [lang_leaves.f] <;> exact rfl) (ev_pos (by simp only [List.length_cons]; omega) ?_)
  rw [hrd]
  unfold nodeL
  by_cases h : s.f0 = 1
  · rw [if_pos h]; exact ev_pos h (ev_now _)
  rw [if_neg h]
  have hop : isOp s := (ndE_iff.1 hs).resolve_left (fun q => h q.1)
  refine ev_neg h (Ev.bind (parg_ev s k hk h3 (by omega)) ?_)
  have hc := Fo.count_le k
  have htl := Fo.trees_length k
  exact pl_loop hop (by omega) k.trees k.lvs ih (Fo.lvs_good k hk hkn) [] 0 rfl (by omega) (by simp) (fun x hx => by cases hx)
theorem pl_all : ∀ f : Fo, f.ok → f.nds → f.flat.length < 100 → All2 PL f.trees f.lvs
  | .nil, _, _, _ => trivial
  | .cons s k r, ho, hn, hl => by
    obtain ⟨h3, hk, hr⟩ := ho
    obtain ⟨hs, hkn, hrn⟩ := Fo.nds_cons hn
    simp only [Fo.flat, List.length_cons, List.length_append] at hl
    exact ⟨pl_node hk h3 hs hkn (by omega) (pl_all k hk hkn (by omega)), pl_all r hr hrn (by omega)⟩
theorem leaves_ev {s : S43} {k : Fo} (hk : k.ok) (h3 : s.f3 = (k.count : Int)) (hs : ndE s = 0) (hkn : k.nds) (hl : k.flat.length < 100) : Ev (fun n => lang_leaves.f n (s :: k.flat)) (nodeL s k.lvs) ∧ GoodL (nodeL s k.lvs) := by
  refine ⟨pl_node hk h3 hs hkn hl (pl_all k hk hkn hl), ?_⟩
  have hn : (Fo.cons s k .nil).nds := fun t ht => by
    simp only [Fo.flat, List.append_nil, List.mem_cons] at ht
    rcases ht with rfl | h
    · exact hs
    · exact hkn t h
  exact Fo.lvs_good (.cons s k .nil) ⟨h3, hk, trivial⟩ hn _ (by simp only [Fo.lvs, List.mem_cons, true_or])
def dvl : Nat → Nat → Nat → List Nat → List Nat × Nat
  | 0, _, r, acc => (acc, r)
  | f + 1, d, r, acc => if r % d = 0 then dvl f d (r / d) (d :: acc) else (acc, r)
def fac : Nat → Nat → List Nat → List Nat × Nat
  | 0, r, acc => (acc, r)
  | m + 1, r, acc => fac m (dvl 14 (m + 2) r acc).2 (dvl 14 (m + 2) r acc).1
def prodN : List Nat → Nat
  | [] => 1
  | d :: l => d * prodN l
theorem dvl_ok : ∀ (f d r : Nat) (acc : List Nat), 2 ≤ d → 1 ≤ r → r < 2 ^ f → prodN (dvl f d r acc).1 * (dvl f d r acc).2 = prodN acc * r ∧ 1 ≤ (dvl f d r acc).2 ∧ (dvl f d r acc).2 ∣ r ∧ ¬ d ∣ (dvl f d r acc).2 ∧ (∀ x, x ∈ (dvl f d r acc).1 → x = d ∨ x ∈ acc) ∧ (dvl f d r acc).1.length ≤ acc.length + f
  | 0, d, r, acc, hd, h1, h2 => by simp at h2; omega
  | f + 1, d, r, acc, hd, h1, h2 => by
    unfold dvl
    by_cases h : r % d = 0
    · rw [if_pos h]
      have hdv : d ∣ r := Nat.dvd_of_mod_eq_zero h
      have hq : d * (r / d) = r := Nat.mul_div_cancel' hdv
      have hr1 : 1 ≤ r / d := by
        apply Nat.one_le_iff_ne_zero.2; intro q; rw [q] at hq; omega
      have hr2 : r / d < 2 ^ f := by
        have : 2 * (r / d) ≤ d * (r / d) := Nat.mul_le_mul_right _ hd
        rw [Nat.pow_succ] at h2; omega
      obtain ⟨a1, a2, a3, a4, a5, a6⟩ := dvl_ok f d (r / d) (d :: acc) hd hr1 hr2
      refine ⟨?_, a2, Nat.dvd_trans a3 ⟨d, by rw [Nat.mul_comm]; exact hq.symm⟩, a4, fun x hx => ?_, by simp only [List.length_cons] at a6; omega⟩
      · rw [a1, prodN, ← hq, Nat.mul_div_cancel_left _ (by omega)]
        rw [Nat.mul_comm d (prodN acc), Nat.mul_assoc]
      · rcases a5 x hx with q | q
        · exact .inl q
        · rcases List.mem_cons.1 q with q | q
          · exact .inl q
          · exact .inr q
    · rw [if_neg h]
      exact ⟨rfl, h1, Nat.dvd_refl _, fun q => h (Nat.mod_eq_zero_of_dvd q), fun x hx => .inr hx, by show acc.length ≤ acc.length + (f + 1); omega⟩
theorem fac_ok : ∀ (m r : Nat) (acc : List Nat), m ≤ 15 → 1 ≤ r → r < 2 ^ 14 → prodN (fac m r acc).1 * (fac m r acc).2 = prodN acc * r ∧ 1 ≤ (fac m r acc).2 ∧ (fac m r acc).2 ∣ r ∧ (∀ d, 2 ≤ d → d ≤ m + 1 → ¬ d ∣ (fac m r acc).2) ∧ (∀ x, x ∈ (fac m r acc).1 → (2 ≤ x ∧ x ≤ 16) ∨ x ∈ acc)
  | 0, r, acc, hm, h1, h2 => ⟨rfl, h1, Nat.dvd_refl _, fun d q1 q2 => by omega, fun x hx => .inr hx⟩
  | m + 1, r, acc, hm, h1, h2 => by
    obtain ⟨a1, a2, a3, a4, a5, a6⟩ := dvl_ok 14 (m + 2) r acc (by omega) h1 h2
    have hle : (dvl 14 (m + 2) r acc).2 ≤ r := Nat.le_of_dvd h1 a3
    obtain ⟨b1, b2, b3, b4, b5⟩ := fac_ok m (dvl 14 (m + 2) r acc).2 (dvl 14 (m + 2) r acc).1 (by omega) a2 (by omega)
    refine ⟨by rw [fac, b1, a1], by rw [fac]; exact b2, by rw [fac]; exact Nat.dvd_trans b3 a3, fun d q1 q2 => ?_, fun x hx => ?_⟩
    · rw [fac]
      by_cases hd : d = m + 2
      · subst hd; exact fun q => a4 (Nat.dvd_trans q b3)
      · exact b4 d q1 (by omega)
    · rw [fac] at hx
      rcases b5 x hx with q | q
      · exact .inl q
      · rcases a5 x q with q | q
        · exact .inl (by omega)
        · exact .inr q
theorem smooth_rest {f : Nat} (hf : Smooth f) : ∀ r, 1 ≤ r → r ∣ f → (∀ d, 2 ≤ d → d ≤ 16 → ¬ d ∣ r) → r = 1 := by
  induction hf with
  | one => intro r _ h _; exact Nat.dvd_one.1 h
  | @mul a n ha h1 h16 ih =>
    intro r hr h hd
    have hg : Nat.gcd r n = 1 := by
      have g1 : Nat.gcd r n ∣ r := Nat.gcd_dvd_left r n
      have g2 : Nat.gcd r n ≤ n := Nat.le_of_dvd h1 (Nat.gcd_dvd_right r n)
      have g3 : 0 < Nat.gcd r n := Nat.gcd_pos_of_pos_left _ hr
      by_cases g : Nat.gcd r n = 1
      · exact g
      · exact absurd g1 (hd _ (by omega) (by omega))
    exact ih r hr (Nat.Coprime.dvd_of_dvd_mul_right hg h) hd
theorem fac_small : ∀ f, f < 17 → 2 ≤ f → fac 15 f [] = ([f], 1) ∧ fac 15 1 [f] = ([f], 1) := by decide
def nm63 (x : S63) : S43 := ⟨1, x.f0, 0, 0⟩
def stN (d : Nat) : S43 := un 6 d
def facs (x : S63) : List Nat := (fac 15 x.f4.toNat []).1
def hdN (x : S63) : List S43 := (if x.f1 > 0 then [un 5 x.f1] else []) ++ ((if x.f2 = true then [un 3 0] else []) ++ (if x.f3 = true then [un 4 0] else []))
def opsN (x : S63) : List S43 := hdN x ++ (facs x).map stN
def wrN (x : S63) : List S43 := opsN x ++ [nm63 x]
section
variable (x : S63) {v : List S43 × Bool}
theorem w_l1 : ∀ (f d r : Nat) (acc : List Nat), 2 ≤ d → d ≤ 16 → 1 ≤ r → r < 2 ^ f → r < 100000 → acc.length + f ≤ 1000 →
    Ev (fun k => lang_leaf_written.l0 k ((dvl f d r acc).1.map stN ++ [nm63 x]) ((dvl f d r acc).2 : Int) ((d : Int) - 1) x.f0 x.f1 x.f2 x.f3 x.f4) v →
    Ev (fun k => lang_leaf_written.l1 k (acc.map stN ++ [nm63 x]) (r : Int) (d : Int) x.f0 x.f1 x.f2 x.f3 x.f4) v
  | 0, d, r, acc, hd, hd2, h1, h2, hb, hl, e => by simp at h2; omega
  | f + 1, d, r, acc, hd, hd2, h1, h2, hb, hl, e => by
    have hm : Int.tmod (r : Int) (d : Int) = ((r % d : Nat) : Int) := by rw [Int.tmod_eq_emod_of_nonneg (by omega)]; rfl
    have ht : Int.tdiv (r : Int) (d : Int) = ((r / d : Nat) : Int) := by rw [Int.tdiv_eq_ediv_of_nonneg (by omega)]; rfl
    have hdl : r / d ≤ r := Nat.div_le_self r d
    have hq0 : (0 : Int) ≤ ((r / d : Nat) : Int) := Int.natCast_nonneg _
    have hq1 : ((r / d : Nat) : Int) ≤ (r : Int) := Int.ofNat_le.2 hdl
    refine ev_step (fun k => by simp only [lang_leaf_written.l1] <;> exact rfl) (ev_neg (by omega) ?_)
    rw [hm, ht, w64 (n := ((r / d : Nat) : Int)) (by omega) (by omega), w64 (n := (d : Int) - 1) (by omega) (by omega)]
    unfold dvl at e
    by_cases h : r % d = 0
    · rw [if_pos h] at e
      have hq : d * (r / d) = r := Nat.mul_div_cancel' (Nat.dvd_of_mod_eq_zero h)
      have hr1 : 1 ≤ r / d := by
        apply Nat.one_le_iff_ne_zero.2; intro q; rw [q] at hq; omega
      have hr2 : r / d < 2 ^ f := by
        have : 2 * (r / d) ≤ d * (r / d) := Nat.mul_le_mul_right _ hd
        rw [Nat.pow_succ] at h2; omega
      refine ev_pos (by omega) (Ev.bind (tree_one 6 d _ (by simp; omega)) ?_)
      exact w_l1 f d (r / d) (d :: acc) hd hd2 hr1 hr2 (by omega) (by simp only [List.length_cons]; omega) e
    · rw [if_neg h] at e
      exact ev_neg (by omega) e
theorem w_l0 : ∀ (m r : Nat) (acc : List Nat), m ≤ 15 → 1 ≤ r → r < 2 ^ 14 → acc.length + 14 * m ≤ 900 →
    Ev (fun k => lang_leaf_written.l0 k ((fac m r acc).1.map stN ++ [nm63 x]) ((fac m r acc).2 : Int) 1 x.f0 x.f1 x.f2 x.f3 x.f4) v →
    Ev (fun k => lang_leaf_written.l0 k (acc.map stN ++ [nm63 x]) (r : Int) ((m + 1 : Nat) : Int) x.f0 x.f1 x.f2 x.f3 x.f4) v
  | 0, r, acc, hm, h1, h2, hl, e => e
  | m + 1, r, acc, hm, h1, h2, hl, e => by
    obtain ⟨a1, a2, a3, a4, a5, a6⟩ := dvl_ok 14 (m + 2) r acc (by omega) h1 h2
    have hle : (dvl 14 (m + 2) r acc).2 ≤ r := Nat.le_of_dvd h1 a3
    refine ev_step (fun k => by simp only [lang_leaf_written.l0] <;> exact rfl) (ev_pos (by omega) ?_)
    refine w_l1 x 14 (m + 2) r acc (by omega) (by omega) h1 h2 (by omega) (by omega) ?_
    rw [show ((m + 2 : Nat) : Int) - 1 = ((m + 1 : Nat) : Int) by omega]
    exact w_l0 m _ _ (by omega) a2 (by omega) (by omega) e
theorem w_end (fs : List Nat) (r : Int) (hl : fs.length ≤ 1000) : Ev (fun k => lang_leaf_written.l0 k (fs.map stN ++ [nm63 x]) r 1 x.f0 x.f1 x.f2 x.f3 x.f4) (hdN x ++ fs.map stN ++ [nm63 x], r == 1) := by
  have hlen : (fs.map stN ++ [nm63 x]).length = fs.length + 1 := by simp
  have j4 : ∀ e : List S43, e.length ≤ 1100 → Ev (fun k => lang_leaf_written.j4 k e r x.f0 x.f1 x.f2 x.f3 x.f4) ((if x.f1 > 0 then [un 5 x.f1] else []) ++ ((if x.f2 = true then [un 3 0] else []) ++ e), r == 1) := by
    intro e he
    refine ev_step (fun k => by simp only [lang_leaf_written.j4] <;> exact rfl) ?_
    by_cases h2 : x.f2 = true
    · rw [if_pos h2]
      refine ev_pos h2 (Ev.bind (tree_one 3 0 e (by omega)) ?_)
      by_cases h1 : x.f1 > 0
      · rw [if_pos h1]
        exact ev_pos h1 (Ev.bind (tree_one 5 x.f1 _ (by simp; omega)) (ev_now _))
      · rw [if_neg h1]; exact ev_neg h1 (ev_now _)
    · rw [if_neg h2]
      refine ev_neg h2 ?_
      by_cases h1 : x.f1 > 0
      · rw [if_pos h1]
        exact ev_pos h1 (Ev.bind (tree_one 5 x.f1 _ (by omega)) (ev_now _))
      · rw [if_neg h1]; exact ev_neg h1 (ev_now _)
  refine ev_step (fun k => by simp only [lang_leaf_written.l0] <;> exact rfl) (ev_neg (by omega) ?_)
  unfold hdN
  by_cases h3 : x.f3 = true
  · rw [if_pos h3]
    refine ev_pos h3 (Ev.bind (tree_one 4 0 _ (by omega)) (ev_eq (j4 _ (by simp; omega)) ?_))
    simp only [List.append_assoc, List.singleton_append, List.cons_append, List.nil_append]
  · rw [if_neg h3]
    refine ev_neg h3 (ev_eq (j4 _ (by omega)) ?_)
    simp only [List.append_assoc, List.append_nil, List.nil_append]
theorem facs_len (hx : Inv x) : (facs x).length ≤ 900 := by
  have : ∀ (m r : Nat) (acc : List Nat), m ≤ 15 → 1 ≤ r → r < 2 ^ 14 → (fac m r acc).1.length ≤ acc.length + 14 * m := by
    intro m; induction m with
    | zero => intro r acc _ _ _; exact Nat.le_refl _
    | succ m ih =>
      intro r acc hm h1 h2
      obtain ⟨a1, a2, a3, a4, a5, a6⟩ := dvl_ok 14 (m + 2) r acc (by omega) h1 h2
      have hle : (dvl 14 (m + 2) r acc).2 ≤ r := Nat.le_of_dvd h1 a3
      have := ih (dvl 14 (m + 2) r acc).2 (dvl 14 (m + 2) r acc).1 (by omega) a2 (by omega)
      rw [fac]; omega
  obtain ⟨a1, a2, a3, a4, a5, a6⟩ := hx
  have := this 15 x.f4.toNat [] (by omega) (by omega) (by omega)
  simp only [List.length_nil] at this
  unfold facs; omega
theorem facs_ok (hx : Inv x) : (fac 15 x.f4.toNat []).2 = 1 ∧ prodN (facs x) = x.f4.toNat ∧ ∀ d, d ∈ facs x → 2 ≤ d ∧ d ≤ 16 := by
  obtain ⟨a1, a2, a3, a4, a5, a6⟩ := hx
  obtain ⟨b1, b2, b3, b4, b5⟩ := fac_ok 15 x.f4.toNat [] (by omega) (by omega) (by omega)
  have h1 := smooth_rest a6 _ b2 b3 b4
  refine ⟨h1, ?_, fun d hd => (b5 d hd).resolve_right (by simp)⟩
  rw [h1, Nat.mul_one] at b1
  unfold facs
  rw [b1, prodN, Nat.one_mul]
theorem ex_pair {α β : Type} (p : α × β) : ∃ a b, p = (a, b) := ⟨p.1, p.2, rfl⟩
theorem written_ev (hx : Inv x) : Ev (fun k => lang_leaf_written.f k x.f0 x.f1 x.f2 x.f3 x.f4) (wrN x, true) := by
  have hf := facs_ok x hx
  have hfl := facs_len x hx
  obtain ⟨a1, a2, a3, a4, a5, a6⟩ := hx
  have hnm : Ev (fun k => lang_tree.f k 1 x.f0 0 0 ([] : List (List S43))) [nm63 x] := by
    have := tree_ev 1 x.f0 0 0 [] (by simp) (by simp)
    exact this
  obtain ⟨f, hf4⟩ : ∃ f : Nat, x.f4 = (f : Int) := ⟨x.f4.toNat, by omega⟩
  have hft : x.f4.toNat = f := by omega
  obtain ⟨fs, r, he⟩ : ∃ (fs : List Nat) (r : Nat), fac 15 f [] = (fs, r) := ex_pair _
  have e1 : facs x = fs := by unfold facs; rw [hft, he]
  have e2 : r = 1 := by have := hf.1; rw [hft, he] at this; exact this
  have fin : Ev (fun k => lang_leaf_written.l0 k (fs.map stN ++ [nm63 x]) (r : Int) 1 x.f0 x.f1 x.f2 x.f3 x.f4) (wrN x, true) := by
    refine ev_eq (w_end x fs r (by rw [← e1]; omega)) ?_
    unfold wrN opsN
    rw [e1, e2]; rfl
  unfold lang_leaf_written.f
  refine Ev.bind hnm ?_
  have j1 : ∀ (acc : List Nat) (q : Nat), acc.length ≤ 1 → 1 ≤ q → q < 16384 → fac 15 q acc = (fs, r) → Ev (fun k => lang_leaf_written.j1 k (acc.map stN ++ [nm63 x]) (q : Int) x.f0 x.f1 x.f2 x.f3 x.f4) (wrN x, true) := by
    intro acc q hl h1 h2 hq
    refine ev_step (fun k => by simp only [lang_leaf_written.j1] <;> exact rfl) ?_
    refine w_l0 x 15 q acc (by omega) h1 (by omega) (by omega) ?_
    rw [hq]
    exact fin
  have j0f : Ev (fun k => lang_leaf_written.j0 k [nm63 x] x.f4 false x.f0 x.f1 x.f2 x.f3 x.f4) (wrN x, true) := by
    refine ev_step (fun k => by simp only [lang_leaf_written.j0] <;> exact rfl) (ev_neg (by simp) ?_)
    have := j1 [] f (by simp) (by omega) (by omega) he
    rw [← hf4] at this
    exact this
  by_cases h1 : x.f4 > 1
  · refine ev_pos h1 ?_
    by_cases h16 : x.f4 ≤ 16
    · refine ev_step (fun k => by simp only [lang_leaf_written.j0] <;> exact rfl) (ev_pos (decide_eq_true h16) (Ev.bind (tree_one 6 x.f4 _ (by simp)) ?_))
      obtain ⟨s1, s2⟩ := fac_small f (by omega) (by omega)
      have := j1 [f] 1 (by simp) (by omega) (by decide) (by rw [s2, ← s1, he])
      have e : un 6 x.f4 :: [nm63 x] = [f].map stN ++ [nm63 x] := by rw [hf4]; rfl
      rw [e]; exact this
    · rw [decide_eq_false h16]; exact j0f
  · exact ev_neg h1 j0f
end
def seq1 : List (List S43) → List S43
  | [e] => e
  | c => (⟨2, noB, 0, (c.length : Int)⟩ : S43) :: c.flatten
theorem seq1_big {c : List (List S43)} (h : c.length ≠ 1) : seq1 c = (⟨2, noB, 0, (c.length : Int)⟩ : S43) :: c.flatten := by
  match c, h with
  | [], _ => rfl
  | [e], h => exact absurd rfl h
  | a :: b :: l, _ => rfl
def grp : Nat → List (List S43) → List (List S43)
  | 0, _ => []
  | n + 1, l => if l.length = 0 then [] else seq1 (l.take 8) :: grp n (l.drop 8)
def oneV (l : List (List S43)) : List S43 := if l.length ≤ 8 then seq1 l else seq1 (grp 8 l)
theorem flat_take {α : Type} (l : List (List α)) (n : Nat) : (l.take n).flatten.length ≤ l.flatten.length := by
  have : l.flatten = (l.take n).flatten ++ (l.drop n).flatten := by rw [← List.flatten_append, List.take_append_drop]
  rw [this, List.length_append]; omega
theorem flat_drop {α : Type} (l : List (List α)) (n : Nat) : (l.drop n).flatten.length ≤ l.flatten.length := by
  have : l.flatten = (l.take n).flatten ++ (l.drop n).flatten := by rw [← List.flatten_append, List.take_append_drop]
  rw [this, List.length_append]; omega
theorem one_l1 {l : List (List S43)} (hl : l.length ≤ 64) (hf : l.flatten.length ≤ 90000) {v : List S43} : ∀ (n i : Nat) (acc : List (List S43)), l.length ≤ i + 8 * n → i ≤ 100 → acc.length ≤ i → Ev (fun k => lang_one.l0 k (acc ++ grp n (l.drop i))) v → Ev (fun k => lang_one.l1 k l acc (i : Int)) v
  | 0, i, acc, hi, hb, ha, e => by
    rw [grp, List.append_nil] at e
    exact ev_step (fun k => by simp only [lang_one.l1] <;> exact rfl) (ev_neg (by omega) e)
  | n + 1, i, acc, hi, hb, ha, e => by
    by_cases h : i < l.length
    · have hdl : (l.drop i).length = l.length - i := List.length_drop
      rw [grp, if_neg (by rw [hdl]; omega), List.drop_drop] at e
      have hm : mn ((i : Int) + 8) (l.length : Int) = ((min (i + 8) l.length : Nat) : Int) := by unfold mn; split <;> omega
      refine ev_step (fun k => by simp only [lang_one.l1] <;> exact rfl) (ev_pos (by omega) (ev_pos (by omega) ?_))
      rw [w64 (n := (i : Int) + 8) (by omega) (by omega), hm]
      refine ev_pos (by omega) (ev_pos (by omega) ?_)
      simp only [Option.bind_some, Int.toNat_natCast]
      have et : (l.take (min (i + 8) l.length)).drop i = (l.drop i).take 8 := by
        rw [List.drop_take]
        by_cases h8 : i + 8 ≤ l.length
        · rw [show min (i + 8) l.length - i = 8 by omega]
        · rw [List.take_of_length_le (by omega), List.take_of_length_le (by omega)]
      rw [et, show (i : Int) + 8 = ((i + 8 : Nat) : Int) by omega]
      have hcl : ((l.drop i).take 8).length = min 8 (l.length - i) := by rw [List.length_take, hdl]
      have ecs : ∀ c, (acc ++ [c]) ++ grp n (l.drop (i + 8)) = acc ++ c :: grp n (l.drop (i + 8)) := fun c => by simp
      by_cases h1 : ((l.drop i).take 8).length = 1
      · obtain ⟨c, hc⟩ := List.length_eq_one_iff.1 h1
        rw [hc] at e ⊢
        refine ev_pos (by simp) (ev_pos (by simp) (ev_pos (by omega) ?_))
        exact one_l1 hl hf n (i + 8) (acc ++ [c]) (by omega) (by omega) (by rw [List.length_append, List.length_singleton]; omega) (by rw [ecs]; exact e)
      · have h1' : ¬ (((l.drop i).take 8).length : Int) = 1 := by omega
        have hfl : ((l.drop i).take 8).flatten.length ≤ 90000 := Nat.le_trans (flat_take _ _) (Nat.le_trans (flat_drop _ _) hf)
        refine ev_neg h1' (Ev.bind (tree_ev 2 (⟨#[]⟩ : ByteArray) 0 0 ((l.drop i).take 8) (by omega) (by omega)) (ev_pos (by omega) ?_))
        rw [seq1_big h1] at e
        exact one_l1 hl hf n (i + 8) (acc ++ [_]) (by omega) (by omega) (by rw [List.length_append, List.length_singleton]; omega) (by rw [ecs]; exact e)
    · have hd : l.drop i = [] := List.drop_eq_nil_of_le (by omega)
      rw [hd, grp, if_pos (show ([] : List (List S43)).length = 0 from rfl), List.append_nil] at e
      exact ev_step (fun k => by simp only [lang_one.l1] <;> exact rfl) (ev_neg (by omega) e)
theorem grp_len : ∀ (n : Nat) (l : List (List S43)), (grp n l).length ≤ n ∧ (l.length ≤ 8 * n → 8 * (grp n l).length ≤ l.length + 7 ∧ l.length ≤ 8 * (grp n l).length)
  | 0, l => ⟨by simp [grp], fun h => by simp only [grp, List.length_nil]; omega⟩
  | n + 1, l => by
    unfold grp
    by_cases h : l.length = 0
    · rw [if_pos h]; simp only [List.length_nil]; omega
    · rw [if_neg h]
      obtain ⟨g1, g2⟩ := grp_len n (l.drop 8)
      rw [List.length_drop] at g2
      simp only [List.length_cons]
      refine ⟨by omega, fun h2 => ?_⟩
      have := g2 (by omega)
      omega
theorem grp_flat : ∀ (n : Nat) (l : List (List S43)), (grp n l).flatten.length ≤ l.flatten.length + n
  | 0, l => by simp [grp]
  | n + 1, l => by
    unfold grp
    by_cases h : l.length = 0
    · rw [if_pos h]; simp
    · rw [if_neg h, List.flatten_cons, List.length_append]
      have h1 := grp_flat n (l.drop 8)
      have h2 : (seq1 (l.take 8)).length ≤ (l.take 8).flatten.length + 1 := by
        by_cases q : (l.take 8).length = 1
        · obtain ⟨c, hc⟩ := List.length_eq_one_iff.1 q
          rw [hc]; simp [seq1]
        · rw [seq1_big q]; simp
      have h3 : l.flatten = (l.take 8).flatten ++ (l.drop 8).flatten := by rw [← List.flatten_append, List.take_append_drop]
      rw [h3, List.length_append]; omega
theorem one_one {c : List S43} : Ev (fun k => lang_one.l0 k [c]) c :=
  ev_step (fun k => by simp only [lang_one.l0] <;> exact rfl) (ev_neg (by simp) (ev_pos (by simp) (ev_now _)))
theorem one_small {l : List (List S43)} (h1 : 1 ≤ l.length) (h8 : l.length ≤ 8) (hf : l.flatten.length ≤ 90000) : Ev (fun k => lang_one.l0 k l) (seq1 l) := by
  by_cases h : l.length = 1
  · obtain ⟨c, rfl⟩ := List.length_eq_one_iff.1 h
    exact one_one
  · refine ev_step (fun k => by simp only [lang_one.l0] <;> exact rfl) (ev_pos (by omega) ?_)
    refine one_l1 (by omega) hf 1 0 [] (by omega) (by omega) (by simp) ?_
    rw [List.drop_zero, grp, if_neg (by omega), grp, List.take_of_length_le (by omega), List.nil_append]
    exact one_one
theorem one_ev {l : List (List S43)} (h1 : 1 ≤ l.length) (h64 : l.length ≤ 64) (hf : l.flatten.length ≤ 80000) : Ev (fun k => lang_one.f k l) (oneV l) := by
  unfold lang_one.f oneV
  by_cases h8 : l.length ≤ 8
  · rw [if_pos h8]; exact one_small h1 h8 (by omega)
  · rw [if_neg h8]
    have g := grp_len 8 l
    have g2 := g.2 (by omega)
    have gf := grp_flat 8 l
    refine ev_step (fun k => by simp only [lang_one.l0] <;> exact rfl) (ev_pos (by omega) ?_)
    refine one_l1 h64 (by omega) 8 0 [] (by omega) (by omega) (by simp) ?_
    rw [List.drop_zero, List.nil_append]
    exact one_small (by omega) g.1 (by omega)
def endV (o : List S43) : List S43 × Int := if (o.length : Int) > 64 then ([], 3) else (o, 0)
def nrmV (v : List S63 × Bool) : List S43 × Int := if v.2 = true then endV (oneV (v.1.map wrN)) else ([], 3)
theorem wrN_len (x : S63) (hx : Inv x) : (wrN x).length ≤ 1000 := by
  have := facs_len x hx
  unfold wrN opsN hdN
  simp only [List.length_append, List.length_map, List.length_singleton]
  have h1 : (if x.f1 > 0 then [un 5 x.f1] else ([] : List S43)).length ≤ 1 := by split <;> simp
  have h2 : (if x.f2 = true then [un 3 0] else ([] : List S43)).length ≤ 1 := by split <;> simp
  have h3 : (if x.f3 = true then [un 4 0] else ([] : List S43)).length ≤ 1 := by split <;> simp
  omega
theorem parts_flat : ∀ (l : List S63), (∀ x, x ∈ l → Inv x) → (l.map wrN).flatten.length ≤ 1000 * l.length
  | [], _ => by simp
  | x :: l, h => by
    have h1 := wrN_len x (h x (by simp))
    have h2 := parts_flat l (fun y hy => h y (by simp [hy]))
    simp only [List.map_cons, List.flatten_cons, List.length_append, List.length_cons]; omega
theorem norm_l0 {lv : List S63} (h64 : lv.length ≤ 64) (h1 : 1 ≤ lv.length) (hi : ∀ x, x ∈ lv → Inv x) : ∀ (d i : Nat) (acc : List (List S43)), i + d = lv.length → acc = (lv.take i).map wrN →
    Ev (fun k => lang_Norm.l0 k acc lv (lv.length : Int) (i : Int)) (endV (oneV (lv.map wrN)))
  | 0, i, acc, h, ha => by
    have e : acc = lv.map wrN := by rw [ha, List.take_of_length_le (by omega)]
    subst e
    have := parts_flat lv hi
    refine ev_step (fun k => by simp only [lang_Norm.l0] <;> exact rfl) (ev_neg (by omega) (Ev.bind (one_ev (by rw [List.length_map]; omega) (by rw [List.length_map]; omega) (by omega)) ?_))
    unfold endV
    exact ev_ite (fun h => ev_eq (ev_now _) (by rw [if_pos h])) (fun h => ev_eq (ev_now _) (by rw [if_neg h]))
  | d + 1, i, acc, h, ha => by
    have hlt : i < lv.length := by omega
    have hal : acc.length ≤ 64 := by rw [ha, List.length_map, List.length_take]; omega
    refine ev_step (fun k => by simp only [lang_Norm.l0] <;> exact rfl) (ev_pos (by omega) (ev_pos (by omega) (ev_pos (by omega) ?_)))
    rw [rd63 lv hlt, w64 (by omega) (by omega), show (i : Int) + 1 = ((i + 1 : Nat) : Int) by omega]
    refine Ev.bind (written_ev lv[i] (hi _ (List.getElem_mem hlt))) (ev_pos rfl (ev_pos (by omega) ?_))
    refine norm_l0 h64 h1 hi d (i + 1) _ (by omega) ?_
    rw [List.take_succ_eq_append_getElem hlt, List.map_append, ha]; rfl
theorem norm_tree {s : S43} {k : Fo} (hk : k.ok) (h3 : s.f3 = (k.count : Int)) (hs : ndE s = 0) (hkn : k.nds) (hl : k.flat.length < 64) : Ev (fun n => lang_Norm.f n (s :: k.flat)) (nrmV (nodeL s k.lvs)) := by
  obtain ⟨e, g⟩ := leaves_ev hk h3 hs hkn (by omega)
  unfold lang_Norm.f nrmV
  refine Ev.bind (pchk_ev _) (ev_pos (chk_tree s k hk h3 hs hkn hl) (Ev.bind e ?_))
  by_cases h : (nodeL s k.lvs).2 = true
  · obtain ⟨g1, g2, g3⟩ := g h
    rw [if_pos h]
    exact ev_pos h (norm_l0 g2 g3 g1 _ 0 [] (Nat.zero_add _) rfl)
  · rw [if_neg h]
    exact ev_neg h (ev_now _)
theorem norm_bad {l : List S43} (h : chkE l ≠ 0) : Ev (fun n => lang_Norm.f n l) ([], chkE l) := by
  unfold lang_Norm.f
  exact Ev.bind (pchk_ev _) (ev_neg h (ev_now _))
theorem endV_len (o : List S43) : (endV o).1.length ≤ 64 := by
  unfold endV
  split
  · simp
  · show o.length ≤ 64; omega
theorem nrmV_len (v : List S63 × Bool) : (nrmV v).1.length ≤ 64 := by
  unfold nrmV
  split
  · exact endV_len _
  · simp
def EqL (a b : List S63 × Bool) : Prop := a.2 = b.2 ∧ (a.2 = true → a.1 = b.1)
theorem nrmV_eq {a b : List S63 × Bool} (h : EqL a b) : nrmV a = nrmV b := by
  unfold nrmV
  by_cases h2 : a.2 = true
  · rw [if_pos h2, if_pos (h.1 ▸ h2), h.2 h2]
  · rw [if_neg h2, if_neg (fun q => h2 (h.1 ▸ q))]
/-- A valid expression: its leaves. -/
structure Val (l : List S43) (v : List S63 × Bool) : Prop where
  ex : ∃ (s : S43) (k : Fo), l = s :: k.flat ∧ k.ok ∧ s.f3 = (k.count : Int) ∧ ndE s = 0 ∧ k.nds ∧ v = nodeL s k.lvs
theorem Val.norm {l : List S43} {v : List S63 × Bool} (h : Val l v) (hl : l.length ≤ 64) : Ev (fun n => lang_Norm.f n l) (nrmV v) ∧ GoodL v := by
  obtain ⟨s, k, rfl, hk, h3, hs, hkn, rfl⟩ := h.ex
  simp only [List.length_cons] at hl
  exact ⟨norm_tree hk h3 hs hkn (by omega), (leaves_ev hk h3 hs hkn (by omega)).2⟩
def upL (op n : Int) (v : List S63 × Bool) : List S63 × Bool := if v.2 = true then finL (un op n) v.1 else ([], false)
theorem Val.up {l : List S43} {v : List S63 × Bool} (h : Val l v) {op n : Int} (ho : isOp (un op n)) : Val (un op n :: l) (upL op n v) := by
  obtain ⟨s, k, rfl, hk, h3, hs, hkn, rfl⟩ := h.ex
  refine ⟨un op n, .cons s k .nil, by simp only [Fo.flat, List.append_nil], ⟨h3, hk, trivial⟩, rfl, ndE_iff.2 (.inr ho), fun t ht => ?_, ?_⟩
  · simp only [Fo.flat, List.append_nil, List.mem_cons] at ht
    rcases ht with rfl | h
    · exact hs
    · exact hkn t h
  · unfold upL
    have h1 : ¬ (un op n).f0 = 1 := by have := ho.1; omega
    have e1 : (Fo.cons s k .nil).lvs = [nodeL s k.lvs] := rfl
    have e0 : ∀ cs, nodeL (un op n) cs = if cs.all (·.2) = true then finL (un op n) (catL cs) else ([], false) := fun cs => if_neg h1
    rw [e1, e0]
    have e2 : [nodeL s k.lvs].all (·.2) = (nodeL s k.lvs).2 := by simp
    have e3 : catL [nodeL s k.lvs] = (nodeL s k.lvs).1 := by simp [catL]
    rw [e2, e3]
theorem und_f4 (s : S43) (x : S63) : (undL s x).f4 = if s.f0 = 6 then x.f4 * s.f2 else x.f4 := by
  unfold undL
  by_cases h3 : s.f0 = 3
  · rw [if_pos h3, if_neg (by omega)]
  rw [if_neg h3]
  by_cases h4 : s.f0 = 4
  · rw [if_pos h4, if_neg (by omega)]
  rw [if_neg h4]
  by_cases h5 : s.f0 = 5
  · rw [if_pos h5, if_neg (by omega)]
  rw [if_neg h5]
  by_cases h6 : s.f0 = 6
  · rw [if_pos h6, if_pos h6]
  · rw [if_neg h6, if_neg h6]
theorem upL_ok {op n : Int} {v : List S63 × Bool} (ho : isOp (un op n)) (h7 : op ≠ 7) (h6 : op = 6 → n = 1) (hv : GoodL v) (h : v.2 = true) : upL op n v = ((rev4 (un op n) v.1).map (undL (un op n)), true) := by
  obtain ⟨g1, g2, g3⟩ := hv h
  have h7' : ¬ (un op n).f0 = 7 := h7
  unfold upL
  rw [if_pos h]
  unfold finL
  rw [if_neg (fun q => h7' q.1)]
  unfold rep7
  rw [if_neg h7']
  have r1 : (rev4 (un op n) v.1).length = v.1.length := by unfold rev4; split <;> simp
  have r2 : ∀ x, x ∈ rev4 (un op n) v.1 → x ∈ v.1 := by unfold rev4; intro x hx; split at hx <;> simpa using hx
  have hov : ¬ ovr (un op n) (rev4 (un op n) v.1) = true := by
    unfold ovr
    rw [List.any_eq_true]
    rintro ⟨x, hx, hq⟩
    have hq' := of_decide_eq_true hq
    have hx5 := (g1 x (r2 x hx)).2.2.2.2.1
    rw [und_f4] at hq'
    by_cases q6 : op = 6
    · have e1 : (un op n).f0 = 6 := q6
      have e2 : (un op n).f2 = 1 := h6 q6
      rw [if_pos e1, e2] at hq'; omega
    · have e1 : ¬ (un op n).f0 = 6 := q6
      rw [if_neg e1] at hq'; omega
  unfold endL
  rw [if_neg hov, decide_eq_true (by omega)]
theorem upL_no {op n : Int} {v : List S63 × Bool} (h : ¬ v.2 = true) : upL op n v = ([], false) := by unfold upL; rw [if_neg h]
theorem upL_good {op n : Int} {v : List S63 × Bool} (ho : isOp (un op n)) (hv : GoodL v) : GoodL (upL op n v) := by
  unfold upL
  by_cases h : v.2 = true
  · rw [if_pos h]; obtain ⟨g1, g2, g3⟩ := hv h; exact finL_good ho g1 g3
  · rw [if_neg h]; intro q; cases q
theorem noB_nil : noB.toList = [] := toList_mk []
theorem ops_ok : isOp (un 3 0) ∧ isOp (un 4 0) ∧ isOp (un 6 1) ∧ isOp (un 2 0) := by
  unfold isOp rOk un
  refine ⟨⟨?_, ?_, noB_nil, ⟨?_, ?_, ?_⟩, ?_, ?_, ?_⟩, ⟨?_, ?_, noB_nil, ⟨?_, ?_, ?_⟩, ?_, ?_, ?_⟩, ⟨?_, ?_, noB_nil, ⟨?_, ?_, ?_⟩, ?_, ?_, ?_⟩, ⟨?_, ?_, noB_nil, ⟨?_, ?_, ?_⟩, ?_, ?_, ?_⟩⟩ <;> simp
theorem rot_ok {n : Int} (h0 : 0 ≤ n) (h3 : n ≤ 3) : isOp (un 5 n) := by
  unfold isOp rOk un
  refine ⟨?_, ?_, noB_nil, ⟨?_, ?_, ?_⟩, ?_, ?_, ?_⟩ <;> simp <;> omega
theorem map_id_on {α : Type} {f : α → α} : ∀ {l : List α}, (∀ x, x ∈ l → f x = x) → l.map f = l
  | [], _ => rfl
  | x :: l, h => by rw [List.map_cons, h x (by simp), map_id_on (fun y hy => h y (by simp [hy]))]
theorem map_eq_on {α β : Type} {f g : α → β} : ∀ {l : List α}, (∀ x, x ∈ l → f x = g x) → l.map f = l.map g
  | [], _ => rfl
  | x :: l, h => by rw [List.map_cons, List.map_cons, h x (by simp), map_eq_on (fun y hy => h y (by simp [hy]))]
theorem und3 (x : S63) : undL (un 3 0) x = ⟨x.f0, (4 - x.f1) % 4, !x.f2, x.f3, x.f4⟩ := rfl
theorem und4 (x : S63) : undL (un 4 0) x = ⟨x.f0, x.f1, x.f2, !x.f3, x.f4⟩ := rfl
theorem und5 (n : Int) (x : S63) : undL (un 5 n) x = ⟨x.f0, (x.f1 + n) % 4, x.f2, x.f3, x.f4⟩ := rfl
theorem und6 (n : Int) (x : S63) : undL (un 6 n) x = ⟨x.f0, x.f1, x.f2, x.f3, x.f4 * n⟩ := rfl
theorem und2 (x : S63) : undL (un 2 0) x = x := rfl
theorem ext63 {a b : S63} (h0 : a.f0 = b.f0) (h1 : a.f1 = b.f1) (h2 : a.f2 = b.f2) (h3 : a.f3 = b.f3) (h4 : a.f4 = b.f4) : a = b := by
  cases a; cases b; simp only at h0 h1 h2 h3 h4; subst h0 h1 h2 h3 h4; rfl
section
variable {v : List S63 × Bool} (hv : GoodL v)
include hv
theorem law_mm : EqL (upL 3 0 (upL 3 0 v)) v := by
  by_cases h : v.2 = true
  · obtain ⟨g1, g2, g3⟩ := hv h
    have e1 := upL_ok ops_ok.1 (by decide) (by decide) hv h
    have gd := upL_good ops_ok.1 hv
    rw [upL_ok ops_ok.1 (by decide) (by decide) gd (by rw [e1]), e1]
    refine ⟨h.symm, fun _ => ?_⟩
    show ((v.1.map (undL (un 3 0))).map (undL (un 3 0))) = v.1
    rw [List.map_map]
    refine map_id_on (fun x hx => ?_)
    obtain ⟨a1, a2, a3, a4, a5, a6⟩ := g1 x hx
    show undL (un 3 0) (undL (un 3 0) x) = x
    rw [und3, und3]
    exact ext63 rfl (by show (4 - (4 - x.f1) % 4) % 4 = x.f1; omega) (by simp) rfl rfl
  · rw [upL_no (by rw [upL_no h]; simp)]
    exact ⟨(by simpa using h : v.2 = false).symm, fun q => by cases q⟩
theorem law_rr : EqL (upL 4 0 (upL 4 0 v)) v := by
  by_cases h : v.2 = true
  · have e1 := upL_ok ops_ok.2.1 (by decide) (by decide) hv h
    have gd := upL_good ops_ok.2.1 hv
    rw [upL_ok ops_ok.2.1 (by decide) (by decide) gd (by rw [e1]), e1]
    refine ⟨h.symm, fun _ => ?_⟩
    show ((v.1.reverse.map (undL (un 4 0))).reverse.map (undL (un 4 0))) = v.1
    rw [← List.map_reverse, List.reverse_reverse, List.map_map]
    refine map_id_on (fun x hx => ?_)
    show undL (un 4 0) (undL (un 4 0) x) = x
    rw [und4, und4]
    exact ext63 rfl rfl rfl (by simp) rfl
  · rw [upL_no (by rw [upL_no h]; simp)]
    exact ⟨(by simpa using h : v.2 = false).symm, fun q => by cases q⟩
theorem law_rot {q : Int} (h0 : 0 ≤ q) (h3 : q ≤ 3) : EqL (upL 5 q (upL 5 ((4 - q) % 4) v)) v := by
  have o1 := rot_ok h0 h3
  have o2 := rot_ok (n := (4 - q) % 4) (by omega) (by omega)
  by_cases h : v.2 = true
  · obtain ⟨g1, g2, g3⟩ := hv h
    have e1 := upL_ok o2 (by decide) (fun q => absurd q (by decide)) hv h
    have gd := upL_good o2 hv
    rw [upL_ok o1 (by decide) (fun q => absurd q (by decide)) gd (by rw [e1]), e1]
    refine ⟨h.symm, fun _ => ?_⟩
    show ((v.1.map (undL (un 5 ((4 - q) % 4)))).map (undL (un 5 q))) = v.1
    rw [List.map_map]
    refine map_id_on (fun x hx => ?_)
    obtain ⟨a1, a2, a3, a4, a5, a6⟩ := g1 x hx
    show undL (un 5 q) (undL (un 5 ((4 - q) % 4)) x) = x
    rw [und5, und5]
    exact ext63 rfl (by show ((x.f1 + (4 - q) % 4) % 4 + q) % 4 = x.f1; omega) rfl rfl rfl
  · rw [upL_no (by rw [upL_no h]; simp)]
    exact ⟨(by simpa using h : v.2 = false).symm, fun q => by cases q⟩
theorem law_st : EqL (upL 6 1 v) v := by
  by_cases h : v.2 = true
  · rw [upL_ok ops_ok.2.2.1 (by decide) (fun _ => rfl) hv h]
    refine ⟨h.symm, fun _ => ?_⟩
    show v.1.map (undL (un 6 1)) = v.1
    refine map_id_on (fun x hx => ?_)
    rw [und6]
    exact ext63 rfl rfl rfl rfl (by show x.f4 * 1 = x.f4; omega)
  · rw [upL_no h]
    exact ⟨(by simpa using h : v.2 = false).symm, fun q => by cases q⟩
theorem law_seq : EqL (upL 2 0 v) v := by
  by_cases h : v.2 = true
  · rw [upL_ok ops_ok.2.2.2 (by decide) (by decide) hv h]
    refine ⟨h.symm, fun _ => ?_⟩
    show v.1.map (undL (un 2 0)) = v.1
    exact map_id_on (fun x hx => und2 x)
  · rw [upL_no h]
    exact ⟨(by simpa using h : v.2 = false).symm, fun q => by cases q⟩
theorem law_mr : EqL (upL 3 0 (upL 4 0 v)) (upL 4 0 (upL 3 0 v)) := by
  by_cases h : v.2 = true
  · have e1 := upL_ok ops_ok.2.1 (by decide) (by decide) hv h
    have gd := upL_good ops_ok.2.1 hv
    have e2 := upL_ok ops_ok.1 (by decide) (by decide) hv h
    have gd2 := upL_good ops_ok.1 hv
    rw [upL_ok ops_ok.1 (by decide) (by decide) gd (by rw [e1]), e1, upL_ok ops_ok.2.1 (by decide) (by decide) gd2 (by rw [e2]), e2]
    refine ⟨rfl, fun _ => ?_⟩
    show ((v.1.reverse.map (undL (un 4 0))).map (undL (un 3 0))) = ((v.1.map (undL (un 3 0))).reverse.map (undL (un 4 0)))
    rw [← List.map_reverse, List.map_map, List.map_map]
    exact map_eq_on (fun x _ => rfl)
  · rw [upL_no (by rw [upL_no h]; simp), upL_no (by rw [upL_no h]; simp)]
    exact ⟨rfl, fun q => by cases q⟩
theorem law_mq {q : Int} (h0 : 0 ≤ q) (h3 : q ≤ 3) : EqL (upL 3 0 (upL 5 q v)) (upL 5 ((4 - q) % 4) (upL 3 0 v)) := by
  have o1 := rot_ok h0 h3
  have o2 := rot_ok (n := (4 - q) % 4) (by omega) (by omega)
  by_cases h : v.2 = true
  · obtain ⟨g1, g2, g3⟩ := hv h
    have e1 := upL_ok o1 (by decide) (fun q => absurd q (by decide)) hv h
    have gd := upL_good o1 hv
    have e2 := upL_ok ops_ok.1 (by decide) (by decide) hv h
    have gd2 := upL_good ops_ok.1 hv
    rw [upL_ok ops_ok.1 (by decide) (by decide) gd (by rw [e1]), e1, upL_ok o2 (by decide) (fun q => absurd q (by decide)) gd2 (by rw [e2]), e2]
    refine ⟨rfl, fun _ => ?_⟩
    show ((v.1.map (undL (un 5 q))).map (undL (un 3 0))) = ((v.1.map (undL (un 3 0))).map (undL (un 5 ((4 - q) % 4))))
    rw [List.map_map, List.map_map]
    refine map_eq_on (fun x hx => ?_)
    obtain ⟨a1, a2, a3, a4, a5, a6⟩ := g1 x hx
    show undL (un 3 0) (undL (un 5 q) x) = undL (un 5 ((4 - q) % 4)) (undL (un 3 0) x)
    rw [und3, und5, und3, und5]
    exact ext63 rfl (by show (4 - (x.f1 + q) % 4) % 4 = ((4 - x.f1) % 4 + (4 - q) % 4) % 4; omega) rfl rfl rfl
  · rw [upL_no (by rw [upL_no h]; simp), upL_no (by rw [upL_no h]; simp)]
    exact ⟨rfl, fun q => by cases q⟩
end
def t72 (x : S63) : S72 := ⟨x.f0, x.f1, x.f2, x.f3, x.f4⟩
theorem rd72 (l : List S63) {i : Nat} (h : i < l.length) : rd_T72 (l.map t72) (i : Int) = t72 l[i] := by
  unfold rd_T72
  rw [Int.toNat_natCast, List.getD_eq_getElem?_getD, List.getElem?_map, List.getElem?_eq_getElem h]; rfl
theorem turn_l0 (l : List S63) (hl : l.length ≤ 100000) : ∀ (i : Nat) (acc : List S63), i ≤ l.length → acc.length + i ≤ 100000 → Ev (fun k => dancestudioref35_turned.l0 k (l.map t72) (acc.map t72) ((i : Int) - 1)) ((acc ++ (l.take i).reverse).map t72)
  | 0, acc, hi, ha => by
    refine ev_step (fun k => by simp only [dancestudioref35_turned.l0] <;> exact rfl) (ev_neg (by omega) (ev_eq (ev_now _) (by simp)))
  | i + 1, acc, hi, ha => by
    have hlt : i < l.length := by omega
    have e1 : ((i + 1 : Nat) : Int) - 1 = (i : Int) := by omega
    rw [e1]
    refine ev_step (fun k => by simp only [dancestudioref35_turned.l0] <;> exact rfl) (ev_pos (by omega) (ev_pos (by omega) (ev_pos (by rw [List.length_map]; omega) (ev_pos (by rw [List.length_map]; omega) ?_))))
    rw [rd72 l hlt, w64 (by omega) (by omega)]
    have := turn_l0 l hl i (acc ++ [l[i]]) (by omega) (by rw [List.length_append, List.length_singleton]; omega)
    rw [List.map_append] at this
    refine ev_eq this ?_
    rw [List.take_succ_eq_append_getElem hlt, List.reverse_append]
    simp
theorem turn_ev (l : List S63) (hl : l.length ≤ 100000) : Ev (fun k => dancestudioref35_turned.f k (l.map t72)) (l.reverse.map t72) := by
  unfold dancestudioref35_turned.f
  rw [List.length_map, w64 (by omega) (by omega)]
  have := turn_l0 l hl l.length [] (Nat.le_refl _) (by simp; omega)
  simp only [List.map_nil, List.nil_append, List.take_length] at this
  exact this
abbrev noL : List S72 × Bool := ([], false)
def refV (v : List S63 × Bool) : List S72 × Bool := if v.2 = true then (v.1.map t72, true) else noL
section
variable {s : S43} {x0 : List S43} (hs : isOp s) (h0 : rd_T43 x0 0 = s) (hx0 : 0 < x0.length)
include hs h0 hx0
theorem rl2_ev {l : List S63} (hl : l.length ≤ 10000) {n j : Int} {v : List S72 × Bool} (d : Nat) : ∀ (i : Nat) (acc : List S63), i + d = l.length → acc.length + d ≤ 100000 → (∀ x, x ∈ l.drop i → Inv x) →
    (ovr s (l.drop i) = true → v = noL) → (¬ ovr s (l.drop i) = true → Ev (fun k => dancestudioref35_Leaves.l2 k x0 (l.map t72) n ((acc ++ (l.drop i).map (undL s)).map t72) j (l.length : Int)) v) →
    Ev (fun k => dancestudioref35_Leaves.l2 k x0 (l.map t72) n (acc.map t72) j (i : Int)) v := by
  induction d with
  | zero =>
    intro i acc hi ha hx ho e
    have hd : l.drop i = [] := List.drop_eq_nil_of_le (by omega)
    rw [hd] at e
    have := e (by simp [ovr])
    rw [List.map_nil, List.append_nil] at this
    rw [show i = l.length by omega]; exact this
  | succ d ih =>
    intro i acc hi ha hx ho e
    have hlt : i < l.length := by omega
    have hd : l.drop i = l[i] :: l.drop (i + 1) := List.drop_eq_getElem_cons hlt
    have hxi := hx l[i] (by rw [hd]; exact List.mem_cons_self)
    have hov : ovr s (l.drop i) = (decide ((undL s l[i]).f4 > 8192) || ovr s (l.drop (i + 1))) := by rw [hd]; rfl
    rw [hov] at ho e
    have next : ¬ (undL s l[i]).f4 > 8192 → Ev (fun k => dancestudioref35_Leaves.l2 k x0 (l.map t72) n ((acc ++ [undL s l[i]]).map t72) j ((i + 1 : Nat) : Int)) v := fun h => by
      rw [decide_eq_false h, Bool.false_or] at ho e
      refine ih (i + 1) (acc ++ [undL s l[i]]) (by omega) (by rw [List.length_append, List.length_singleton]; omega) (fun x hx' => hx x (by rw [hd]; exact List.mem_cons_of_mem _ hx')) ho (fun q => ?_)
      have := e q
      rw [hd, List.map_cons, List.append_cons] at this
      exact this
    have bad : (undL s l[i]).f4 > 8192 → v = noL := fun h => ho (by rw [decide_eq_true h]; rfl)
    -- what is common to all operations
    have go : ∀ (c : Prop) [Decidable c] (y : S72), (c ↔ (undL s l[i]).f4 > 8192) → y = t72 (undL s l[i]) → Ev (fun k => if c then (some noL) else (if (acc.map t72).length < 3518437208883 then (dancestudioref35_Leaves.l2 k x0 (l.map t72) n (acc.map t72 ++ [y]) j (wrap64 ((i : Int) + 1))) else none)) v := by
      intro c _ y hc hy
      refine ev_ite (fun h => ev_eq (ev_now _) (bad (hc.1 h)).symm) (fun h => ev_pos (by rw [List.length_map]; omega) ?_)
      rw [w64 (by omega) (by omega), show (i : Int) + 1 = ((i + 1 : Nat) : Int) by omega, hy, show acc.map t72 ++ [t72 (undL s l[i])] = (acc ++ [undL s l[i]]).map t72 by simp]
      exact next (fun q => h (hc.2 q))
    obtain ⟨a1, a2, a3, a4, a5, a6⟩ := hxi
    refine ev_step (fun k => by simp only [dancestudioref35_Leaves.l2] <;> exact rfl) (ev_pos (by rw [List.length_map]; omega) (ev_pos (by omega) (ev_pos (by omega) ?_)))
    rw [h0, rd72 l hlt]
    by_cases h3 : s.f0 = 3
    · have e1 : undL s l[i] = ⟨l[i].f0, (4 - l[i].f1) % 4, !l[i].f2, l[i].f3, l[i].f4⟩ := by unfold undL; rw [if_pos h3]
      refine ev_pos h3 (go _ _ (by rw [e1]; exact Iff.rfl) ?_)
      rw [e1]
      show (⟨l[i].f0, Int.tmod (wrap64 (4 - l[i].f1)) 4, !l[i].f2, l[i].f3, l[i].f4⟩ : S72) = ⟨l[i].f0, (4 - l[i].f1) % 4, !l[i].f2, l[i].f3, l[i].f4⟩
      rw [w64 (by omega) (by omega), Int.tmod_eq_emod_of_nonneg (by omega)]
    refine ev_neg h3 ?_
    by_cases h4 : s.f0 = 4
    · have e1 : undL s l[i] = ⟨l[i].f0, l[i].f1, l[i].f2, !l[i].f3, l[i].f4⟩ := by unfold undL; rw [if_neg h3, if_pos h4]
      exact ev_pos h4 (go _ _ (by rw [e1]; exact Iff.rfl) (by rw [e1]; rfl))
    refine ev_neg h4 ?_
    by_cases h5 : s.f0 = 5
    · have hr := hs.2.2.2.1.1 h5
      have e1 : undL s l[i] = ⟨l[i].f0, (l[i].f1 + s.f2) % 4, l[i].f2, l[i].f3, l[i].f4⟩ := by unfold undL; rw [if_neg h3, if_neg h4, if_pos h5]
      refine ev_pos h5 (go _ _ (by rw [e1]; exact Iff.rfl) ?_)
      rw [e1]
      show (⟨l[i].f0, Int.tmod (wrap64 (l[i].f1 + s.f2)) 4, l[i].f2, l[i].f3, l[i].f4⟩ : S72) = ⟨l[i].f0, (l[i].f1 + s.f2) % 4, l[i].f2, l[i].f3, l[i].f4⟩
      rw [w64 (by omega) (by omega), Int.tmod_eq_emod_of_nonneg (by omega)]
    refine ev_neg h5 ?_
    by_cases h6 : s.f0 = 6
    · have hr := hs.2.2.2.1.2.1 (.inl h6)
      have e1 : undL s l[i] = ⟨l[i].f0, l[i].f1, l[i].f2, l[i].f3, l[i].f4 * s.f2⟩ := by unfold undL; rw [if_neg h3, if_neg h4, if_neg h5, if_pos h6]
      have := mul_range (a := l[i].f4) (b := s.f2) (A := 8192) (B := 16) (by omega) (by omega) (by omega) (by omega)
      have ew : wrap64 (l[i].f4 * s.f2) = l[i].f4 * s.f2 := w64 (by omega) (by omega)
      refine ev_pos h6 (go _ _ (by rw [e1]; show wrap64 (l[i].f4 * s.f2) > 8192 ↔ _; rw [ew]) ?_)
      rw [e1]
      show (⟨l[i].f0, l[i].f1, l[i].f2, l[i].f3, wrap64 (l[i].f4 * s.f2)⟩ : S72) = _
      rw [ew]; rfl
    · have e1 : undL s l[i] = l[i] := by unfold undL; rw [if_neg h3, if_neg h4, if_neg h5, if_neg h6]
      exact ev_neg h6 (go _ _ (by rw [e1]; exact Iff.rfl) (by rw [e1] <;> rfl))
/-- The rounds. -/
theorem rl1_ev {l : List S63} (hl : l.length ≤ 10000) (hi : ∀ x, x ∈ l → Inv x) (h1 : 1 ≤ l.length) (N : Nat) (hN : N ≤ 16) : ∀ (d j : Nat), j + d = N → j * l.length ≤ 64 →
    Ev (fun k => dancestudioref35_Leaves.l1 k x0 (l.map t72) (N : Int) ((repL j (l.map (undL s))).map t72) (j : Int)) (if (ovr s l = true ∧ 1 ≤ d) ∨ N * l.length > 64 then noL else ((repL N (l.map (undL s))).map t72, true))
  | 0, j, hj, hm => by
    have e : j = N := by omega
    subst e
    rw [if_neg (by omega)]
    refine ev_step (fun k => by simp only [dancestudioref35_Leaves.l1] <;> exact rfl) (ev_neg (by omega) (ev_eq (ev_now _) ?_))
    rw [List.length_map, repL_len, List.length_map, decide_eq_true (by omega)]
  | d + 1, j, hj, hm => by
    have hrl : (repL j (l.map (undL s))).length = j * l.length := by rw [repL_len, List.length_map]
    have hNl : (j + 1) * l.length ≤ N * l.length := Nat.mul_le_mul_right _ (by omega)
    have hj1 : (j + 1) * l.length = j * l.length + l.length := Nat.succ_mul _ _
    refine ev_step (fun k => by simp only [dancestudioref35_Leaves.l1] <;> exact rfl) (ev_pos (by omega) ?_)
    refine rl2_ev hs h0 hx0 hl l.length 0 _ (Nat.zero_add _) (by omega) (fun x hx => hi x hx) (fun ho => ?_) (fun ho => ?_)
    · rw [List.drop_zero] at ho
      rw [if_pos (.inl ⟨ho, by omega⟩)]
    · rw [List.drop_zero] at ho ⊢
      have hlen : ((repL j (l.map (undL s)) ++ l.map (undL s)).map t72).length = j * l.length + l.length := by rw [List.length_map, List.length_append, hrl, List.length_map]
      refine ev_step (fun k => by simp only [dancestudioref35_Leaves.l2] <;> exact rfl) (ev_neg (by rw [List.length_map]; omega) ?_)
      refine ev_ite (fun h => ev_eq (ev_now _) ?_) (fun h => ?_)
      · rw [hlen] at h
        rw [if_pos (.inr (by omega))]
      · rw [hlen] at h
        have er : repL j (l.map (undL s)) ++ l.map (undL s) = repL (j + 1) (l.map (undL s)) := by
          have : ∀ (j : Nat) (m : List S63), repL j m ++ m = repL (j + 1) m := by
            intro j m
            induction j with
            | zero => simp [repL]
            | succ j ih =>
              show (m ++ repL j m) ++ m = m ++ repL (j + 1) m
              rw [List.append_assoc, ih]
          exact this j _
        rw [er, w64 (by omega) (by omega), show (j : Int) + 1 = ((j + 1 : Nat) : Int) by omega]
        refine ev_eq (rl1_ev hl hi h1 N hN d (j + 1) (by omega) (by omega)) ?_
        by_cases hb : N * l.length > 64
        · rw [if_pos (.inr hb), if_pos (.inr hb)]
        · rw [if_neg (by rintro (q | q); exact ho q.1; exact hb q), if_neg (by rintro (q | q); exact ho q.1; exact hb q)]
theorem repL_map (f : S63 → S63) : ∀ (n : Nat) (l : List S63), (repL n l).map f = repL n (l.map f)
  | 0, l => rfl
  | n + 1, l => by rw [repL, List.map_append, repL_map f n l, repL]
theorem ovr7 (h7 : s.f0 = 7) {l : List S63} (hi : ∀ x, x ∈ l → Inv x) : ovr s l = false := by
  have hu : ∀ x, undL s x = x := fun x => by unfold undL; rw [if_neg (by omega), if_neg (by omega), if_neg (by omega), if_neg (by omega)]
  cases hq : ovr s l with
  | false => rfl
  | true =>
    unfold ovr at hq
    rw [List.any_eq_true] at hq
    obtain ⟨x, hx, hd⟩ := hq
    have := of_decide_eq_true hd
    rw [hu] at this
    have := (hi x hx).2.2.2.2.1
    omega
theorem rj1_ev {out : List S63} (hn : out.length ≤ 6400) (hi : ∀ x, x ∈ out → Inv x) (h1 : 1 ≤ out.length) {N : Nat} (hN : N ≤ 16) : Ev (fun k => dancestudioref35_Leaves.j1 k x0 (out.map t72) (N : Int)) (if (ovr s (rev4 s out) = true ∧ 1 ≤ N) ∨ N * out.length > 64 then noL else ((repL N ((rev4 s out).map (undL s))).map t72, true)) := by
  have r1 : (rev4 s out).length = out.length := by unfold rev4; split <;> simp
  have r2 : ∀ x, x ∈ rev4 s out → x ∈ out := by unfold rev4; intro x hx; split at hx <;> simpa using hx
  have j2 : Ev (fun k => dancestudioref35_Leaves.j2 k x0 ((rev4 s out).map t72) (N : Int)) (if (ovr s (rev4 s out) = true ∧ 1 ≤ N) ∨ N * out.length > 64 then noL else ((repL N ((rev4 s out).map (undL s))).map t72, true)) := by
    refine ev_step (fun k => by simp only [dancestudioref35_Leaves.j2] <;> exact rfl) ?_
    have := rl1_ev hs h0 hx0 (l := rev4 s out) (by omega) (fun x hx => hi x (r2 x hx)) (by omega) N hN N 0 (Nat.zero_add _) (by omega)
    rw [r1] at this
    exact this
  refine ev_step (fun k => by simp only [dancestudioref35_Leaves.j1] <;> exact rfl) (ev_pos (by omega) ?_)
  rw [h0]
  by_cases h4 : s.f0 = 4
  · have e : rev4 s out = out.reverse := if_pos h4
    rw [e] at j2 ⊢
    exact ev_pos h4 (Ev.bind (turn_ev out (by omega)) j2)
  · have e : rev4 s out = out := if_neg h4
    rw [e] at j2 ⊢
    exact ev_neg h4 j2
theorem rfin_ev {out : List S63} {L : List (List S43)} (hL : L.length ≤ 1000) (hn : out.length ≤ 6400) (hi : ∀ x, x ∈ out → Inv x) (h1 : 1 ≤ out.length) : Ev (fun k => dancestudioref35_Leaves.l0 k x0 (out.map t72) L (L.length : Int)) (refV (finL s out)) := by
  have r1 : (rev4 s out).length = out.length := by unfold rev4; split <;> simp
  have r2 : ∀ x, x ∈ rev4 s out → x ∈ out := by unfold rev4; intro x hx; split at hx <;> simpa using hx
  refine ev_step (fun k => by simp only [dancestudioref35_Leaves.l0] <;> exact rfl) (ev_neg (by omega) (ev_pos (by omega) ?_))
  rw [h0]
  unfold finL refV
  by_cases h7 : s.f0 = 7
  · have hr := hs.2.2.2.1.2.1 (.inr h7)
    obtain ⟨N, hN⟩ := Int.eq_ofNat_of_zero_le (show 0 ≤ s.f2 by omega)
    have hN' : s.f2 = (N : Int) := hN
    have ho := ovr7 hs h0 hx0 h7 (l := rev4 s out) (fun x hx => hi x (r2 x hx))
    refine ev_pos h7 ?_
    rw [hN']
    refine ev_eq (rj1_ev hs h0 hx0 hn hi h1 (N := N) (by omega)) ?_
    have hm : ((out.length : Int) * (N : Int) > 64) ↔ N * out.length > 64 := by
      rw [Int.mul_comm, ← Int.natCast_mul]; omega
    by_cases hb : N * out.length > 64
    · have hc : s.f0 = 7 ∧ (out.length : Int) * (N : Int) > 64 := ⟨h7, hm.2 hb⟩
      rw [if_pos (.inr hb), if_pos hc, if_neg (fun q => by cases q)]
    · rw [if_neg (by rintro (q | q); rw [ho] at q; exact absurd q.1 (by decide); exact hb q), if_neg (show ¬ (s.f0 = 7 ∧ (out.length : Int) * (N : Int) > 64) from fun q => hb (hm.1 q.2))]
      have er : rep7 s (rev4 s out) = repL N (rev4 s out) := by unfold rep7; rw [if_pos h7, hN']; rfl
      have ho2 := ovr7 hs h0 hx0 h7 (l := repL N (rev4 s out)) (fun x hx => hi x (r2 x (repL_mem hx)))
      have ee : endL s (repL N (rev4 s out)) = ((repL N (rev4 s out)).map (undL s), true) := by
        have hf : ¬ (false = true) := fun q => by cases q
        unfold endL
        rw [ho2, if_neg hf, repL_len, r1, decide_eq_true (by omega)]
      rw [er, ee, if_pos (show true = true from rfl), repL_map hs h0 hx0]
  · have er : rep7 s (rev4 s out) = rev4 s out := if_neg h7
    refine ev_neg h7 (ev_eq (rj1_ev hs h0 hx0 hn hi h1 (N := 1) (by omega)) ?_)
    rw [if_neg (show ¬ (s.f0 = 7 ∧ (out.length : Int) * s.f2 > 64) from fun q => h7 q.1), er]
    unfold endL
    rw [r1, Nat.one_mul]
    have e1 : repL 1 ((rev4 s out).map (undL s)) = (rev4 s out).map (undL s) := by simp [repL]
    rw [e1]
    by_cases ho : ovr s (rev4 s out) = true
    · rw [if_pos (.inl ⟨ho, Nat.le_refl _⟩), if_pos ho, if_neg (fun q => by cases q)]
    · rw [if_neg ho]
      by_cases hb : out.length > 64
      · rw [if_pos (.inr hb), decide_eq_false (by omega), if_neg (fun q => by cases q)]
      · rw [if_neg (by rintro (q | q); exact ho q.1; exact hb q), decide_eq_true (by omega), if_pos rfl]
end
abbrev RL (t : List S43) (v : List S63 × Bool) : Prop := Ev (fun n => dancestudioref35_Leaves.f n t) (refV v)
theorem rl_loop {s : S43} {x0 : List S43} (hs : isOp s) (h0 : rd_T43 x0 0 = s) (hx0 : 0 < x0.length) {L : List (List S43)} (hL : L.length ≤ 100) : ∀ (l : List (List S43)) (vs : List (List S63 × Bool)), All2 RL l vs → (∀ v, v ∈ vs → GoodL v) → ∀ (acc : List S63) (i : Nat), L.drop i = l → i + l.length = L.length → acc.length ≤ 64 * i → i ≤ acc.length → 1 ≤ L.length → (∀ x, x ∈ acc → Inv x) →
    Ev (fun k => dancestudioref35_Leaves.l0 k x0 (acc.map t72) L (i : Int)) (if vs.all (·.2) = true then refV (finL s (acc ++ catL vs)) else noL)
  | [], [], _, _, acc, i, hd, hi, ha, hb, h1, hx => by
    simp only [List.length_nil, Nat.add_zero] at hi
    rw [hi, if_pos (by simp), show acc ++ catL [] = acc by simp [catL]]
    exact rfin_ev hs h0 hx0 (by omega) (by omega) hx (by omega)
  | t :: l, v :: vs, h, hg, acc, i, hd, hi, ha, hb, h1', hx => by
    obtain ⟨hp, h1, h2⟩ := rdL3_drop hd
    refine ev_step (fun k => by simp only [dancestudioref35_Leaves.l0] <;> exact rfl) (ev_pos (by omega) (ev_pos (by omega) ?_))
    rw [h1]
    refine Ev.bind h.1 ?_
    unfold refV
    by_cases hq : v.2 = true
    · obtain ⟨g1, g2, g3⟩ := hg v (by simp) hq
      rw [if_pos hq]
      refine ev_pos (show true = true from rfl) (ev_pos (by rw [List.length_map, List.length_map]; omega) ?_)
      rw [w64 (by omega) (by omega), show (i : Int) + 1 = ((i + 1 : Nat) : Int) by omega, show acc.map t72 ++ v.1.map t72 = (acc ++ v.1).map t72 by simp]
      have := rl_loop hs h0 hx0 hL l vs h.2 (fun w hw => hg w (by simp [hw])) (acc ++ v.1) (i + 1) h2 (by simp only [List.length_cons] at hi; omega) (by rw [List.length_append]; omega) (by rw [List.length_append]; omega) h1' (fun x hx' => by rcases List.mem_append.1 hx' with q | q; exact hx x q; exact g1 x q)
      refine ev_eq this ?_
      have e1 : (v :: vs).all (·.2) = vs.all (·.2) := by simp [hq]
      have e2 : acc ++ catL (v :: vs) = acc ++ v.1 ++ catL vs := by simp [catL]
      rw [e1, e2]; rfl
    · rw [if_neg hq]
      exact ev_neg (by decide) (ev_eq (ev_now _) (by rw [if_neg (by simp [hq])]))
theorem rl_node {s : S43} {k : Fo} (hk : k.ok) (h3 : s.f3 = (k.count : Int)) (hs : ndE s = 0) (hkn : k.nds) (hl : k.flat.length < 64) (ih : All2 RL k.trees k.lvs) : RL (s :: k.flat) (nodeL s k.lvs) := by
  have hrd : rd_T43 (s :: k.flat) 0 = s := rfl
  refine ev_step (fun k => by simp only [dancestudioref35_Leaves.f] <;> exact rfl) (ev_pos (by simp only [List.length_cons]; omega) ?_)
  rw [hrd]
  unfold nodeL
  by_cases h : s.f0 = 1
  · rw [if_pos h]; exact ev_pos h (ev_now _)
  rw [if_neg h]
  have hop : isOp s := (ndE_iff.1 hs).resolve_left (fun q => h q.1)
  refine ev_neg h (ev_pos (by simp only [List.length_cons]; omega) ?_)
  rw [List.drop_succ_cons, List.drop_zero]
  refine Ev.bind (rarg_ev k hk (Fo.nds8 hkn) (by omega)) ?_
  have hc := Fo.count_le k
  have htl := Fo.trees_length k
  have h1c := hop.2.2.2.2.1
  refine ev_eq (rl_loop hop hrd (by simp) (by omega) k.trees k.lvs ih (Fo.lvs_good k hk hkn) [] 0 rfl (by omega) (by simp) (by omega) (by omega) (fun x hx => by cases hx)) ?_
  rw [List.nil_append]
  by_cases ha : k.lvs.all (·.2) = true
  · rw [if_pos ha, if_pos ha]
  · rw [if_neg ha, if_neg ha]; rfl
theorem rl_all : ∀ f : Fo, f.ok → f.nds → f.flat.length < 64 → All2 RL f.trees f.lvs
  | .nil, _, _, _ => trivial
  | .cons s k r, ho, hn, hl => by
    obtain ⟨h3, hk, hr⟩ := ho
    obtain ⟨hs, hkn, hrn⟩ := Fo.nds_cons hn
    simp only [Fo.flat, List.length_cons, List.length_append] at hl
    exact ⟨rl_node hk h3 hs hkn (by omega) (rl_all k hk hkn (by omega)), rl_all r hr hrn (by omega)⟩
theorem rleaves_ev {s : S43} {k : Fo} (hk : k.ok) (h3 : s.f3 = (k.count : Int)) (hs : ndE s = 0) (hkn : k.nds) (hl : k.flat.length < 64) : Ev (fun n => dancestudioref35_Leaves.f n (s :: k.flat)) (refV (nodeL s k.lvs)) := rl_node hk h3 hs hkn hl (rl_all k hk hkn hl)
def iL (l : List Nat) : List Int := l.reverse.map (fun n : Nat => (n : Int))
theorem iL_cons (d : Nat) (l : List Nat) : iL (d :: l) = iL l ++ [(d : Int)] := by unfold iL; simp
section
variable (x : S63) {e : List S43} {v : List S43} (he : e.length ≤ 1000)
include he
theorem rw_l1 : ∀ (f d r : Nat) (acc : List Nat), 2 ≤ d → d ≤ 16 → 1 ≤ r → r < 2 ^ f → r < 100000 → acc.length + f ≤ 1000 →
    Ev (fun k => dancestudioref35_written.l0 k e (iL (dvl f d r acc).1) ((dvl f d r acc).2 : Int) ((d : Int) - 1) x.f0 x.f1 x.f2 x.f3 x.f4) v →
    Ev (fun k => dancestudioref35_written.l1 k e (iL acc) (r : Int) (d : Int) x.f0 x.f1 x.f2 x.f3 x.f4) v
  | 0, d, r, acc, hd, hd2, h1, h2, hb, hl, ev => by simp at h2; omega
  | f + 1, d, r, acc, hd, hd2, h1, h2, hb, hl, ev => by
    have hm : Int.tmod (r : Int) (d : Int) = ((r % d : Nat) : Int) := by rw [Int.tmod_eq_emod_of_nonneg (by omega)]; rfl
    have ht : Int.tdiv (r : Int) (d : Int) = ((r / d : Nat) : Int) := by rw [Int.tdiv_eq_ediv_of_nonneg (by omega)]; rfl
    have hdl : r / d ≤ r := Nat.div_le_self r d
    have hq0 : (0 : Int) ≤ ((r / d : Nat) : Int) := Int.natCast_nonneg _
    have hq1 : ((r / d : Nat) : Int) ≤ (r : Int) := Int.ofNat_le.2 hdl
    have hil : (iL acc).length = acc.length := by unfold iL; simp
    refine ev_step (fun k => by simp only [dancestudioref35_written.l1] <;> exact rfl) (ev_neg (by omega) ?_)
    rw [hm, ht, w64 (n := ((r / d : Nat) : Int)) (by omega) (by omega), w64 (n := (d : Int) - 1) (by omega) (by omega)]
    unfold dvl at ev
    by_cases h : r % d = 0
    · rw [if_pos h] at ev
      have hq : d * (r / d) = r := Nat.mul_div_cancel' (Nat.dvd_of_mod_eq_zero h)
      have hr1 : 1 ≤ r / d := by
        apply Nat.one_le_iff_ne_zero.2; intro q; rw [q] at hq; omega
      have hr2 : r / d < 2 ^ f := by
        have : 2 * (r / d) ≤ d * (r / d) := Nat.mul_le_mul_right _ hd
        rw [Nat.pow_succ] at h2; omega
      refine ev_pos (by omega) (ev_pos (by rw [hil]; omega) ?_)
      rw [← iL_cons]
      exact rw_l1 f d (r / d) (d :: acc) hd hd2 hr1 hr2 (by omega) (by simp only [List.length_cons]; omega) ev
    · rw [if_neg h] at ev
      exact ev_neg (by omega) ev
theorem rw_l0 : ∀ (m r : Nat) (acc : List Nat), m ≤ 15 → 1 ≤ r → r < 2 ^ 14 → acc.length + 14 * m ≤ 900 →
    Ev (fun k => dancestudioref35_written.l0 k e (iL (fac m r acc).1) ((fac m r acc).2 : Int) 1 x.f0 x.f1 x.f2 x.f3 x.f4) v →
    Ev (fun k => dancestudioref35_written.l0 k e (iL acc) (r : Int) ((m + 1 : Nat) : Int) x.f0 x.f1 x.f2 x.f3 x.f4) v
  | 0, r, acc, hm, h1, h2, hl, ev => ev
  | m + 1, r, acc, hm, h1, h2, hl, ev => by
    obtain ⟨a1, a2, a3, a4, a5, a6⟩ := dvl_ok 14 (m + 2) r acc (by omega) h1 h2
    have hle : (dvl 14 (m + 2) r acc).2 ≤ r := Nat.le_of_dvd h1 a3
    refine ev_step (fun k => by simp only [dancestudioref35_written.l0] <;> exact rfl) (ev_pos (by omega) ?_)
    refine rw_l1 x he 14 (m + 2) r acc (by omega) (by omega) h1 h2 (by omega) (by omega) ?_
    rw [show ((m + 2 : Nat) : Int) - 1 = ((m + 1 : Nat) : Int) by omega]
    exact rw_l0 m _ _ (by omega) a2 (by omega) (by omega) ev
end
theorem rw_l2 (x : S63) (l : List Int) (hl : l.length ≤ 1000) : ∀ (i : Nat) (e : List S43), i ≤ l.length → e.length + i ≤ 5000 → Ev (fun k => dancestudioref35_written.l2 k e l ((i : Int) - 1) x.f0 x.f1 x.f2 x.f3 x.f4) (e ++ (l.take i).reverse.map (fun n => un 6 n) ++ [nm63 x])
  | 0, e, hi, he => by
    refine ev_step (fun k => by simp only [dancestudioref35_written.l2] <;> exact rfl) (ev_neg (by omega) (ev_pos (by omega) (ev_eq (ev_now _) ?_)))
    simp [nm63]
  | i + 1, e, hi, he => by
    have hlt : i < l.length := by omega
    have e1 : ((i + 1 : Nat) : Int) - 1 = (i : Int) := by omega
    have er : rd l (i : Int) = l[i] := by unfold rd; rw [Int.toNat_natCast, List.getD_eq_getElem?_getD, List.getElem?_eq_getElem hlt]; rfl
    rw [e1]
    refine ev_step (fun k => by simp only [dancestudioref35_written.l2] <;> exact rfl) (ev_pos (by omega) (ev_pos (by omega) (ev_pos (by omega) (ev_pos (by omega) ?_))))
    rw [er, w64 (by omega) (by omega)]
    refine ev_eq (rw_l2 x l hl i (e ++ [un 6 l[i]]) (by omega) (by rw [List.length_append, List.length_singleton]; omega)) ?_
    rw [List.take_succ_eq_append_getElem hlt, List.reverse_append]
    simp
theorem rwritten_ev (x : S63) (hx : Inv x) : Ev (fun k => dancestudioref35_written.f k x.f0 x.f1 x.f2 x.f3 x.f4) (wrN x) := by
  have hfl := facs_len x hx
  obtain ⟨a1, a2, a3, a4, a5, a6⟩ := hx
  obtain ⟨f, hf4⟩ : ∃ f : Nat, x.f4 = (f : Int) := ⟨x.f4.toNat, by omega⟩
  have hft : x.f4.toNat = f := by omega
  obtain ⟨fs, r, hfac⟩ : ∃ (fs : List Nat) (r : Nat), fac 15 f [] = (fs, r) := ex_pair _
  have e1 : facs x = fs := by unfold facs; rw [hft, hfac]
  have hil : (iL fs).length = fs.length := by unfold iL; simp
  have j2 : ∀ e : List S43, e.length ≤ 10 → Ev (fun k => dancestudioref35_written.j2 k e x.f0 x.f1 x.f2 x.f3 x.f4) (e ++ (facs x).map stN ++ [nm63 x]) := by
    intro e he
    refine ev_step (fun k => by simp only [dancestudioref35_written.j2] <;> exact rfl) ?_
    have := rw_l0 x (e := e) (v := e ++ (facs x).map stN ++ [nm63 x]) (by omega) 15 f [] (by omega) (by omega) (by omega) (by simp) (by
      rw [hfac]
      refine ev_step (fun k => by simp only [dancestudioref35_written.l0] <;> exact rfl) (ev_neg (by omega) ?_)
      rw [w64 (by rw [hil]; omega) (by rw [hil, ← e1]; omega)]
      refine ev_eq (rw_l2 x (iL fs) (by rw [hil, ← e1]; omega) (iL fs).length e (Nat.le_refl _) (by rw [hil, ← e1]; omega)) ?_
      rw [List.take_length, e1]
      unfold iL
      rw [← List.map_reverse, List.reverse_reverse, List.map_map]
      rfl)
    rw [← hf4, show (((15 + 1 : Nat)) : Int) = 16 from rfl, show iL [] = [] from rfl] at this
    exact this
  have j1 : ∀ e : List S43, e.length ≤ 5 → Ev (fun k => dancestudioref35_written.j1 k e x.f0 x.f1 x.f2 x.f3 x.f4) (e ++ (if x.f3 = true then [un 4 0] else []) ++ (facs x).map stN ++ [nm63 x]) := by
    intro e he
    refine ev_step (fun k => by simp only [dancestudioref35_written.j1] <;> exact rfl) ?_
    by_cases h3 : x.f3 = true
    · rw [if_pos h3]
      exact ev_pos h3 (ev_pos (by omega) (j2 _ (by rw [List.length_append, List.length_singleton]; omega)))
    · rw [if_neg h3, List.append_nil]; exact ev_neg h3 (j2 _ (by omega))
  have j0 : ∀ e : List S43, e.length ≤ 2 → Ev (fun k => dancestudioref35_written.j0 k e x.f0 x.f1 x.f2 x.f3 x.f4) (e ++ (if x.f2 = true then [un 3 0] else []) ++ (if x.f3 = true then [un 4 0] else []) ++ (facs x).map stN ++ [nm63 x]) := by
    intro e he
    refine ev_step (fun k => by simp only [dancestudioref35_written.j0] <;> exact rfl) ?_
    by_cases h2 : x.f2 = true
    · rw [if_pos h2]
      exact ev_pos h2 (ev_pos (by omega) (j1 _ (by rw [List.length_append, List.length_singleton]; omega)))
    · rw [if_neg h2, List.append_nil]; exact ev_neg h2 (j1 _ (by omega))
  unfold dancestudioref35_written.f wrN opsN hdN
  by_cases h1 : x.f1 > 0
  · rw [if_pos h1]
    refine ev_pos h1 (ev_pos (by simp) (ev_eq (j0 _ (by simp)) ?_))
    simp only [List.append_assoc, List.nil_append]; rfl
  · rw [if_neg h1]
    refine ev_neg h1 (ev_eq (j0 _ (by simp)) ?_)
    simp only [List.append_assoc, List.nil_append]
theorem whole_l0 {L : List (List S43)} (hL : L.length ≤ 1000) : ∀ (d : Nat) (i : Nat) (acc : List S43), i + d = L.length → acc.length + (L.drop i).flatten.length ≤ 1000000 → Ev (fun k => dancestudioref35_whole.l0 k L acc (i : Int)) (acc ++ (L.drop i).flatten)
  | 0, i, acc, hi, hl => by
    rw [List.drop_eq_nil_of_le (by omega), List.flatten_nil, List.append_nil]
    exact ev_step (fun k => by simp only [dancestudioref35_whole.l0] <;> exact rfl) (ev_neg (by omega) (ev_now _))
  | d + 1, i, acc, hi, hl => by
    have hlt : i < L.length := by omega
    obtain ⟨hp, h1, h2⟩ := rdL3_drop (List.drop_eq_getElem_cons hlt)
    rw [List.drop_eq_getElem_cons hlt, List.flatten_cons, List.length_append] at hl
    refine ev_step (fun k => by simp only [dancestudioref35_whole.l0] <;> exact rfl) (ev_pos (by omega) (ev_pos (by omega) ?_))
    rw [h1, w64 (by omega) (by omega), show (i : Int) + 1 = ((i + 1 : Nat) : Int) by omega]
    refine ev_pos (by omega) (ev_eq (whole_l0 hL d (i + 1) (acc ++ L[i]) (by omega) (by rw [List.length_append]; omega)) ?_)
    rw [List.drop_eq_getElem_cons hlt, List.flatten_cons, List.append_assoc]
theorem whole_small {l : List (List S43)} (h1 : 1 ≤ l.length) (h8 : l.length ≤ 8) (hf : l.flatten.length ≤ 90000) : Ev (fun k => dancestudioref35_whole.f k l) (seq1 l) := by
  by_cases h : l.length = 1
  · obtain ⟨c, rfl⟩ := List.length_eq_one_iff.1 h
    exact ev_step (fun k => by simp only [dancestudioref35_whole.f] <;> exact rfl) (ev_pos (by simp) (ev_pos (by simp) (ev_now _)))
  · rw [seq1_big h]
    refine ev_step (fun k => by simp only [dancestudioref35_whole.f] <;> exact rfl) (ev_neg (by omega) (ev_pos (by omega) ?_))
    exact ev_eq (whole_l0 (by omega) l.length 0 _ (Nat.zero_add _) (by rw [List.drop_zero]; simp only [List.length_singleton]; omega)) (by rw [List.drop_zero]; rfl)
theorem whole_l1 {l : List (List S43)} (hl : l.length ≤ 64) (hf : l.flatten.length ≤ 90000) {v : List S43} : ∀ (n i : Nat) (acc : List (List S43)), l.length ≤ i + 8 * n → i ≤ 100 → acc.length ≤ i → Ev (fun k => dancestudioref35_whole.f k (acc ++ grp n (l.drop i))) v → Ev (fun k => dancestudioref35_whole.l1 k l acc (i : Int)) v
  | 0, i, acc, hi, hb, ha, e => by
    rw [grp, List.append_nil] at e
    exact ev_step (fun k => by simp only [dancestudioref35_whole.l1] <;> exact rfl) (ev_neg (by omega) (Ev.bind e (ev_now _)))
  | n + 1, i, acc, hi, hb, ha, e => by
    by_cases h : i < l.length
    · have hdl : (l.drop i).length = l.length - i := List.length_drop
      rw [grp, if_neg (by rw [hdl]; omega), List.drop_drop] at e
      have hm : mn ((i : Int) + 8) (l.length : Int) = ((min (i + 8) l.length : Nat) : Int) := by unfold mn; split <;> omega
      refine ev_step (fun k => by simp only [dancestudioref35_whole.l1] <;> exact rfl) (ev_pos (by omega) (ev_pos (by omega) ?_))
      rw [w64 (n := (i : Int) + 8) (by omega) (by omega), hm]
      refine ev_pos (by omega) (ev_pos (by omega) ?_)
      simp only [Int.toNat_natCast]
      have et : (l.take (min (i + 8) l.length)).drop i = (l.drop i).take 8 := by
        rw [List.drop_take]
        by_cases h8 : i + 8 ≤ l.length
        · rw [show min (i + 8) l.length - i = 8 by omega]
        · rw [List.take_of_length_le (by omega), List.take_of_length_le (by omega)]
      rw [et, show (i : Int) + 8 = ((i + 8 : Nat) : Int) by omega]
      have hcl : ((l.drop i).take 8).length = min 8 (l.length - i) := by rw [List.length_take, hdl]
      have hfl : ((l.drop i).take 8).flatten.length ≤ 90000 := Nat.le_trans (flat_take _ _) (Nat.le_trans (flat_drop _ _) hf)
      refine Ev.bind (whole_small (by omega) (by omega) hfl) (ev_pos (by omega) ?_)
      exact whole_l1 hl hf n (i + 8) (acc ++ [_]) (by omega) (by omega) (by rw [List.length_append, List.length_singleton]; omega) (by rw [List.append_assoc]; exact e)
    · have hd : l.drop i = [] := List.drop_eq_nil_of_le (by omega)
      rw [hd, grp, if_pos (show ([] : List (List S43)).length = 0 from rfl), List.append_nil] at e
      exact ev_step (fun k => by simp only [dancestudioref35_whole.l1] <;> exact rfl) (ev_neg (by omega) (Ev.bind e (ev_now _)))
theorem whole_ev {l : List (List S43)} (h1 : 1 ≤ l.length) (h64 : l.length ≤ 64) (hf : l.flatten.length ≤ 80000) : Ev (fun k => dancestudioref35_whole.f k l) (oneV l) := by
  unfold oneV
  by_cases h8 : l.length ≤ 8
  · rw [if_pos h8]; exact whole_small h1 h8 (by omega)
  · rw [if_neg h8]
    have g := grp_len 8 l
    have g2 := g.2 (by omega)
    have gf := grp_flat 8 l
    refine ev_step (fun k => by simp only [dancestudioref35_whole.f] <;> exact rfl) (ev_neg (by omega) (ev_neg (by omega) ?_))
    refine whole_l1 h64 (by omega) 8 0 [] (by omega) (by omega) (by simp) ?_
    rw [List.drop_zero, List.nil_append]
    exact whole_small (by omega) g.1 (by omega)
theorem rnorm_l0 {lv : List S63} (h64 : lv.length ≤ 64) (h1 : 1 ≤ lv.length) (hi : ∀ x, x ∈ lv → Inv x) : ∀ (d i : Nat) (acc : List (List S43)), i + d = lv.length → acc = (lv.take i).map wrN →
    Ev (fun k => dancestudioref35_Norm.l0 k (lv.map t72) acc (i : Int)) (endV (oneV (lv.map wrN)))
  | 0, i, acc, h, ha => by
    have e : acc = lv.map wrN := by rw [ha, List.take_of_length_le (by omega)]
    subst e
    have hpf := parts_flat lv hi
    refine ev_step (fun k => by simp only [dancestudioref35_Norm.l0] <;> exact rfl) (ev_neg (by rw [List.length_map]; omega) (Ev.bind (whole_ev (by rw [List.length_map]; omega) (by rw [List.length_map]; omega) (by omega)) ?_))
    unfold endV
    refine ev_ite (fun h => ev_eq (ev_now _) (by rw [if_pos h])) (fun h => ?_)
    simp only [Option.bind_some]
    refine ev_pos (by simp only [List.length_nil]; omega) (ev_eq (ev_now _) (by rw [if_neg h, List.nil_append]))
  | d + 1, i, acc, h, ha => by
    have hlt : i < lv.length := by omega
    have hal : acc.length ≤ 64 := by rw [ha, List.length_map, List.length_take]; omega
    refine ev_step (fun k => by simp only [dancestudioref35_Norm.l0] <;> exact rfl) (ev_pos (by rw [List.length_map]; omega) (ev_pos (by omega) ?_))
    rw [rd72 lv hlt, w64 (by omega) (by omega), show (i : Int) + 1 = ((i + 1 : Nat) : Int) by omega]
    refine Ev.bind (rwritten_ev lv[i] (hi _ (List.getElem_mem hlt))) (ev_pos (by omega) ?_)
    refine rnorm_l0 h64 h1 hi d (i + 1) _ (by omega) ?_
    rw [List.take_succ_eq_append_getElem hlt, List.map_append, ha]; rfl
theorem rnorm_tree {s : S43} {k : Fo} (hk : k.ok) (h3 : s.f3 = (k.count : Int)) (hs : ndE s = 0) (hkn : k.nds) (hl : k.flat.length < 64) : Ev (fun n => dancestudioref35_Norm.f n (s :: k.flat)) (nrmV (nodeL s k.lvs)) := by
  have g := (leaves_ev hk h3 hs hkn (by omega)).2
  have e := rleaves_ev hk h3 hs hkn hl
  unfold dancestudioref35_Norm.f nrmV
  refine Ev.bind (rchk_ev _) (ev_pos (chk_tree s k hk h3 hs hkn hl) (Ev.bind e ?_))
  unfold refV
  by_cases h : (nodeL s k.lvs).2 = true
  · obtain ⟨g1, g2, g3⟩ := g h
    rw [if_pos h, if_pos h]
    exact ev_pos (show true = true from rfl) (rnorm_l0 g2 g3 g1 _ 0 [] (Nat.zero_add _) rfl)
  · rw [if_neg h, if_neg h]
    exact ev_neg (fun q => by cases q) (ev_now _)
theorem rnorm_bad {l : List S43} (h : chkE l ≠ 0) : Ev (fun n => dancestudioref35_Norm.f n l) ([], chkE l) := by
  unfold dancestudioref35_Norm.f
  exact Ev.bind (rchk_ev _) (ev_neg h (ev_now _))
theorem pure_LangForms (l : List S43) (_ : l.length ≤ maxLen) (_ : ∀ a ∈ l, True) : ∃ k, dancestudiolaw35_LangForms.f k l = some true := by
  apply Ev.rounds
  unfold dancestudiolaw35_LangForms.f
  obtain ⟨b, _, hb⟩ := short_ev l
  refine Ev.bind hb (ev_ite (fun h => ?_) (fun h => awake_out))
  have fin : ∀ v : List S43 × Int, v.1.length ≤ 64 → Ev (fun k => lang_Norm.f k l) v → Ev (fun k => dancestudioref35_Norm.f k l) v → Ev (fun k => (lang_Norm.f k l).bind fun bt740 => ((dancestudioref35_Norm.f k l).bind fun bt744 => ((dancestudioref35_Same.f k bt740.1 bt744.1).bind fun t748 => (if t748 = true then (if bt740.2 = bt744.2 then ((dancestudiolaw35_awake.f k).bind fun t749 => (some t749)) else (none)) else (none))))) true := fun v hv p r =>
    Ev.bind p (Ev.bind r (Ev.bind (same_ev v.1 (by omega)) (ev_pos (show true = true from rfl) (ev_pos rfl awake_out))))
  by_cases hc : chkE l = 0
  · obtain ⟨s, k, rfl, hk, h3, hs, hkn, hlen⟩ := tree_of hc
    exact fin _ (nrmV_len _) (norm_tree hk h3 hs hkn hlen) (rnorm_tree hk h3 hs hkn hlen)
  · exact fin _ (by simp) (norm_bad hc) (rnorm_bad hc)
end Go.Proofs.YtimikhbnihedkaaDoor.PAll
