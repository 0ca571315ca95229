/- Texts of the proof, laid end to end. -/
import Derived.Test.YtjppjppapdflmaaKw1
/- Small words for facts that a walk carries on. -/
namespace Go.Proofs.YtjppjppapdflmaaW.PrintWords
open Go Go.RowKit
theorem mBb {w w1 : World} {g : Nat} {o : Obj} (h : Aside0 (w.heap[g]? = some o)) (hb : Below w.heap.size w w1) : Aside0 (w1.heap[g]? = some o) := ⟨blk_below h.out hb⟩
theorem mNe {w : World} {g g' : Nat} {o : Obj} (h : Aside0 (w.heap[g]? = some o)) (hg : g' = w.heap.size) : Aside0 (g ≠ g') := ⟨by rw [hg]; exact Nat.ne_of_lt (blk_lt h.out)⟩
theorem mSy {g g' : Nat} (h : Aside0 (g ≠ g')) : Aside0 (g' ≠ g) := ⟨h.out.symm⟩
theorem mGw {w0 w : World} {g : Nat} (h : Aside0 (Below w0.heap.size w0 w)) (hg : g = w.heap.size) : Aside0 (w0.heap.size ≤ g) := ⟨by rw [hg]; exact below_size h.out⟩
theorem mSt {w0 w w1 : World} (h : Aside0 (Below w0.heap.size w0 w)) (hb : Below w.heap.size w w1) : Aside0 (Below w0.heap.size w0 w1) := ⟨below_step h.out hb⟩
theorem mIf {c : Prop} {_ : Decidable c} {α : Type} {A : Option α} {r : α} (H : (if c then A else none) = some r) : c ∧ A = some r := by
  by_cases h : c
  · rw [if_pos h] at H; exact ⟨h, H⟩
  · rw [if_neg h] at H; cases H
theorem mIfn {c : Prop} {_ : Decidable c} {α : Type} {A : Option α} {r : α} (H : (if c then none else A) = some r) : ¬ c ∧ A = some r := by
  by_cases h : c
  · rw [if_pos h] at H; cases H
  · rw [if_neg h] at H; exact ⟨h, H⟩
end Go.Proofs.YtjppjppapdflmaaW.PrintWords
/- Shorter words yet, for steps of a region that draws its order. -/
namespace Go.Proofs.YtjppjppapdflmaaW.PrintLast
open Go Go.RowKit Go.Proofs.YtjppjppapdflmaaW.PrintWords
theorem mP : (∀ (a : Act) (n : Tmp) (v : Value), a.put (some n) v = { a with tmps := a.tmps.setIfInBounds n v }) ∧ (∀ (a : Act) (v : Value), a.put none v = a) ∧ (∀ (l : List Value) (i : Nat) (v : Value), l.toArray.setIfInBounds i v = (l.set i v).toArray) ∧
    (∀ (x : Value) (l : List Value) (v : Value), (x :: l).set 0 v = v :: l) ∧ (∀ (x : Value) (l : List Value) (n : Nat) (v : Value), (x :: l).set (n + 1) v = x :: l.set n v) ∧ (∀ n : Int, IntKind.i64.wrap n = wrap64 n) ∧ (∀ n : Int, IntKind.i32.wrap n = wrap32 n) :=
  ⟨fun _ _ _ => rfl, fun _ _ => rfl, fun _ _ _ => List.setIfInBounds_toArray _ _ _, fun _ _ _ => rfl, fun _ _ _ _ => rfl, i64_w, i32_w⟩
section
variable {P : Program} {md : Region.Mode} {ops : Array Oper} {Q : Exit → Act → World → Prop} {S : World → Prop} {ds : List Nat} {T : Bool × List (List Nat × List Nat)} {N : Option Tmp} {oi : Oper} {v : Value} {fuel : Nat} {l : Array Bool} {a a' : Act} {w : World}
def nxt (l : Array Bool) (i : Nat) : Array Bool := (l.toList.set i true).toArray
theorem pM {l' : Array Bool} (i n : Nat) (hT : Aside0 (rtab md ops = T)) (h : wpAnyLast P md ops Q S ds fuel l' a' w) (hl : nxt l i = l' := by (simp only [nxt, List.toList_toArray, List.set_cons_zero, List.set_cons_succ]); rfl) (hi : ops[i]? = some oi := by exact rfl) (hN : oi.dst = some n := by exact rfl) (hc : anyT T l.toList l'.toList i = true := by kernel_rfl) (hQ : ∀ c a w, Q (.panic c) (a.put oi.dst v) w → Q (.panic c) a w := by exact fun _ _ _ h => h)
    (hw : Region.wanted oi (yielded ops a.tmps) = true := by rfl) (hy : ∀ w, (execOp a.eval oi).run P w = .ok (.value v) w := by intro w'; go_simp; with_reducible rfl) (ha : a.put (some n) v = a' := by (simp only [Act.put, List.setIfInBounds_toArray, List.set_cons_zero, List.set_cons_succ, i64_w, i32_w]); rfl) : wpAnyLast P md ops Q S ds (fuel + 1) l a w :=
  have _ := hl; pure_ _ hi hN (any_of hT.out hc) hQ (Or.inl ⟨hw, hy⟩) ha h
theorem tM {l' : Array Bool} {B : List Nat} (i n : Nat) (hi : ops[i]? = some oi) (hT : Aside0 (rtab md ops = T)) (hB : Aside0 (waitsOk T.2 B = true)) (hy : ∀ w, S w → (execOp a.eval oi).run P w = .ok (.value v) w) (hS : S w) (h : wpAnyLast P md ops Q S ds fuel l' a' w) (hl : nxt l i = l' := by (simp only [nxt, List.toList_toArray, List.set_cons_zero, List.set_cons_succ]); rfl) (hN : oi.dst = some n := by exact rfl)
    (hc : takeW T B ds l.toList l'.toList i = true := by kernel_rfl) (hQ : ∀ c a w, Q (.panic c) (a.put oi.dst v) w → Q (.panic c) a w := by exact fun _ _ _ h => h) (hw : Region.wanted oi (yielded ops a.tmps) = true := by rfl) (ha : a.put (some n) v = a' := by (simp only [Act.put, List.setIfInBounds_toArray, List.set_cons_zero, List.set_cons_succ, i64_w, i32_w]); rfl) : wpAnyLast P md ops Q S ds (fuel + 1) l a w :=
  have _ := hl; take_ _ hi hN (take_ofW hT.out hB.out hc) hQ (Or.inl ⟨hw, hy⟩) hS ha h
end
section
variable {f : Operand → Value} {a b c d e g h i : Operand} {a' b' c' d' e' g' h' i' : Value}
theorem mA0 : (#[] : Array Operand).map f = #[] := by simp
theorem mA1 (h1 : f a = a') : #[a].map f = #[a'] := by subst h1; simp
theorem mA2 (h1 : f a = a') (h2 : f b = b') : #[a, b].map f = #[a', b'] := by subst h1 h2; simp
theorem mA3 (h1 : f a = a') (h2 : f b = b') (h3 : f c = c') : #[a, b, c].map f = #[a', b', c'] := by subst h1 h2 h3; simp
theorem mA4 (h1 : f a = a') (h2 : f b = b') (h3 : f c = c') (h4 : f d = d') : #[a, b, c, d].map f = #[a', b', c', d'] := by subst h1 h2 h3 h4; simp
theorem mA5 (h1 : f a = a') (h2 : f b = b') (h3 : f c = c') (h4 : f d = d') (h5 : f e = e') : #[a, b, c, d, e].map f = #[a', b', c', d', e'] := by subst h1 h2 h3 h4 h5; simp
end
theorem mHx {w w' : World} {a : Addr} {v : Value} (hb : Aside0 (Below w.heap.size w w')) (h : w.cell? a = some v) : w'.cell? a = some v := (hb.out.cell (World.block_lt_of_cell? w _ h)).trans h
theorem mNo {c : Prop} [Decidable c] {α : Type} {A : Option α} {r : α} {G : Prop} (h : ¬ c) (H : (if c then A else none) = some r) : G := by rw [if_neg h] at H; cases H
theorem bO {P Q : Prop} (X : Aside0 Q) (h : Q → P := by intro hx_; (with_reducible repeat (first | refine blk_drewN ?_ _ | refine blk_drew ?_ | refine blk_alloc ?_ _)); exact hx_) : P := h X.out
theorem rO {P Q : Prop} (X : Aside0 Q) (h : Q → P := by intro hx_; (with_reducible repeat (first | apply Kd.R_alloc | apply Kd.R_drewN | apply Kd.R_drew)); exact hx_) : P := h X.out
theorem hO {P Q : Prop} (X : Aside0 Q) (h : Q → P := by intro hx_; repeat (first | (with_reducible first | exact hx_ | apply below_alloc | apply pw_below_drewN | apply below_drew1 | refine below_set ?_ (Aside0.out (by assumption))) | exact hx_)) : P := h X.out
theorem mSx {w0 w w1 w2 : World} (X : Aside0 (Below w0.heap.size w0 w)) (hb : Below w2.heap.size w2 w1) (h : Below w0.heap.size w0 w → Below w0.heap.size w0 w2 := by intro hx_; repeat (first | (with_reducible first | exact hx_ | apply below_alloc | apply pw_below_drewN | apply below_drew1 | refine below_set ?_ (Aside0.out (by assumption))) | exact hx_)) : Aside0 (Below w0.heap.size w0 w1) := ⟨below_step (h X.out) hb⟩
theorem mGx {w0 w w2 : World} {g : Nat} (X : Aside0 (Below w0.heap.size w0 w)) (hg : g = w2.heap.size) (h : Below w0.heap.size w0 w → Below w0.heap.size w0 w2 := by intro hx_; repeat (first | (with_reducible first | exact hx_ | apply below_alloc | apply pw_below_drewN | apply below_drew1 | refine below_set ?_ (Aside0.out (by assumption))) | exact hx_)) : Aside0 (w0.heap.size ≤ g) := ⟨by rw [hg]; exact below_size (h X.out)⟩
theorem cO {P Q : Prop} (X : Q) (h : Q → P := by intro hx_; repeat (first | exact hx_ | (with_reducible refine Kd.C_alloc ?_ _) | (with_reducible refine Kd.C_drewN ?_ _) | (with_reducible refine Kd.C_drew ?_))) : P := h X
end Go.Proofs.YtjppjppapdflmaaW.PrintLast
