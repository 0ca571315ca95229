/- One more word: a step of a guarded operation that is not wanted. -/
import Derived.Test.YtjppjppapdflmaaRMi
namespace Go.Proofs.YtjppjppapdflmaaW.PrintLast
open Go Go.RowKit Go.Proofs.YtjppjppapdflmaaW.PrintWords
section
variable {P : Program} {md : Region.Mode} {ops : Array Oper} {Q : Exit → Act → World → Prop} {S : World → Prop} {ds : List Nat} {T : Bool × List (List Nat × List Nat)} {oi : Oper} {fuel : Nat} {l : Array Bool} {a a' : Act} {w : World}
theorem uM {l' : Array Bool} (i n : Nat) (hT : Aside0 (rtab md ops = T)) (h : wpAnyLast P md ops Q S ds fuel l' a' w) (hl : nxt l i = l' := by (simp only [nxt, List.toList_toArray, List.set_cons_zero, List.set_cons_succ]); rfl) (hi : ops[i]? = some oi := by exact rfl) (hN : oi.dst = some n := by exact rfl) (hc : anyT T l.toList l'.toList i = true := by kernel_rfl)
    (hQ : ∀ c a w, Q (.panic c) (a.put oi.dst undef) w → Q (.panic c) a w := by exact fun _ _ _ h => h) (hw : Region.wanted oi (yielded ops a.tmps) = false := by rfl) (ha : a.put (some n) undef = a' := by (simp only [Act.put, List.setIfInBounds_toArray, List.set_cons_zero, List.set_cons_succ, i64_w, i32_w]); rfl) : wpAnyLast P md ops Q S ds (fuel + 1) l a w :=
  have _ := hl; pure_ _ hi hN (any_of hT.out hc) hQ (Or.inr ⟨hw, rfl⟩) ha h
end
end Go.Proofs.YtjppjppapdflmaaW.PrintLast
