/- internal/bytealg.MaxLen holds a number: what the library's searches ask of the world, handed on. -/
import Derived.Test.YtjppjppapdflmaaKw1
import Derived.Test.YtjppjppapdflmaaLays
namespace Go.Proofs.YtjppjppapdflmaaW.PrintWords
open Go Go.RowKit
def Mx (w : World) : Prop := ∃ m, w.cell? ⟨0, 0, none⟩ = some (.int .i64 m)
theorem Mx.below {w w' : World} (h : Mx w) (hb : Below w.heap.size w w') : Mx w' := by
  obtain ⟨m, hm⟩ := h
  exact ⟨m, (hb.cell (World.block_lt_of_cell? w _ hm)).trans hm⟩
theorem Mx.drewN {w : World} {n : Nat} (h : Mx w) : Mx (w.drewN n) := h
theorem isE_ (l : List UInt8) : l.isEmpty = !(l != []) := by cases l <;> rfl
theorem Mx.drew {w : World} (h : Mx w) : Mx w.drew := h
/-- A variable of one cell in memory, and what a call has put into it: told as the world before that store. -/
theorem blk_put1 {w : World} {g t : Nat} {x u : Value} (h : w.heap[g]? = some (.cells #[x] t (0, 0))) : (w.setCell ⟨g, 0, none⟩ u).heap[g]? = some (.cells #[u] t (0, 0)) := blk_put h 0 u rfl
theorem blk_one {w : World} {g t g' t' : Nat} {cs cs' : Array Value} (h : w.heap[g]? = some (.cells cs t (0, 0))) (h' : w.heap[g']? = some (.cells cs' t' (0, 0))) (ht : t ≠ t') : g ≠ g' := fun e => by
  rw [e, h'] at h
  injection h with h
  injection h with _ h
  exact ht h.symm
theorem setCell_back {w : World} {g t : Nat} {u v : Value} (h : w.heap[g]? = some (.cells #[v] t (0, 0))) : w = (w.setCell ⟨g, 0, none⟩ u).setCell ⟨g, 0, none⟩ v := by
  have e : ((w.setCell ⟨g, 0, none⟩ u).setCell ⟨g, 0, none⟩ v).heap = w.heap := by
    refine Array.ext_getElem? fun i => ?_
    by_cases hi : i = g
    · subst hi
      rw [blk_put1 (blk_put1 h), h]
    · rw [Below.heap_setCell _ _ _ i hi, Below.heap_setCell _ _ _ i hi]
  show w = { w with heap := ((w.setCell ⟨g, 0, none⟩ u).setCell ⟨g, 0, none⟩ v).heap }
  rw [e]
theorem rne {α : Type} {d : Kd α} {e base g : Nat} {w w1 : World} {v : Value} {xs : List α} {P : Nat → Prop} {o : Obj} (h : Kd.R d e w base (fun k_ => P k_ ∨ w1.heap.size ≤ k_) v xs) (hb : Aside0 (w1.heap[g]? = some o)) (hn : Aside0 (¬ P g)) : some g ≠ v.ownBlock :=
  fun e_ => (h.1 g e_.symm).elim hn.out (fun h_ => Nat.lt_irrefl _ (Nat.lt_of_lt_of_le (blk_lt hb.out) h_))
theorem out_view {w0 w W : World} {E E' : Ending} {g t : Nat} {u : Value} {o : Nat → Prop} {xs : List Int}
    (h : ∃ v : Value, (E = E' ∧ W.heap[g]? = some (.cells #[v] t (0, 0))) ∧ Kd.R (Kd.int .i64) 3 W w0.heap.size (fun k_ => (o k_ ∨ k_ = g) ∨ w.heap.size ≤ k_) v xs ∧ Below w0.heap.size w0 W ∧ Kept w W (fun k_ => o k_ ∨ k_ = g))
    (hw : w.heap[g]? = some (.cells #[u] t (0, 0))) (hg : w0.heap.size ≤ g) (ht : 3 ≠ t) :
    ∃ (v : Value) (wv : World), (E = E' ∧ W = wv.setCell ⟨g, 0, none⟩ v) ∧ Kd.R (Kd.int .i64) 3 wv w0.heap.size (fun k_ => o k_ ∨ w.heap.size ≤ k_) v xs ∧ Below w0.heap.size w0 wv ∧ Kept w wv o := by
  obtain ⟨v, ⟨he, hW⟩, hR, hB, hK⟩ := h
  have hlt := blk_lt hw
  refine ⟨v, W.setCell ⟨g, 0, none⟩ u, ⟨he, setCell_back hW⟩, ?_, hB.setCell hg _, ?_, ?_⟩
  · refine Kd.R_mono (Kd.R_far (p := ⟨g, 0, none⟩) (Kd.R_types hR hW (fun q hq => by
      have : q = 3 := by simpa [Kd.E, Kd.int, Kd.scalar] using hq
      omega)) (fun _ hk => hk.2) u) (fun k hk => ?_)
    rcases hk.1 with (h | h) | h
    · exact .inl h
    · exact absurd h hk.2
    · exact .inr h
  · exact Nat.le_trans hK.1 (by simp [World.setCell])
  · intro i hi hn
    by_cases e : i = g
    · subst e
      rw [blk_put1 hW, hw]
    · rw [Below.heap_setCell _ _ _ i e, hK.2 i hi (fun h => h.elim hn e)]
/-- An array in memory: a row that is made. -/
theorem arr_R {w : World} {g t base n : Nat} (h : w.heap[g]? = some (.cells (Array.replicate n (.int .i64 0)) t (0, 0))) (hb : base ≤ g) (hn : n ≤ maxLen) : Kd.R (Kd.int .i64) t w base (fun _ => True) (.slice (some ⟨g, 0, none⟩) n n) (List.replicate n 0) :=
  Kd.R_of_own (enc := .int .i64) ⟨by simp [encs], .inr ⟨g, n, _, by simp, hb, h, by simp, hn, by simp, by simp [encs]⟩⟩ (fun _ _ => trivial)
theorem arr_len {α : Type} {d : Kd α} {e base n c : Nat} {ok : Nat → Prop} {w : World} {A : Option Addr} {xs : List α} {i : Int} (h : d.R e w base ok (.slice A n c) xs) (hi : i < (xs.length : Int)) : i < (n : Int) := by
  obtain ⟨rfl, _⟩ := Kd.R_reads' h
  exact hi
end Go.Proofs.YtjppjppapdflmaaW.PrintWords
