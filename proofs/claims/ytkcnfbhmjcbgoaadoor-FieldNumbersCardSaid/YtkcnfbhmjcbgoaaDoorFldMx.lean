/- internal/bytealg.MaxLen holds a number: what the library's searches ask of the world, handed on. -/
import Derived.Test.YtkcnfbhmjcbgoaaDoorKw1
import Derived.Test.YtkcnfbhmjcbgoaaDoorLays
namespace Go.Proofs.YtkcnfbhmjcbgoaaDoorW.PrintWords
open Go Go.RowKit
def Mx (w : World) : Prop := ∃ m, w.cell? ⟨0, 0, none⟩ = some (.int .i64 m)
theorem Mx.below {w w' : World} (h : Mx w) (hb : Below w.heap.size w w') : Mx w' := by
  obtain ⟨m, hm⟩ := h
  exact ⟨m, (hb.cell (World.block_lt_of_cell? w _ hm)).trans hm⟩
theorem Mx.drewN {w : World} {n : Nat} (h : Mx w) : Mx (w.drewN n) := h
theorem isE_ (l : List UInt8) : l.isEmpty = !(l != []) := by cases l <;> rfl
theorem Mx.drew {w : World} (h : Mx w) : Mx w.drew := h
end Go.Proofs.YtkcnfbhmjcbgoaaDoorW.PrintWords
