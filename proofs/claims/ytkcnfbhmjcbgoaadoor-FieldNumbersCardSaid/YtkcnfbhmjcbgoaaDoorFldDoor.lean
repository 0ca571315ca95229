/- A world that holds what the rows' list says; what is read of rows of strings; the library's variable. -/
import Derived.Test.YtkcnfbhmjcbgoaaDoorRows
import Derived.Test.YtkcnfbhmjcbgoaaDoorLays
import Derived.Test.YtkcnfbhmjcbgoaaDoorFldMx
import Derived.Test.YtkcnfbhmjcbgoaaDoorOpenSized
import Derived.Deep.DeepHandedRow
import Derived.LaidLaws
namespace Go.Proofs.YtkcnfbhmjcbgoaaDoor.door
open Go Go.RowKit Go.ChangeShapes Go.WideShapes Go.Proofs.YtkcnfbhmjcbgoaaDoorW.PrintWords Go.Proofs.YtkcnfbhmjcbgoaaDoorW.PrintLast Go.Proofs.YtkcnfbhmjcbgoaaDoor.OpenWords
def val1 {H : Type} : DataW H → Value
  | .lit (.int k n) => .int k n
  | _ => .int .u8 0
def agg1 {H : Type} : DataW H → List (DataW H)
  | .agg l => l
  | _ => []
noncomputable def firstCells : Array Value := ((agg1 Go.Pinned.utf8First).map val1).toArray
noncomputable def rangeCells : Array Value := ((agg1 (Rows.laid_unicode_utf8_acceptRanges (H := Unit))).flatMap fun d => (agg1 d).map val1).toArray
def put (cs : Array Value) : Obj → Obj
  | .cells _ t fr => .cells cs t fr
  | o => o
noncomputable def laidWorld (os : Os) : World :=
  { World.holding Tryd.prog os ⟨#[], #[], []⟩ with heap := ((World.holding Tryd.prog os ⟨#[], #[], []⟩).heap.modify 1 (put firstCells)).modify 2 (put rangeCells) }
theorem mx {W : World} (h : W.ShapedOpen Tryd.prog) : Mx W := Tryd.laysM144.s1_3 W h
theorem opensStr {H : Type} {enc : TypeId × Value → H} {W : World} {base : Nat} {sp : Nat → Bool} {held : Bool} : OpensZ enc Tryd.prog W base sp held Kd.string 9 (fun _ => True) :=
  ⟨by kernel_rfl, fun fuel cs x hx _ => by obtain ⟨s, rfl, _, _⟩ := DataW.trod_string Tryd.underlying9 hx; exact ⟨s, rfl, trivial⟩⟩
end Go.Proofs.YtkcnfbhmjcbgoaaDoor.door
