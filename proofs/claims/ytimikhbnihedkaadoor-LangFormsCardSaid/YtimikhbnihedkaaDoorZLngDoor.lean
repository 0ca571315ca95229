/- A world that holds what the rows' list says (three tables of the library); what is read of expressions; what the walks ask of the world. -/
import Derived.Test.YtimikhbnihedkaaDoorZMC0
import Derived.Test.YtimikhbnihedkaaDoorRows
import Derived.Test.YtimikhbnihedkaaDoorZOpenStructs
import Derived.Test.YtimikhbnihedkaaDoorZOpenSized
import Derived.Shelf.Strings.Shaped
import Derived.Deep.DeepHandedRow
import Derived.LaidLaws
import Derived.Lib.LaidTab
namespace Go.Proofs.YtimikhbnihedkaaDoor.door
open Go Go.RowKit Go.ChangeShapes Go.WideShapes Go.Proofs.YtimikhbnihedkaaDoor.PAll Go.Proofs.YtimikhbnihedkaaDoorW.PrintWords Go.Proofs.YtimikhbnihedkaaDoorW.PrintLast Go.Proofs.YtimikhbnihedkaaDoorW.PrintMore Go.Proofs.YtimikhbnihedkaaDoor.OpenWords
def val1 {H : Type} : DataW H → Value
  | .lit (.int k n) => .int k n
  | _ => .int .u8 0
def agg1 {H : Type} : DataW H → List (DataW H)
  | .agg l => l
  | _ => []
noncomputable def cells0 : Array Value := ((agg1 (Rows.laid_internal_strconv_uint64pow10 (H := Unit))).map val1).toArray
noncomputable def cells2 : Array Value := ((agg1 (Rows.laid_math_bits_deBruijn32tab (H := Unit))).map val1).toArray
noncomputable def cells3 : Array Value := ((agg1 (Rows.laid_math_bits_deBruijn64tab (H := Unit))).map val1).toArray
def put (cs : Array Value) : Obj → Obj
  | .cells _ t fr => .cells cs t fr
  | o => o
noncomputable def laidWorld (os : Os) : World :=
  { World.holding Tryd.prog os ⟨#[], #[], []⟩ with heap := (((World.holding Tryd.prog os ⟨#[], #[], []⟩).heap.modify 0 (put cells0)).modify 2 (put cells2)).modify 3 (put cells3) }
theorem mx {W : World} (h : W.ShapedOpen Tryd.prog) : Mx W :=
  Go.Proofs.cell_of_shapedOpen_int (zero := #[.int .i64 0]) (t := 3) h (of_decide_eq_true (by kernel_rfl)) (by kernel_rfl) rfl (by kernel_rfl) (by kernel_rfl) Tryd.underlying3
section
variable {H : Type} {enc : TypeId × Value → H} {W : World} {base : Nat} {sp : Nat → Bool} {held : Bool}
theorem opensS : Opens enc Tryd.prog W base sp held Kd.string 9 (fun _ => True) :=
  ⟨by kernel_rfl, fun fuel cs x hx => by obtain ⟨s, rfl, _, _⟩ := DataW.trod_string Tryd.underlying9 hx; exact ⟨s, rfl, trivial⟩⟩
theorem opensStr : OpensZ enc Tryd.prog W base sp held Kd.string 9 (fun _ => True) :=
  ⟨by kernel_rfl, fun fuel cs x hx _ => by obtain ⟨s, rfl, _, _⟩ := DataW.trod_string Tryd.underlying9 hx; exact ⟨s, rfl, trivial⟩⟩
theorem opens3 : Opens enc Tryd.prog W base sp held (Kd.int .i64) 3 (fun z => (Lit.int .i64 z).wf = true) := Opens.int Tryd.underlying3 (by kernel_rfl)
theorem opens43 : Opens enc Tryd.prog W base sp held k43 43 (fun _ => True) :=
  Opens.weaken (Opens.struct Tryd.underlying43 (by kernel_rfl) (fun y => ⟨⟨y.1, y.2.1, y.2.2.1, y.2.2.2⟩, rfl⟩)
    (OpensAt.cons rfl (Opens.int Tryd.underlying3 (by kernel_rfl)) (OpensAt.cons rfl opensS (OpensAt.cons rfl (Opens.int Tryd.underlying3 (by kernel_rfl)) (OpensAt.one rfl (Opens.int Tryd.underlying3 (by kernel_rfl))))))) (fun _ _ => trivial)
end
end Go.Proofs.YtimikhbnihedkaaDoor.door
