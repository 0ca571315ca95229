/- The reference's comparison of products and its squared distance. -/
import Derived.Test.YtmilejcbkpkplaaPAllx0
import Derived.Test.YtmilejcbkpkplaaPAllf32
import Derived.Test.YtmilejcbkpkplaaPAllf38
import Derived.Test.YtmilejcbkpkplaaGeomBase
import Derived.Test.YtmilejcbkpkplaaGeomNear0
import Derived.Test.YtmilejcbkpkplaaRefCmpWords
namespace Go.Proofs.Ytmilejcbkpkplaa.PAll
set_option linter.unusedVariables false
open Go Go.RowKit Go.Proofs.YtmilejcbkpkplaaW.PrintWords Go.Proofs.YtmilejcbkpkplaaW.PrintLast Go.Proofs.YtmilejcbkpkplaaW.PrintMore Go.Proofs.Ytmilejcbkpkplaa.MathNum Go.Proofs.Ytmilejcbkpkplaa.EvWords Go.Proofs.Ytmilejcbkpkplaa.MathGeom

theorem rcompare_ev {a b c d : Int} (h1 : sm a = true) (h2 : sm b = true) (h3 : sm c = true) (h4 : sm d = true) : Ev (fun k => dancestudioref01_Compare.f k a b c d) (cmp3 (a * b) (c * d), 0) :=
  Ev.of (dancestudioref01_Compare.mono a b c d) (k := 0 + 1) (by rw [rcompare_some, if_pos (by simp [h1, h2, h3, h4])])

theorem sq_dt {a b c d : Int} (ha : cOk a) (hb : cOk b) (hc : cOk c) (hd : cOk d) : dancestudioref03_square.f a b c d = some (dt (a - c) (b - d) (a - c) (b - d)) := square_ok ha hb hc hd
end Go.Proofs.Ytmilejcbkpkplaa.PAll
