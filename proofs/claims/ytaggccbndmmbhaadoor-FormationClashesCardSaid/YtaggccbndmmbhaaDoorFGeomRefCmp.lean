/- The reference's comparison of products and its squared distance. -/
import Derived.Test.YtaggccbndmmbhaaDoorBase
import Derived.Test.YtaggccbndmmbhaaDoorPAllf59
import Derived.Test.YtaggccbndmmbhaaDoorGeo
import Derived.Test.YtaggccbndmmbhaaDoorFGeomBase
import Derived.Test.YtaggccbndmmbhaaDoorFGeomNear0
import Derived.Test.YtaggccbndmmbhaaDoorRefCmpWords
namespace Go.Proofs.YtaggccbndmmbhaaDoor.PAll
set_option linter.unusedVariables false
open Go Go.RowKit Go.Proofs.YtaggccbndmmbhaaDoorW.PrintWords Go.Proofs.YtaggccbndmmbhaaDoorW.PrintLast Go.Proofs.YtaggccbndmmbhaaDoorW.PrintMore Go.Proofs.YtaggccbndmmbhaaDoor.MathNum Go.Proofs.YtaggccbndmmbhaaDoor.EvWords Go.Proofs.YtaggccbndmmbhaaDoor.MathGeom

theorem dancestudioref01_Compare.mono_l : ∀ k, (∀ y0 y1 y2 y3 y4, LeO (dancestudioref01_Compare.j0 k y0 y1 y2 y3 y4) (dancestudioref01_Compare.j0 (k + 1) y0 y1 y2 y3 y4))
 | 0 => fun _ _ _ _ _ r h => by simp [dancestudioref01_Compare.j0] at h
 | k + 1 => by
  have ih0 := dancestudioref01_Compare.mono_l k
  ·
   intro y0 y1 y2 y3 y4
   unfold dancestudioref01_Compare.j0
   repeat' first
   | (with_reducible exact ih0 _ _ _ _ _)
   | (with_reducible exact LeO.refl _)
   | (with_reducible exact LeO.none _)
   | (with_reducible refine LeO.ite ?_ ?_)
   | (with_reducible refine LeO.bind ?_ (fun _ => ?_))
   | exact ih0 _ _ _ _ _
   | exact LeO.none _
   | refine LeO.ite ?_ ?_
   | refine LeO.bind ?_ (fun _ => ?_)
theorem dancestudioref01_Compare.mono : ∀ a0 a1 a2 a3 k, LeO (dancestudioref01_Compare.f k a0 a1 a2 a3) (dancestudioref01_Compare.f (k + 1) a0 a1 a2 a3) := by
 intro a0 a1 a2 a3 k
 have ih0 := dancestudioref01_Compare.mono_l k
 unfold dancestudioref01_Compare.f
 repeat' first
   | (with_reducible exact ih0 _ _ _ _ _)
   | (with_reducible exact LeO.refl _)
   | (with_reducible exact LeO.none _)
   | (with_reducible refine LeO.ite ?_ ?_)
   | (with_reducible refine LeO.bind ?_ (fun _ => ?_))
   | exact ih0 _ _ _ _ _
   | exact LeO.none _
   | refine LeO.ite ?_ ?_
   | refine LeO.bind ?_ (fun _ => ?_)
theorem rcompare_ev {a b c d : Int} (h1 : sm a = true) (h2 : sm b = true) (h3 : sm c = true) (h4 : sm d = true) : Ev (fun k => dancestudioref01_Compare.f k a b c d) (cmp3 (a * b) (c * d), 0) :=
  Ev.of (dancestudioref01_Compare.mono a b c d) (k := 0 + 1) (by rw [rcompare_some, if_pos (by simp [h1, h2, h3, h4])])

theorem sq_dt {a b c d : Int} (ha : cOk a) (hb : cOk b) (hc : cOk c) (hd : cOk d) : dancestudioref03_square.f a b c d = some (dt (a - c) (b - d) (a - c) (b - d)) := square_ok ha hb hc hd
end Go.Proofs.YtaggccbndmmbhaaDoor.PAll
