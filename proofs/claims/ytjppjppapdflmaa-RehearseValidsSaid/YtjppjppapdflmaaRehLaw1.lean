/- RehearseChecks, RehearseValids. -/
import Derived.Test.YtjppjppapdflmaaPAllx0
import Derived.Test.YtjppjppapdflmaaPAllf3
import Derived.Test.YtjppjppapdflmaaPAllf4
import Derived.Test.YtjppjppapdflmaaRPg
import Derived.Test.YtjppjppapdflmaaPAllf15
import Derived.Test.YtjppjppapdflmaaRehValid2
import Derived.Test.YtjppjppapdflmaaRehAwake
namespace Go.Proofs.Ytjppjppapdflmaa.PAll
set_option linter.unusedVariables false
set_option linter.unusedSectionVars false
set_option linter.unusedSimpArgs false
open Go Go.RowKit Go.Proofs.YtjppjppapdflmaaW.PrintWords Go.Proofs.YtjppjppapdflmaaW.PrintLast Go.Proofs.YtjppjppapdflmaaW.PrintMore Go.Proofs.Ytjppjppapdflmaa.MathNum Go.Proofs.Ytjppjppapdflmaa.EvWords
theorem awake_out : Ev (fun k => (dancestudiolaw50_awake.f k).bind fun t => some t) true := Ev.bind awake_ev (ev_now _)
theorem checks_ev (t : Tk) (hc : Hc t) : Ev (fun k => dancestudiolaw50_RehearseChecks.f k t.sc t.ro t.bu t.sl) true := by
  unfold dancestudiolaw50_RehearseChecks.f dancestudiolaw50_of.f
  refine ev_let (Ev.bind (Least_ev t hc) (Ev.bind (rLeast_ev t hc) (ev_let (Ev.bind (chk_ev t hc) (Ev.bind (rchk_ev t hc) ?_)))))
  exact ev_pos rfl (ev_pos rfl (ev_pos rfl awake_out))
theorem valids_ev (t : Tk) (hc : Hc t) (l : List S48) (hw : Hl l) : Ev (fun k => dancestudiolaw50_RehearseValids.f k t.sc t.ro t.bu t.sl l) true := by
  unfold dancestudiolaw50_RehearseValids.f dancestudiolaw50_of.f
  refine ev_let (Ev.bind (End_ev t hc l hw) (Ev.bind (rEnd_ev t hc l hw) (ev_let (Ev.bind (Valid_ev t hc l hw) (Ev.bind (rValid_ev t hc l hw) ?_)))))
  exact ev_pos rfl (ev_pos rfl (ev_pos rfl awake_out))
theorem pure_RehearseChecks (t : Tk) (hs : t.sc.length ≤ maxLen ∧ Hc t) (_ : t.ro.length ≤ maxLen) (_ : t.bu.length ≤ maxLen) (_ : -9223372036854775808 ≤ t.sl ∧ t.sl ≤ 9223372036854775807) : ∃ k, dancestudiolaw50_RehearseChecks.f k t.sc t.ro t.bu t.sl = some true :=
  ev_some (checks_ev t hs.2)
theorem pure_RehearseValids (t : Tk) (hs : t.sc.length ≤ maxLen ∧ Hc t) (_ : t.ro.length ≤ maxLen) (_ : t.bu.length ≤ maxLen) (_ : -9223372036854775808 ≤ t.sl ∧ t.sl ≤ 9223372036854775807) (l : List S48) (_ : l.length ≤ maxLen) (hl : Hl l) : ∃ k, dancestudiolaw50_RehearseValids.f k t.sc t.ro t.bu t.sl l = some true :=
  ev_some (valids_ev t hs.2 l hl)
end Go.Proofs.Ytjppjppapdflmaa.PAll
