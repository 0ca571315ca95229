/- RehearseAgain. -/
import Derived.Test.YtjppjppapdflmaaPAllf15
import Derived.Test.YtjppjppapdflmaaPAllf9
import Derived.Test.YtjppjppapdflmaaRPg
import Derived.Test.YtjppjppapdflmaaRehPlan3
import Derived.Test.YtjppjppapdflmaaRehAwake
namespace Go.Proofs.Ytjppjppapdflmaa.PAll
set_option linter.unusedVariables false
set_option linter.unusedSectionVars false
set_option linter.unusedSimpArgs false
open Go Go.RowKit Go.Proofs.YtjppjppapdflmaaW.PrintWords Go.Proofs.YtjppjppapdflmaaW.PrintLast Go.Proofs.YtjppjppapdflmaaW.PrintMore Go.Proofs.Ytjppjppapdflmaa.MathNum Go.Proofs.Ytjppjppapdflmaa.EvWords

theorem awake_out4 : Ev (fun k => (dancestudiolaw50_awake.f k).bind fun t => some t) true := Ev.bind awake_ev (ev_now _)
theorem same4_l0 {l : List S48} (hl : l.length ≤ 9223372036854775807) : ∀ d i : Nat, i + d = l.length → Ev (fun k => dancestudioref50_Same.l0 k l l (i : Int)) true
 | 0, i, hd => ev_step (fun k => by simp only [dancestudioref50_Same.l0] <;> exact rfl) (ev_neg (by omega) (ev_now _))
 | d + 1, i, hd => by
  refine ev_step (fun k => by simp only [dancestudioref50_Same.l0] <;> exact rfl) (ev_pos (by omega) (ev_pos (by omega) (ev_pos (by omega) (ev_neg (by simp) ?_))))
  rw [w64 (n := (i : Int) + 1) (by omega) (by omega)]
  exact same4_l0 hl d (i + 1) (by omega)
theorem same4_ev {l : List S48} (hl : l.length ≤ 9223372036854775807) : Ev (fun k => dancestudioref50_Same.f k l l) true := by
  unfold dancestudioref50_Same.f
  exact ev_pos rfl (same4_l0 hl l.length 0 (Nat.zero_add _))
theorem planR4_len (t : Tk) : (planR t).1.length ≤ 10 := by
  unfold planR
  by_cases h : chkT t = 0
  · rw [if_pos h]
    unfold planO
    cases hf : ff (planE t) (t.sl.toNat + 1) 0 with
    | none => exact Nat.zero_le _
    | some l =>
      obtain ⟨e, _, _, he, _⟩ := ff_some hf
      unfold planE at he
      by_cases c : crowdB t e = true
      · rw [if_pos c] at he; cases he
      · rw [if_neg c] at he
        cases hs : slotsD t e with
        | none => rw [hs] at he; cases he
        | some q =>
          rw [hs] at he
          obtain rfl : planS t q = l := Option.some.inj he
          obtain ⟨s, _⟩ := way_sol (dfs_way hs)
          have := (chk_ok.1 h).n
          show (mkS q _).length ≤ 10
          rw [mkS_len, s.len]; exact this
  · rw [if_neg h]; exact Nat.zero_le _
section
variable {t : Tk} (hc : Hc t) (hn : t.sc.length ≤ 4)
include hc hn
theorem again_l3 {c d : Int} {p q : List S48} {R : Bool} {i : Nat} (hi : i < t.sc.length) (hout : Ev (fun k => dancestudiolaw50_RehearseAgain.l2 k c p q d ((i + 1 : Nat) : Int) t.sc t.ro t.bu t.sl t.sc t.ro t.bu t.sl) R) : ∀ e m : Nat, m + e = (castAt t i).length →
    Ev (fun k => dancestudiolaw50_RehearseAgain.l3 k c p q d (i : Int) (m : Int) t.sc t.ro t.bu t.sl t.sc t.ro t.bu t.sl) R
 | 0, m, he => by
  refine ev_step (fun k => by simp only [dancestudiolaw50_RehearseAgain.l3] <;> exact rfl) (ev_pos (by omega) (ev_pos (by omega) (ev_neg (show ¬ (m : Int) < ((castAt t i).length : Int) by omega) ?_)))
  rw [w64 (n := (i : Int) + 1) (by omega) (by omega)]
  exact hout
 | e + 1, m, he => by
  have hm := hc.at_ hi
  refine ev_step (fun k => by simp only [dancestudiolaw50_RehearseAgain.l3] <;> exact rfl) (ev_pos (by omega) (ev_pos (by omega) (ev_pos (show (m : Int) < ((castAt t i).length : Int) by omega) (ev_pos (by omega) (ev_pos (by omega) (ev_pos (show (m : Int) < ((castAt t i).length : Int) by omega) ?_))))))
  refine ev_pos (c := True) trivial ?_
  rw [w64 (n := (m : Int) + 1) (by omega) (by omega)]
  exact again_l3 hi hout e (m + 1) (by omega)
theorem again_l2 {c : Int} {p : List S48} (hp : p.length ≤ 10) : ∀ d i : Nat, i + d = t.sc.length →
    Ev (fun k => dancestudiolaw50_RehearseAgain.l2 k c p p c (i : Int) t.sc t.ro t.bu t.sl t.sc t.ro t.bu t.sl) true
 | 0, i, hd => by
  refine ev_step (fun k => by simp only [dancestudiolaw50_RehearseAgain.l2] <;> exact rfl) (ev_neg (by omega) ?_)
  refine ev_pos (c := True) trivial ?_
  exact Ev.bind (same4_ev (by omega)) (ev_pos (c := true = true) rfl awake_out4)
 | d + 1, i, hd => ev_step (fun k => by simp only [dancestudiolaw50_RehearseAgain.l2] <;> exact rfl) (ev_pos (by omega) (again_l3 hc hn (show i < t.sc.length by omega) (again_l2 hp d (i + 1) (by omega)) _ 0 (Nat.zero_add _)))
theorem again_l1 : ∀ d i : Nat, ∀ x : List S48, x.length ≤ 10 → i + d = x.length →
    Ev (fun k => dancestudiolaw50_RehearseAgain.l1 k x (planR t).2 (planR t).1 (i : Int) t.sc t.ro t.bu t.sl t.sc t.ro t.bu t.sl) true
 | 0, i, x, hx, hd => by
  exact ev_step (fun k => by simp only [dancestudiolaw50_RehearseAgain.l1] <;> exact rfl) (ev_neg (by omega) (by
    unfold dancestudiolaw50_of.f
    exact ev_let (Ev.bind (Plan_ev t hc) (again_l2 hc hn (planR4_len t) t.sc.length 0 (Nat.zero_add _)))))
 | d + 1, i, x, hx, hd => by
  refine ev_step (fun k => by simp only [dancestudiolaw50_RehearseAgain.l1] <;> exact rfl) (ev_pos (by omega) (ev_pos (by omega) ?_))
  rw [w64 (n := (i : Int) + 1) (by omega) (by omega)]
  exact again_l1 d (i + 1) _ (by rw [List.length_set]; exact hx) (by rw [List.length_set]; omega)
theorem again_l0 (hz : ∀ s ∈ t.sc, s.f2.length < 17592186044416) : ∀ (d i : Nat) (l : List S53), i + d = t.sc.length → l = t.sc.take i →
    Ev (fun k => dancestudiolaw50_RehearseAgain.l0 k (i : Int) t.sc t.ro t.bu t.sl l t.ro t.bu t.sl) true
 | 0, i, l, hd, hl => by
  have e : l = t.sc := by rw [hl, List.take_of_length_le (by omega)]
  subst e
  refine ev_step (fun k => by simp only [dancestudiolaw50_RehearseAgain.l0] <;> exact rfl) (ev_neg (by omega) ?_)
  unfold dancestudiolaw50_of.f
  refine ev_let (Ev.bind (Plan_ev t hc) (ev_let (Ev.bind (Plan_ev t hc) ?_)))
  refine ev_pos rfl (Ev.bind (same4_ev (by have := planR4_len t; omega)) ?_)
  exact ev_step (fun k => by simp only [dancestudiolaw50_RehearseAgain.j1] <;> exact rfl) (ev_neg (by simp) (again_l1 hc hn _ 0 _ (planR4_len t) (Nat.zero_add _)))
 | d + 1, i, l, hd, hl => by
  have hi : i < t.sc.length := by omega
  have hll : l.length = i := by rw [hl, List.length_take]; omega
  refine ev_step (fun k => by simp only [dancestudiolaw50_RehearseAgain.l0] <;> exact rfl) (ev_pos (by omega) (ev_pos (by omega) (ev_let (ev_pos ?_ (ev_pos (by omega) ?_)))))
  · have := hz _ (List.getElem_mem hi)
    rw [rd53 _ hi]; simpa using this
  · rw [w64 (n := (i : Int) + 1) (by omega) (by omega), List.nil_append]
    refine again_l0 hz d (i + 1) _ (by omega) ?_
    rw [hl, List.take_succ_eq_append_getElem hi, rd53 _ hi]
end
theorem pure_RehearseAgain (t : Tk) (hc : Hc t) (hr : t.ro.length < 17592186044416) (hz : ∀ s ∈ t.sc, s.f2.length < 17592186044416) : ∃ k, dancestudiolaw50_RehearseAgain.f k t.sc t.ro t.bu t.sl = some true := by
  refine ev_some (g := fun k => dancestudiolaw50_RehearseAgain.f k t.sc t.ro t.bu t.sl) ?_
  unfold dancestudiolaw50_RehearseAgain.f
  by_cases h1 : (t.sc.length : Int) ≤ 4
  · by_cases h2 : t.sl ≤ 6
    · by_cases h3 : (t.bu.length : Int) ≤ 20
      · rw [show dancestudiolaw50_small.f t.sc t.ro t.bu t.sl = some true by unfold dancestudiolaw50_small.f; rw [if_pos h1, if_pos h2, decide_eq_true h3]]
        refine ev_let (ev_pos (c := true = true) rfl (ev_let (ev_pos (by simpa using hr) (ev_let (ev_pos (by simp; omega) ?_)))))
        rw [List.nil_append, List.nil_append]
        exact again_l0 hc (by omega) hz t.sc.length 0 [] (Nat.zero_add _) rfl
      · rw [show dancestudiolaw50_small.f t.sc t.ro t.bu t.sl = some false by unfold dancestudiolaw50_small.f; rw [if_pos h1, if_pos h2, decide_eq_false h3]]
        exact ev_let (ev_neg (by simp) awake_out4)
    · rw [show dancestudiolaw50_small.f t.sc t.ro t.bu t.sl = some false by unfold dancestudiolaw50_small.f; rw [if_pos h1, if_neg h2]]
      exact ev_let (ev_neg (by simp) awake_out4)
  · rw [show dancestudiolaw50_small.f t.sc t.ro t.bu t.sl = some false by unfold dancestudiolaw50_small.f; rw [if_neg h1]]
    exact ev_let (ev_neg (by simp) awake_out4)
end Go.Proofs.Ytjppjppapdflmaa.PAll
