/- The reference's Plan: what it answers. RehearsePlans. -/
import Derived.Test.YtjppjppapdflmaaPAllf15
import Derived.Test.YtjppjppapdflmaaPAllf22
import Derived.Test.YtjppjppapdflmaaPAllf5
import Derived.Test.YtjppjppapdflmaaRPg
import Derived.Test.YtjppjppapdflmaaRRf
import Derived.Test.YtjppjppapdflmaaRehPlan3
import Derived.Test.YtjppjppapdflmaaRehAwake
namespace Go.Proofs.Ytjppjppapdflmaa.PAll
set_option linter.unusedVariables false
set_option linter.unusedSectionVars false
set_option linter.unusedSimpArgs false
open Go Go.RowKit Go.Proofs.YtjppjppapdflmaaW.PrintWords Go.Proofs.YtjppjppapdflmaaW.PrintLast Go.Proofs.YtjppjppapdflmaaW.PrintMore Go.Proofs.Ytjppjppapdflmaa.MathNum Go.Proofs.Ytjppjppapdflmaa.EvWords

section
variable {t : Tk} (o : Okt t)
include o
theorem rcrowd_l2 {e : Int} {i : Nat} {room : Int} (hr : 0 ≤ room ∧ room ≤ 128) {x : Bool} (hout : Ev (fun q => if needC t i t.sc.length > room then some true else dancestudioref50_crowded.l0 q e (wrap64 ((i : Int) + 1)) t.sc t.ro t.bu t.sl) x) : ∀ d k : Nat, k + d = t.sc.length →
    Ev (fun q => dancestudioref50_crowded.l2 q e (i : Int) ((castAt t i).length : Int) room (needC t i k) (k : Int) t.sc t.ro t.bu t.sl) x
 | 0, k, hd => by
  obtain rfl : k = t.sc.length := by omega
  exact ev_step (fun k => by simp only [dancestudioref50_crowded.l2] <;> exact rfl) (ev_neg (by omega) hout)
 | d + 1, k, hd => by
  have hn := o.n
  have ih := rcrowd_l2 hr hout d (k + 1) (by omega)
  have hl := needC_le o i (k + 1) (by omega)
  refine ev_step (fun k => by simp only [dancestudioref50_crowded.l2] <;> exact rfl) (ev_pos (by omega) (ev_pos (by omega) ?_))
  rw [w64 (n := (k : Int) + 1) (by omega) (by omega)]
  by_cases c : (castAt t k).length ≥ (castAt t i).length
  · have e1 : needC t i (k + 1) = needC t i k + slAt t k := by
      show needC t i k + _ = _
      rw [if_pos (decide_eq_true c)]
    refine ev_pos (Int.ofNat_le.2 c) ?_
    rw [show wrap64 (needC t i k + (rd_T53 t.sc k).f1) = needC t i (k + 1) from by rw [e1]; exact w64 (n := needC t i k + slAt t k) (by omega) (by omega)]
    exact ih
  · have e1 : needC t i (k + 1) = needC t i k := by
      show needC t i k + _ = _
      rw [if_neg (show ¬ decide ((castAt t k).length ≥ (castAt t i).length) = true by rw [decide_eq_false c]; simp), Int.add_zero]
    refine ev_neg (fun h => c (Int.ofNat_le.1 h)) ?_
    rw [← e1]
    exact ih
theorem rcrowd_l1 {e : Nat} (he : (e : Int) ≤ t.sl) {i : Nat} (hi : i < t.sc.length) {x : Bool} (hout : Ev (fun q => if tight t e i = true then some true else dancestudioref50_crowded.l0 q (e : Int) ((i + 1 : Nat) : Int) t.sc t.ro t.bu t.sl) x) : ∀ d r : Nat, r + d = t.ro.length →
    Ev (fun q => dancestudioref50_crowded.l1 q (e : Int) (i : Int) ((castAt t i).length : Int) (roomC t e i r) 0 (r : Int) t.sc t.ro t.bu t.sl) x
 | 0, r, hd => by
  have hn := o.n
  obtain rfl : r = t.ro.length := by omega
  refine ev_step (fun k => by simp only [dancestudioref50_crowded.l1] <;> exact rfl) (ev_neg (by omega) (rcrowd_l2 o (room_le o e he i (Nat.le_refl _)) ?_ t.sc.length 0 (Nat.zero_add _)))
  rw [w64 (n := (i : Int) + 1) (by omega) (by omega)]
  unfold tight at hout
  simp only [decide_eq_true_eq] at hout
  exact hout
 | d + 1, r, hd => by
  have h4 := o.r4; have h32 := o.s2
  have ih := rcrowd_l1 he hi hout d (r + 1) (by omega)
  have hl := room_le o e he i (show r ≤ t.ro.length by omega)
  refine ev_step (fun k => by simp only [dancestudioref50_crowded.l1] <;> exact rfl) (ev_pos (by omega) (ev_pos (by omega) ?_))
  rw [w64 (n := (r : Int) + 1) (by omega) (by omega)]
  by_cases f : fitsB t i r = true
  · have e1 : roomC t e i (r + 1) = roomC t e i r + e := by
      show roomC t e i r + _ = _
      rw [if_pos f]
    refine ev_pos (of_decide_eq_true f) ?_
    rw [w64 (n := roomC t e i r + (e : Int)) (by omega) (by omega), ← e1]
    exact ih
  · have e1 : roomC t e i (r + 1) = roomC t e i r := by
      show roomC t e i r + _ = _
      rw [if_neg f, Int.add_zero]
    rw [e1] at ih
    exact ev_neg (fun h => f (decide_eq_true h)) ih
theorem rcrowd_l0 {e : Nat} (he : (e : Int) ≤ t.sl) : ∀ d i : Nat, i + d = t.sc.length → Ev (fun q => dancestudioref50_crowded.l0 q (e : Int) (i : Int) t.sc t.ro t.bu t.sl) (!(allR (fun i => !(tight t e i)) i d))
 | 0, i, hd => ev_step (fun k => by simp only [dancestudioref50_crowded.l0] <;> exact rfl) (ev_neg (by omega) (ev_now _))
 | d + 1, i, hd => by
  have ih := rcrowd_l0 he d (i + 1) (by omega)
  refine ev_step (fun k => by simp only [dancestudioref50_crowded.l0] <;> exact rfl) (ev_pos (by omega) (ev_pos (by omega) (rcrowd_l1 o he (show i < t.sc.length by omega) ?_ t.ro.length 0 (Nat.zero_add _))))
  rw [allR]
  cases h : tight t e i
  · rw [Bool.not_false, Bool.true_and]; exact ev_neg (by simp) ih
  · exact ev_pos (c := true = true) rfl (ev_now _)
theorem rcrowd_ev {e : Nat} (he : (e : Int) ≤ t.sl) : Ev (fun q => dancestudioref50_crowded.f q t.sc t.ro t.bu t.sl (e : Int)) (crowdB t e) := rcrowd_l0 o he t.sc.length 0 (Nat.zero_add _)
theorem rplan_l0 (hc : Hc t) : ∀ m e : Nat, e + m = t.sl.toNat + 1 → Ev (fun k => dancestudioref50_Plan.l0 k (e : Int) t.sc t.ro t.bu t.sl) (outP (ff (planE t) m e))
 | 0, e, hm => by
  have h1 := o.s1
  exact ev_step (fun k => by simp only [dancestudioref50_Plan.l0] <;> exact rfl) (ev_neg (by omega) (ev_now _))
 | m + 1, e, hm => by
  have h1 := o.s1; have h32 := o.s2; have hn := o.n
  have he : (e : Int) ≤ t.sl := by omega
  have ih := rplan_l0 hc m (e + 1) (by omega)
  refine ev_step (fun k => by simp only [dancestudioref50_Plan.l0] <;> exact rfl) (ev_pos he (Ev.bind (rcrowd_ev o he) ?_))
  rw [w64 (n := (e : Int) + 1) (by omega) (by omega)]
  unfold ff
  by_cases c : crowdB t e = true
  · rw [show planE t e = none from if_pos c]
    exact ev_pos c ih
  · rw [show planE t e = (slotsD t e).map (planS t) from if_neg c]
    refine ev_neg c (Ev.bind (search_f o hc he t.sc.length [] slots_nil rfl (by simp)) ?_)
    rw [show dfs e (okS t e) t.sc.length [] = slotsD t e from rfl]
    cases hs : slotsD t e with
    | none => exact ev_neg (by simp [resS]) ih
    | some q => exact ev_pos (c := true = true) rfl (ev_now _)
end
theorem rPlan_ev (t : Tk) (hc : Hc t) : Ev (fun k => dancestudioref50_Plan.f k t.sc t.ro t.bu t.sl) (planR t) := by
  unfold dancestudioref50_Plan.f planR
  refine Ev.bind (rchk_ev t hc) ?_
  by_cases h : chkT t = 0
  · rw [if_pos h]; exact ev_pos h (rplan_l0 (chk_ok.1 h) hc _ 0 (Nat.zero_add _))
  · rw [if_neg h]; exact ev_neg h (ev_now _)
theorem same_l0 {l : List S48} (hl : l.length ≤ 9223372036854775807) : ∀ d i : Nat, i + d = l.length → Ev (fun k => dancestudioref50_Same.l0 k l l (i : Int)) true
 | 0, i, hd => ev_step (fun k => by simp only [dancestudioref50_Same.l0] <;> exact rfl) (ev_neg (by omega) (ev_now _))
 | d + 1, i, hd => by
  refine ev_step (fun k => by simp only [dancestudioref50_Same.l0] <;> exact rfl) (ev_pos (by omega) (ev_pos (by omega) (ev_pos (by omega) (ev_neg (by simp) ?_))))
  rw [w64 (n := (i : Int) + 1) (by omega) (by omega)]
  exact same_l0 hl d (i + 1) (by omega)
theorem same_ev {l : List S48} (hl : l.length ≤ 9223372036854775807) : Ev (fun k => dancestudioref50_Same.f k l l) true := by
  unfold dancestudioref50_Same.f
  exact ev_pos rfl (same_l0 hl l.length 0 (Nat.zero_add _))
theorem planE_sol {t : Tk} {e : Nat} {l : List S48} (h : planE t e = some l) : ∃ q out, slotsD t e = some q ∧ roomsD t q = some out ∧ SolS t e q ∧ SolR t q out ∧ l = mkS q out := by
  unfold planE at h
  by_cases c : crowdB t e = true
  · rw [if_pos c] at h; cases h
  · rw [if_neg c] at h
    cases hs : slotsD t e with
    | none => rw [hs] at h; cases h
    | some q =>
      rw [hs] at h
      obtain ⟨s, out, ho⟩ := way_sol (dfs_way hs)
      refine ⟨q, out, rfl, ho, s, roomsD_sol ho, ?_⟩
      have := Option.some.inj h
      rw [← this]
      show planS t q = _
      unfold planS; rw [ho]; rfl
theorem planR_len (t : Tk) : (planR t).1.length ≤ 10 := by
  unfold planR
  by_cases h : chkT t = 0
  · rw [if_pos h]
    unfold planO
    cases hf : ff (planE t) (t.sl.toNat + 1) 0 with
    | none => exact Nat.zero_le _
    | some l =>
      obtain ⟨e, _, _, he, _⟩ := ff_some hf
      obtain ⟨q, out, _, _, s, _, rfl⟩ := planE_sol he
      have := (chk_ok.1 h).n
      show (mkS q out).length ≤ 10
      rw [mkS_len, s.len]; exact this
  · rw [if_neg h]; exact Nat.zero_le _
theorem awake_outP : Ev (fun k => (dancestudiolaw50_awake.f k).bind fun t => some t) true := Ev.bind awake_ev (ev_now _)
theorem plans_ev (t : Tk) (hc : Hc t) : Ev (fun k => dancestudiolaw50_RehearsePlans.f k t.sc t.ro t.bu t.sl) true := by
  unfold dancestudiolaw50_RehearsePlans.f
  obtain ⟨b, hb⟩ : ∃ b, dancestudiolaw50_small.f t.sc t.ro t.bu t.sl = some b := by
    unfold dancestudiolaw50_small.f
    by_cases h1 : (t.sc.length : Int) ≤ 4
    · rw [if_pos h1]
      by_cases h2 : t.sl ≤ 6
      · rw [if_pos h2]; exact ⟨_, rfl⟩
      · rw [if_neg h2]; exact ⟨_, rfl⟩
    · rw [if_neg h1]; exact ⟨_, rfl⟩
  rw [hb]
  refine ev_let ?_
  cases b with
  | false => exact ev_neg (by simp) awake_outP
  | true =>
    refine ev_pos (c := true = true) rfl ?_
    unfold dancestudiolaw50_of.f
    refine ev_let (Ev.bind (Plan_ev t hc) (Ev.bind (rPlan_ev t hc) (Ev.bind (same_ev (by have := planR_len t; omega)) ?_)))
    exact ev_pos (c := true = true) rfl (ev_pos rfl awake_outP)
theorem pure_RehearsePlans (t : Tk) (hs : t.sc.length ≤ maxLen ∧ Hc t) (_ : t.ro.length ≤ maxLen) (_ : t.bu.length ≤ maxLen) (_ : -9223372036854775808 ≤ t.sl ∧ t.sl ≤ 9223372036854775807) : ∃ k, dancestudiolaw50_RehearsePlans.f k t.sc t.ro t.bu t.sl = some true :=
  ev_some (plans_ev t hs.2)
end Go.Proofs.Ytjppjppapdflmaa.PAll
