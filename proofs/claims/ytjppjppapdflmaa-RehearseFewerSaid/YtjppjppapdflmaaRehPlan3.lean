/- Plan: what both answer. -/
import Derived.Test.YtjppjppapdflmaaRPl
import Derived.Test.YtjppjppapdflmaaRPm
import Derived.Test.YtjppjppapdflmaaRehCap
namespace Go.Proofs.Ytjppjppapdflmaa.PAll
set_option linter.unusedVariables false
set_option linter.unusedSectionVars false
set_option linter.unusedSimpArgs false
open Go Go.RowKit Go.Proofs.YtjppjppapdflmaaW.PrintWords Go.Proofs.YtjppjppapdflmaaW.PrintLast Go.Proofs.YtjppjppapdflmaaW.PrintMore Go.Proofs.Ytjppjppapdflmaa.MathNum Go.Proofs.Ytjppjppapdflmaa.EvWords

def roomC (t : Tk) (e : Int) (i : Nat) : Nat → Int := psum (fun _ => e) (fun r => fitsB t i r)
def needC (t : Tk) (i : Nat) : Nat → Int := psum (slAt t) (fun k => decide ((castAt t k).length ≥ (castAt t i).length))
def tight (t : Tk) (e : Int) (i : Nat) : Bool := decide (needC t i t.sc.length > roomC t e i t.ro.length)
def crowdB (t : Tk) (e : Int) : Bool := !(allR (fun i => !(tight t e i)) 0 t.sc.length)
section
variable {t : Tk} (o : Okt t)
include o
theorem roomC_le {e : Nat} (i : Nat) : ∀ R : Nat, 0 ≤ roomC t e i R ∧ roomC t e i R ≤ R * (e : Int)
 | 0 => by unfold roomC psum; omega
 | R + 1 => by
  have ih := roomC_le (e := e) i R
  have e1 : ((R + 1 : Nat) : Int) * (e : Int) = R * (e : Int) + e := by rw [Int.natCast_succ, Int.add_mul, Int.one_mul]
  show 0 ≤ roomC t e i R + (if fitsB t i R = true then (e : Int) else 0) ∧ roomC t e i R + (if fitsB t i R = true then (e : Int) else 0) ≤ _
  rw [e1]
  by_cases f : fitsB t i R = true
  · rw [if_pos f]; omega
  · rw [if_neg f]; omega
theorem needC_le (i : Nat) : ∀ n : Nat, n ≤ t.sc.length → 0 ≤ needC t i n ∧ needC t i n ≤ 32 * n
 | 0, _ => by unfold needC psum; omega
 | n + 1, h => by
  have ih := needC_le i n (by omega)
  have hl := o.ln n (by omega); have h32 := o.s2
  show 0 ≤ needC t i n + (if decide ((castAt t n).length ≥ (castAt t i).length) = true then slAt t n else 0) ∧ needC t i n + (if decide ((castAt t n).length ≥ (castAt t i).length) = true then slAt t n else 0) ≤ _
  by_cases f : decide ((castAt t n).length ≥ (castAt t i).length) = true
  · rw [if_pos f]; omega
  · rw [if_neg f]; omega
theorem room_le (e : Nat) (he : (e : Int) ≤ t.sl) (i : Nat) {r : Nat} (hr : r ≤ t.ro.length) : 0 ≤ roomC t e i r ∧ roomC t e i r ≤ 128 := by
  have h := roomC_le o (e := e) i r
  have h4 := o.r4; have h32 := o.s2
  rcases (show r = 0 ∨ r = 1 ∨ r = 2 ∨ r = 3 ∨ r = 4 by omega) with q | q | q | q | q <;> subst q <;> omega
theorem crowd_l2 {e : Int} {i : Nat} {room : Int} (hr : 0 ≤ room ∧ room ≤ 128) {nm : ByteArray} {s1 : Int} {x : Bool} (hout : Ev (fun q => if needC t i t.sc.length > room then some true else rehearse_Task_crowded.l0 q e t.sc (t.sc.length : Int) (wrap64 ((i : Int) + 1)) t.sc t.ro t.bu t.sl) x) : ∀ d k : Nat, k + d = t.sc.length →
    Ev (fun q => rehearse_Task_crowded.l2 q e room (needC t i k) t.sc (t.sc.length : Int) (i : Int) t.sc (t.sc.length : Int) (k : Int) t.sc t.ro t.bu t.sl nm s1 (castAt t i)) x
 | 0, k, hd => by
  obtain rfl : k = t.sc.length := by omega
  exact ev_step (fun k => by simp only [rehearse_Task_crowded.l2] <;> exact rfl) (ev_neg (by omega) hout)
 | d + 1, k, hd => by
  have hn := o.n
  have ih := crowd_l2 hr (nm := nm) (s1 := s1) hout d (k + 1) (by omega)
  have hl := needC_le o i (k + 1) (by omega)
  refine ev_step (fun k => by simp only [rehearse_Task_crowded.l2] <;> exact rfl) (ev_pos (by omega) (ev_pos (by omega) (ev_pos (by omega) ?_)))
  rw [w64 (n := (k : Int) + 1) (by omega) (by omega)]
  by_cases c : (castAt t k).length ≥ (castAt t i).length
  · have e1 : needC t i (k + 1) = needC t i k + slAt t k := by
      show needC t i k + _ = _
      rw [if_pos (decide_eq_true c)]
    refine ev_pos (Int.ofNat_le.2 c) ?_
    rw [show wrap64 (needC t i k + (rd_T53 t.sc k).f1) = needC t i (k + 1) from by rw [e1]; exact w64 (n := needC t i k + slAt t k) (by omega) (by omega)]
    exact ih
  · have e1 : needC t i (k + 1) = needC t i k := by
      show needC t i k + _ = _
      rw [if_neg (show ¬ decide ((castAt t k).length ≥ (castAt t i).length) = true by rw [decide_eq_false c]; simp), Int.add_zero]
    refine ev_neg (fun h => c (Int.ofNat_le.1 h)) ?_
    rw [← e1]
    exact ih
theorem crowd_l1 {e : Nat} (he : (e : Int) ≤ t.sl) {i : Nat} (hi : i < t.sc.length) {x : Bool} (hout : Ev (fun q => if tight t e i = true then some true else rehearse_Task_crowded.l0 q (e : Int) t.sc (t.sc.length : Int) ((i + 1 : Nat) : Int) t.sc t.ro t.bu t.sl) x) {nm : ByteArray} {s1 : Int} : ∀ d r : Nat, r + d = t.ro.length →
    Ev (fun q => rehearse_Task_crowded.l1 q (e : Int) (i : Int) (roomC t e i r) 0 t.sc (t.sc.length : Int) (i : Int) (t.ro.length : Int) (r : Int) t.sc t.ro t.bu t.sl nm s1 (castAt t i)) x
 | 0, r, hd => by
  have hn := o.n
  obtain rfl : r = t.ro.length := by omega
  refine ev_step (fun k => by simp only [rehearse_Task_crowded.l1] <;> exact rfl) (ev_neg (by omega) (crowd_l2 o (room_le o e he i (Nat.le_refl _)) ?_ t.sc.length 0 (Nat.zero_add _)))
  rw [w64 (n := (i : Int) + 1) (by omega) (by omega)]
  unfold tight at hout
  simp only [decide_eq_true_eq] at hout
  exact hout
 | d + 1, r, hd => by
  have h4 := o.r4; have h32 := o.s2
  have ih := crowd_l1 he hi hout (nm := nm) (s1 := s1) d (r + 1) (by omega)
  have hl := room_le o e he i (show r ≤ t.ro.length by omega)
  refine ev_step (fun k => by simp only [rehearse_Task_crowded.l1] <;> exact rfl) (ev_pos (by omega) ?_)
  rw [fits_ev hi (show r < t.ro.length by omega), w64 (n := (r : Int) + 1) (by omega) (by omega)]
  refine ev_let ?_
  cases f : fitsB t i r
  · have e1 : roomC t e i (r + 1) = roomC t e i r := by
      show roomC t e i r + _ = _
      rw [if_neg (show ¬ fitsB t i r = true by rw [f]; simp), Int.add_zero]
    rw [e1] at ih
    exact ev_neg (by simp) ih
  · have e1 : roomC t e i (r + 1) = roomC t e i r + e := by
      show roomC t e i r + _ = _
      rw [if_pos f]
    refine ev_pos (c := true = true) rfl ?_
    rw [w64 (n := roomC t e i r + (e : Int)) (by omega) (by omega), ← e1]
    exact ih
theorem crowd_l0 {e : Nat} (he : (e : Int) ≤ t.sl) : ∀ d i : Nat, i + d = t.sc.length → Ev (fun q => rehearse_Task_crowded.l0 q (e : Int) t.sc (t.sc.length : Int) (i : Int) t.sc t.ro t.bu t.sl) (!(allR (fun i => !(tight t e i)) i d))
 | 0, i, hd => ev_step (fun k => by simp only [rehearse_Task_crowded.l0] <;> exact rfl) (ev_neg (by omega) (ev_now _))
 | d + 1, i, hd => by
  have ih := crowd_l0 he d (i + 1) (by omega)
  refine ev_step (fun k => by simp only [rehearse_Task_crowded.l0] <;> exact rfl) (ev_pos (by omega) (ev_pos (by omega) (ev_pos (by omega) (crowd_l1 o he (show i < t.sc.length by omega) ?_ t.ro.length 0 (Nat.zero_add _)))))
  rw [allR]
  cases h : tight t e i
  · rw [Bool.not_false, Bool.true_and]; exact ev_neg (by simp) ih
  · exact ev_pos (c := true = true) rfl (ev_now _)
theorem crowd_ev {e : Nat} (he : (e : Int) ≤ t.sl) : Ev (fun q => rehearse_Task_crowded.f q t.sc t.ro t.bu t.sl (e : Int)) (crowdB t e) := crowd_l0 o he t.sc.length 0 (Nat.zero_add _)
/-! ### crowded is necessary -/
theorem not_crowd {e : Nat} {q out : List Int} (s : SolS t e q) (r : SolR t q out) : crowdB t e = false := by
  unfold crowdB
  rw [Bool.not_eq_false']
  refine allR_iff.2 fun i _ hi => ?_
  rw [Bool.not_eq_true']
  refine decide_eq_false (Int.not_lt.2 ?_)
  refine cap o s r _ _ fun k hk p => ?_
  have hl := s.len
  have h := (r.room k (by omega)).2.2
  have p' := of_decide_eq_true p
  unfold fitsB at h ⊢
  have h' := of_decide_eq_true h
  exact decide_eq_true (by omega)
/-! ### Plan -/
def planE (t : Tk) (e : Nat) : Option (List S48) := if crowdB t e = true then none else (slotsD t e).map (planS t)
theorem planE_least {e : Nat} (h : (e : Int) < leastT t) : planE t e = none := by
  unfold planE
  by_cases c : crowdB t e = true
  · rw [if_pos c]
  · rw [if_neg c]
    cases hs : slotsD t e with
    | none => rfl
    | some q =>
      obtain ⟨s, out, ho⟩ := way_sol (dfs_way hs)
      have := least_le o s (roomsD_sol ho)
      omega
def outP : Option (List S48) → List S48 × Int
 | some l => (l, 0)
 | none => ([], 42)
omit o in
theorem slots_nil : Slots t [] := ⟨Nat.zero_le _, fun k hk => by simp at hk⟩
open Classical in
theorem untilD {e : Nat} : dfs e (fun p r => okS t e p r && exS t e p r) t.sc.length [] = slotsD t e := by
  refine dfs_more (n := t.sc.length) (fun d p r q hl w => ?_) t.sc.length [] (by simp)
  rw [len1] at hl
  have hq := way_pre w
  rw [len1] at hq
  unfold exS
  refine allR_iff.2 fun k h1 h2 => ?_
  obtain ⟨a, ha, h3, h4⟩ := way_at w k (by rw [len1]; omega) (by omega)
  unfold okS at h4
  have tl : (q.take k).length = k := by rw [List.length_take]; omega
  rw [tl, Bool.and_eq_true, Bool.and_eq_true, decide_eq_true_eq] at h4
  obtain ⟨⟨h5, h6⟩, _⟩ := h4
  unfold openB
  refine decide_eq_true ⟨a, h5, ?_⟩
  unfold possB at h6 ⊢
  rw [Bool.and_eq_true] at h6 ⊢
  refine ⟨h6.1, allR_iff.2 fun j _ hj => ?_⟩
  rw [len1] at hj
  have := allR_iff.1 h6.2 j (Nat.zero_le _) (by rw [tl]; omega)
  have e1 : rd (q.take k) (j : Int) = rd (p ++ [(r : Int)]) j := by
    obtain ⟨⟨s, hs⟩, _⟩ := hq
    rw [rd_take (show j < k by omega) (by omega), ← hs, rdI _ (show j < (p ++ [(r : Int)] ++ s).length by rw [List.length_append, len1]; omega), rdI _ (show j < (p ++ [(r : Int)]).length by rw [len1]; omega), List.getElem_append_left]
  rw [e1] at this
  exact this
theorem sol_slots {e : Nat} (he : (e : Int) ≤ t.sl) {q : List Int} (s : SolS t e q) : Slots t q :=
  ⟨by rw [s.len]; exact Nat.le_refl _, fun k hk => by have hl := s.len; have := s.slot k (by omega); exact ⟨this.1, by omega, s.away k (by omega)⟩⟩
theorem plan_l1 {q out : List Int} (hq : q.length ≤ 10) (ho : out.length = q.length) : ∀ (d i : Nat) (l : List S48), i + d = q.length → l = (mkS q out).take i → Ev (fun k => rehearse_Plan.l1 k out l q (q.length : Int) (i : Int)) (mkS q out, 0)
 | 0, i, l, hd, hl => by
  refine ev_step (fun k => by simp only [rehearse_Plan.l1] <;> exact rfl) (ev_neg (by omega) (ev_eq (ev_now _) ?_))
  rw [hl, List.take_of_length_le (by rw [mkS_len]; omega)]
 | d + 1, i, l, hd, hl => by
  have hlen : l.length = i := by rw [hl, List.length_take, mkS_len]; omega
  refine ev_step (fun k => by simp only [rehearse_Plan.l1] <;> exact rfl) (ev_pos (by omega) (ev_pos (by omega) (ev_pos (by omega) (ev_pos (by omega) (ev_pos (by omega) ?_)))))
  rw [w64 (n := (i : Int) + 1) (by omega) (by omega)]
  refine plan_l1 hq ho d (i + 1) _ (by omega) ?_
  rw [hl, List.take_succ_eq_append_getElem (show i < (mkS q out).length by rw [mkS_len]; omega), mkS_get]
theorem plan_l0 (hc : Hc t) : ∀ m e : Nat, e + m = t.sl.toNat + 1 → Ev (fun k => rehearse_Plan.l0 k (e : Int) t.sc t.ro t.bu t.sl) (outP (ff (planE t) m e))
 | 0, e, hm => by
  have h1 := o.s1
  exact ev_step (fun k => by simp only [rehearse_Plan.l0] <;> exact rfl) (ev_neg (by omega) (ev_now _))
 | m + 1, e, hm => by
  have h1 := o.s1; have h32 := o.s2; have hn := o.n
  have he : (e : Int) ≤ t.sl := by omega
  have ih := plan_l0 hc m (e + 1) (by omega)
  refine ev_step (fun k => by simp only [rehearse_Plan.l0] <;> exact rfl) (ev_pos he (Ev.bind (crowd_ev o he) ?_))
  rw [w64 (n := (e : Int) + 1) (by omega) (by omega)]
  unfold ff
  by_cases c : crowdB t e = true
  · rw [show planE t e = none from if_pos c]
    exact ev_pos c ih
  · rw [show planE t e = (slotsD t e).map (planS t) from if_neg c]
    refine ev_neg c ?_
    have hu : Ev (fun q => rehearse_Task_until.f q t.sc t.ro t.bu t.sl (e : Int)) (res [] (slotsD t e)) := by
      unfold rehearse_Task_until.f
      have := until_f o hc he t.sc.length [] slots_nil (by simp)
      rw [untilD o] at this
      exact Ev.bind this (ev_now _)
    refine Ev.bind hu ?_
    cases hs : slotsD t e with
    | none => exact ev_neg (by simp [res]) ih
    | some q =>
      obtain ⟨s, out, ho⟩ := way_sol (dfs_way hs)
      have r := roomsD_sol ho
      have hl := s.len
      refine ev_pos (c := true = true) rfl (Ev.bind (rooms_ev o (sol_slots o he s)) ?_)
      simp only [res]
      rw [ho]
      refine ev_eq (plan_l1 o (by omega) r.len q.length 0 [] (Nat.zero_add _) rfl) ?_
      show _ = (planS t q, (0 : Int))
      unfold planS
      rw [ho]; rfl
def planO (t : Tk) : List S48 × Int := outP (ff (planE t) (t.sl.toNat + 1) 0)
theorem plan_from {e : Nat} (h : (e : Int) ≤ leastT t) {m : Nat} (hm : e + m = t.sl.toNat + 1) : ff (planE t) m e = ff (planE t) (t.sl.toNat + 1) 0 := by
  have := ff_skip (f := planE t) (d := e) (m := m) (r := 0) (fun j _ hj => planE_least o (by omega))
  rw [hm, Nat.zero_add] at this
  exact this.symm
theorem plan_run (hc : Hc t) : Ev (fun k => rehearse_Plan.l0 k (leastT t) t.sc t.ro t.bu t.sl) (planO t) := by
  have h1 := o.s1
  have h0 : 0 ≤ leastT t := by
    have a := (mostU_le o 24 (Nat.le_refl _)).1
    have b := (mx_le (mostU t 24) (Int.tdiv (tot t t.sc.length + t.ro.length - 1) t.ro.length)).1
    unfold leastT; omega
  obtain ⟨e, he⟩ := Int.eq_ofNat_of_zero_le h0
  rw [he]
  by_cases h : e ≤ t.sl.toNat + 1
  · refine ev_eq (plan_l0 o hc (t.sl.toNat + 1 - e) e (by omega)) ?_
    unfold planO
    rw [plan_from o (by omega) (by omega)]
  · refine ev_step (fun k => by simp only [rehearse_Plan.l0] <;> exact rfl) (ev_neg (by omega) (ev_eq (ev_now _) ?_))
    unfold planO
    rw [ff_none.2 (fun j _ hj => planE_least o (by omega))]
    rfl
end
open Classical in
noncomputable def planR (t : Tk) : List S48 × Int := if chkT t = 0 then planO t else ([], chkT t)
theorem Plan_ev (t : Tk) (hc : Hc t) : Ev (fun k => rehearse_Plan.f k t.sc t.ro t.bu t.sl) (planR t) := by
  unfold rehearse_Plan.f planR
  refine Ev.bind (chk_ev t hc) ?_
  by_cases h : chkT t = 0
  · rw [if_pos h]; exact ev_pos h (Ev.bind (least_ev (chk_ok.1 h) hc) (plan_run (chk_ok.1 h) hc))
  · rw [if_neg h]; exact ev_neg h (ev_now _)
end Go.Proofs.Ytjppjppapdflmaa.PAll
