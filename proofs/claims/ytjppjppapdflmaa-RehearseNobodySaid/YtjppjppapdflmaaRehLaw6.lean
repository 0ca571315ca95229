/- RehearseNobody. -/
import Derived.Test.YtjppjppapdflmaaPAllf15
import Derived.Test.YtjppjppapdflmaaPAllf24
import Derived.Test.YtjppjppapdflmaaPAllf7
import Derived.Test.YtjppjppapdflmaaRPg
import Derived.Test.YtjppjppapdflmaaRehValid3
import Derived.Test.YtjppjppapdflmaaRehAwake
namespace Go.Proofs.Ytjppjppapdflmaa.PAll
set_option linter.unusedVariables false
set_option linter.unusedSectionVars false
set_option linter.unusedSimpArgs false
open Go Go.RowKit Go.Proofs.YtjppjppapdflmaaW.PrintWords Go.Proofs.YtjppjppapdflmaaW.PrintLast Go.Proofs.YtjppjppapdflmaaW.PrintMore Go.Proofs.Ytjppjppapdflmaa.MathNum Go.Proofs.Ytjppjppapdflmaa.EvWords

theorem awake_out6 : Ev (fun k => (dancestudiolaw50_awake.f k).bind fun t => some t) true := Ev.bind awake_ev (ev_now _)
def cnt (P : Nat → Bool) : Nat → Int
 | 0 => 0
 | n + 1 => cnt P n + if P n = true then 1 else 0
theorem cnt_le (P : Nat → Bool) : ∀ n, 0 ≤ cnt P n ∧ cnt P n ≤ n
 | 0 => by unfold cnt; omega
 | n + 1 => by
  have := cnt_le P n
  unfold cnt
  by_cases p : P n = true
  · rw [if_pos p]; omega
  · rw [if_neg p]; omega
theorem cnt_pos {P : Nat → Bool} : ∀ {n}, 0 < cnt P n → ∃ j, j < n ∧ P j = true
 | 0, h => by unfold cnt at h; omega
 | n + 1, h => by
  unfold cnt at h
  by_cases p : P n = true
  · exact ⟨n, by omega, p⟩
  · rw [if_neg p] at h
    obtain ⟨j, h1, h2⟩ := cnt_pos (P := P) (n := n) (by omega)
    exact ⟨j, by omega, h2⟩
theorem cnt_one {P : Nat → Bool} : ∀ {n}, (∀ i k, k < i → i < n → P i = true → P k = true → False) → cnt P n ≤ 1
 | 0, _ => by unfold cnt; omega
 | n + 1, h => by
  have ih := cnt_one (P := P) (n := n) (fun i k h1 h2 => h i k h1 (by omega))
  unfold cnt
  by_cases p : P n = true
  · rw [if_pos p]
    have h0 := (cnt_le P n).1
    by_cases z : 0 < cnt P n
    · obtain ⟨j, h1, h2⟩ := cnt_pos z
      exact (h n j h1 (by omega) p h2).elim
    · omega
  · rw [if_neg p]; omega
def covB (t : Tk) (l : List S48) (slot : Int) (j : Nat) : Bool := decide (st l j ≤ slot) && decide (slot < st l j + slAt t j)
def cntD (t : Tk) (l : List S48) (slot d : Int) (n : Nat) : Int := cnt (fun j => covB t l slot j && decide (d ∈ castAt t j)) n
def cntR (t : Tk) (l : List S48) (slot r : Int) (n : Nat) : Int := cnt (fun j => covB t l slot j && decide (rm l j = r)) n
section
variable {t : Tk} {l : List S48} (v : Vld t l) (hc : Hc t) {slot : Int}
include v
theorem cov_meet {i k : Nat} (h1 : covB t l slot i = true) (h2 : covB t l slot k = true) : meetB t i (st l i) k (st l k) = true := by
  unfold covB at h1 h2
  rw [Bool.and_eq_true, decide_eq_true_eq, decide_eq_true_eq] at h1 h2
  unfold meetB
  rw [Bool.and_eq_true, decide_eq_true_eq, decide_eq_true_eq]
  omega
theorem cntD_one (d : Int) : cntD t l slot d t.sc.length ≤ 1 := cnt_one fun i k hk hi p1 p2 => by
  rw [Bool.and_eq_true, decide_eq_true_eq] at p1 p2
  exact v.ncc (some2_first.2 ⟨i, k, hk, hi, cov_meet v p1.1 p2.1, List.any_eq_true.2 ⟨d, p1.2, decide_eq_true p2.2⟩⟩)
theorem cntR_one (r : Int) : cntR t l slot r t.sc.length ≤ 1 := cnt_one fun i k hk hi p1 p2 => by
  rw [Bool.and_eq_true, decide_eq_true_eq] at p1 p2
  exact v.nrc (some2_first.2 ⟨i, k, hk, hi, cov_meet v p1.1 p2.1, p1.2.trans p2.2.symm⟩)
theorem busy_none {b : S59} (hb : b ∈ t.bu) (h1 : b.f1.f0 ≤ slot) (h2 : slot < b.f1.f1) : ¬ 0 < cntD t l slot b.f0 t.sc.length := fun h => by
  obtain ⟨j, hj, p⟩ := cnt_pos h
  rw [Bool.and_eq_true, decide_eq_true_eq] at p
  have hw := v.away j hj
  unfold awayB at hw
  rw [List.any_eq_false] at hw
  refine hw b hb ?_
  have c := p.1
  unfold covB at c
  rw [Bool.and_eq_true, decide_eq_true_eq, decide_eq_true_eq] at c
  rw [Bool.and_eq_true]
  refine ⟨decide_eq_true ?_, decide_eq_true p.2⟩
  unfold mx mn
  by_cases q1 : b.f1.f0 < st l j <;> by_cases q2 : st l j + slAt t j < b.f1.f1 <;> simp only [q1, q2, if_true, if_false] <;> omega
theorem nobody_once {x7 : List Int} (h7 : x7.length = 24) (hv : ∀ d, 0 ≤ d → d < 24 → rd x7 d = cntD t l slot d t.sc.length) : ∀ e i : Nat, i + e = 24 → Ev (fun k => dancestudiolaw50_once.l0 k x7 (i : Int)) true
 | 0, i, he => ev_step (fun k => by simp only [dancestudiolaw50_once.l0] <;> exact rfl) (ev_neg (by omega) (ev_now _))
 | e + 1, i, he => by
  refine ev_step (fun k => by simp only [dancestudiolaw50_once.l0] <;> exact rfl) (ev_pos (by omega) (ev_pos (by omega) (ev_pos (by omega) ?_)))
  rw [hv i (by omega) (by omega), w64 (n := (i : Int) + 1) (by omega) (by omega)]
  exact ev_neg (by have := cntD_one v (slot := slot) (i : Int); omega) (nobody_once h7 hv e (i + 1) (by omega))
theorem nobody_l2 {x7 x8 : List Int} (h7 : x7.length = 24) (h8 : x8.length = 4) (hv7 : ∀ d, 0 ≤ d → d < 24 → rd x7 d = cntD t l slot d t.sc.length) (hv8 : ∀ r, 0 ≤ r → r < 4 → rd x8 r = cntR t l slot r t.sc.length) : ∀ e i : Nat, i + e = t.bu.length →
    Ev (fun k => dancestudiolaw50_RehearseNobody.l2 k slot x7 x8 (i : Int) t.sc t.ro t.bu t.sl) true
 | 0, i, he => by
  have a0 := hv8 0 (by omega) (by omega); have a1 := hv8 1 (by omega) (by omega); have a2 := hv8 2 (by omega) (by omega); have a3 := hv8 3 (by omega) (by omega)
  have b0 := cntR_one v (slot := slot) 0; have b1 := cntR_one v (slot := slot) 1; have b2 := cntR_one v (slot := slot) 2; have b3 := cntR_one v (slot := slot) 3
  refine ev_step (fun k => by simp only [dancestudiolaw50_RehearseNobody.l2] <;> exact rfl) (ev_neg (by omega) (ev_pos (by omega) (ev_pos (by omega) (ev_pos (by omega) (ev_pos (by omega) (ev_pos ?_ (Ev.bind (nobody_once v h7 hv7 24 0 rfl) (ev_pos (c := true = true) rfl awake_out6))))))))
  have m1 := (mx_le (rd x8 0) (rd x8 1)).2.2; have m2 := (mx_le (mx (rd x8 0) (rd x8 1)) (rd x8 2)).2.2; have m3 := (mx_le (mx (mx (rd x8 0) (rd x8 1)) (rd x8 2)) (rd x8 3)).2.2
  rcases m3 with m3 | m3 <;> rcases m2 with m2 | m2 <;> rcases m1 with m1 | m1 <;> omega
 | e + 1, i, he => by
  have o := v.ok
  have hbn := o.bn
  have hi : i < t.bu.length := by omega
  have ih := nobody_l2 h7 h8 hv7 hv8 e (i + 1) (by omega)
  have nb := o.bu i hi
  rw [rd59 _ hi] at nb
  unfold badB at nb
  refine ev_step (fun k => by simp only [dancestudiolaw50_RehearseNobody.l2] <;> exact rfl) (ev_pos (by omega) (ev_pos (by omega) ?_))
  rw [rd59 _ hi, w64 (n := (i : Int) + 1) (by omega) (by omega)]
  refine ev_neg (by omega) (ev_neg (by omega) ?_)
  by_cases q1 : t.bu[i].f1.f0 ≤ slot
  · refine ev_pos q1 ?_
    by_cases q2 : slot < t.bu[i].f1.f1
    · refine ev_pos q2 (ev_pos (by omega) (ev_pos (by omega) (ev_neg ?_ ih)))
      rw [hv7 _ (by omega) (by omega)]
      exact busy_none v (List.getElem_mem hi) q1 q2
    · exact ev_neg q2 ih
  · exact ev_neg q1 ih
theorem nobody_l1 {i : Nat} (hi : i < t.sc.length) (hcv : covB t l slot i = true) (hcl : (castAt t i).length < 9223372036854775808) {x8 : List Int} {nm : ByteArray} {s1 : Int}
    (hout : ∀ x7, x7.length = 24 → (∀ d, 0 ≤ d → d < 24 → rd x7 d = cntD t l slot d (i + 1)) → Ev (fun k => dancestudiolaw50_RehearseNobody.l0 k l slot x7 x8 ((i + 1 : Nat) : Int) t.sc t.ro t.bu t.sl) true) :
    ∀ (e j : Nat) (x7 : List Int), j + e = (castAt t i).length → x7.length = 24 → (∀ d, 0 ≤ d → d < 24 → rd x7 d = cntD t l slot d i + if d ∈ (castAt t i).take j then 1 else 0) →
      Ev (fun k => dancestudiolaw50_RehearseNobody.l1 k l slot x7 x8 (i : Int) (j : Int) t.sc t.ro t.bu t.sl nm s1 (castAt t i)) true
 | 0, j, x7, he, h7, hv => by
  have hn := v.ok.n
  refine ev_step (fun k => by simp only [dancestudiolaw50_RehearseNobody.l1] <;> exact rfl) (ev_neg (by omega) ?_)
  rw [w64 (n := (i : Int) + 1) (by omega) (by omega)]
  refine hout x7 h7 fun d d0 d1 => ?_
  rw [hv d d0 d1, List.take_of_length_le (by omega)]
  show _ = cnt _ i + _
  by_cases m : d ∈ castAt t i
  · rw [if_pos m, if_pos (show (covB t l slot i && decide (d ∈ castAt t i)) = true by rw [hcv, decide_eq_true m]; rfl)]; rfl
  · rw [if_neg m, if_neg (show ¬ (covB t l slot i && decide (d ∈ castAt t i)) = true by rw [decide_eq_false m]; simp)]; rfl
 | e + 1, j, x7, he, h7, hv => by
  have o := v.ok
  have hn := o.n
  have hj : j < (castAt t i).length := by omega
  obtain ⟨g0, g1⟩ := o.rg i hi _ (List.getElem_mem hj)
  have hnot : (castAt t i)[j] ∉ (castAt t i).take j := by
    have := dup_nodup.2 (o.nd i hi) j hj
    unfold dupE at this
    rw [rdI _ hj] at this
    intro h; rw [if_pos h] at this; omega
  have hval : rd x7 (castAt t i)[j] = cntD t l slot (castAt t i)[j] i := by rw [hv _ g0 g1, if_neg hnot]; omega
  have hle := cnt_le (fun m => covB t l slot m && decide ((castAt t i)[j] ∈ castAt t m)) i
  have hle2 : 0 ≤ cntD t l slot (castAt t i)[j] i ∧ cntD t l slot (castAt t i)[j] i ≤ i := hle
  refine ev_step (fun k => by simp only [dancestudiolaw50_RehearseNobody.l1] <;> exact rfl) (ev_pos (by omega) (ev_pos (by omega) ?_))
  rw [rdI _ hj]
  refine ev_neg (by omega) (ev_neg (by omega) (ev_pos g0 (ev_pos (by omega) ?_)))
  rw [hval, w64 (n := (j : Int) + 1) (by omega) (by omega), w64 (n := cntD t l slot (castAt t i)[j] i + 1) (by omega) (by omega)]
  refine nobody_l1 hi hcv hcl hout e (j + 1) _ (by omega) (by rw [List.length_set]; exact h7) fun d d0 d1 => ?_
  rw [rd_set g0 (by omega) d0, List.take_succ_eq_append_getElem hj]
  by_cases q : d = (castAt t i)[j]
  · rw [if_pos q, q, if_pos (List.mem_append_right _ (List.mem_singleton.2 rfl))]
  · rw [if_neg q, hv d d0 d1]
    simp only [List.mem_append, List.mem_singleton, q, or_false]
include hc
theorem nobody_l0 : ∀ (e i : Nat) (x7 x8 : List Int), i + e = t.sc.length → x7.length = 24 → x8.length = 4 → (∀ d, 0 ≤ d → d < 24 → rd x7 d = cntD t l slot d i) → (∀ r, 0 ≤ r → r < 4 → rd x8 r = cntR t l slot r i) →
    Ev (fun k => dancestudiolaw50_RehearseNobody.l0 k l slot x7 x8 (i : Int) t.sc t.ro t.bu t.sl) true
 | 0, i, x7, x8, he, h7, h8, hv7, hv8 => by
  have hl := v.len
  obtain rfl : i = t.sc.length := by omega
  exact ev_step (fun k => by simp only [dancestudiolaw50_RehearseNobody.l0] <;> exact rfl) (ev_neg (by omega) (nobody_l2 v h7 h8 hv7 hv8 t.bu.length 0 (Nat.zero_add _)))
 | e + 1, i, x7, x8, he, h7, h8, hv7, hv8 => by
  have o := v.ok
  have hl := v.len; have hn := o.n; have h32 := o.s2; have h4 := o.r4; have h1s := o.s1
  have hi : i < t.sc.length := by omega
  have hs := v.slot i hi; have hln := o.ln i hi
  obtain ⟨r0, r1, r2⟩ := v.room i hi
  obtain ⟨r, hr⟩ := Int.eq_ofNat_of_zero_le r0
  have hr' : (rd_T48 l (i : Int)).f1 = (r : Int) := hr
  have hst : (rd_T48 l (i : Int)).f2 = st l i := rfl
  have hfit := of_decide_eq_true r2
  rw [hr] at r1
  have hfit2 : ((castAt t i).length : Int) ≤ szAt t r := by rw [hr, Int.toNat_natCast] at hfit; exact hfit
  refine ev_step (fun k => by simp only [dancestudiolaw50_RehearseNobody.l0] <;> exact rfl) (ev_pos (by omega) (ev_pos (by omega) (ev_pos (by omega) (ev_pos (c := scn l i = i) (v.form i hi) ?_))))
  rw [hst, hr', show wrap64 (t.sl - (rd_T53 t.sc i).f1) = t.sl - slAt t i from w64 (n := t.sl - slAt t i) (by omega) (by omega)]
  refine ev_neg (by omega) (ev_neg (by omega) (ev_neg (by omega) (ev_neg (by omega) (ev_pos (by omega) (ev_pos (by omega) ?_)))))
  rw [show decide (((rd_T53 t.sc (i : Int)).f2.length : Int) > (rd_T55 t.ro (r : Int)).f0) = false from decide_eq_false (by unfold castAt szAt at hfit2; omega)]
  have skip : ∀ b : Bool, b = true → covB t l slot i = false → Ev (fun k => dancestudiolaw50_RehearseNobody.j3 k l slot x7 x8 (i : Int) b t.sc t.ro t.bu t.sl (rd_T53 t.sc i).f0 (slAt t i) (castAt t i)) true := fun b hb hcv => by
    refine ev_step (fun k => by simp only [dancestudiolaw50_RehearseNobody.j3] <;> exact rfl) (ev_pos hb ?_)
    rw [w64 (n := (i : Int) + 1) (by omega) (by omega)]
    refine nobody_l0 e (i + 1) x7 x8 (by omega) h7 h8 (fun d d0 d1 => ?_) (fun r d0 d1 => ?_)
    · rw [hv7 d d0 d1]
      show _ = cnt _ i + _
      rw [if_neg (show ¬ (covB t l slot i && decide (d ∈ castAt t i)) = true by rw [hcv]; simp), Int.add_zero]; rfl
    · rw [hv8 r d0 d1]
      show _ = cnt _ i + _
      rw [if_neg (show ¬ (covB t l slot i && decide (rm l i = r)) = true by rw [hcv]; simp), Int.add_zero]; rfl
  refine ev_step (fun k => by simp only [dancestudiolaw50_RehearseNobody.j2] <;> exact rfl) (ev_neg (by simp) (ev_pos (by omega) (ev_pos (by omega) ?_)))
  rw [hst]
  by_cases q1 : slot < st l i
  · exact ev_pos q1 (skip true rfl (by unfold covB; rw [decide_eq_false (show ¬ st l i ≤ slot by omega)]; rfl))
  · refine ev_neg q1 ?_
    rw [show wrap64 (st l i + (rd_T53 t.sc i).f1) = st l i + slAt t i from w64 (n := st l i + slAt t i) (by omega) (by omega)]
    by_cases q2 : slot ≥ st l i + slAt t i
    · exact skip _ (decide_eq_true q2) (by unfold covB; rw [decide_eq_false (show ¬ slot < st l i + slAt t i by omega), Bool.and_false])
    · have hcv : covB t l slot i = true := by unfold covB; rw [decide_eq_true (show st l i ≤ slot by omega), decide_eq_true (show slot < st l i + slAt t i by omega)]; rfl
      rw [show decide (slot ≥ st l i + slAt t i) = false from decide_eq_false q2]
      refine ev_step (fun k => by simp only [dancestudiolaw50_RehearseNobody.j3] <;> exact rfl) (ev_neg (by simp) (ev_pos (by omega) (ev_pos (by omega) ?_)))
      rw [hr']
      have hle : 0 ≤ cntR t l slot r i ∧ cntR t l slot r i ≤ i := cnt_le _ i
      refine ev_neg (by omega) (ev_pos (by omega) (ev_pos (by omega) ?_))
      rw [hv8 r (by omega) (by omega), w64 (n := cntR t l slot r i + 1) (by omega) (by omega)]
      refine nobody_l1 v hi hcv (hc.at_ hi) (fun x7' h7' hv7' => ?_) _ 0 x7 (Nat.zero_add _) h7 (fun d d0 d1 => by rw [hv7 d d0 d1]; simp)
      refine nobody_l0 e (i + 1) x7' _ (by omega) h7' (by rw [List.length_set]; exact h8) hv7' fun s d0 d1 => ?_
      rw [rd_set (show (0 : Int) ≤ (r : Int) by omega) (by omega) d0]
      show _ = cnt _ i + _
      by_cases q : s = (r : Int)
      · rw [if_pos q, if_pos (show (covB t l slot i && decide (rm l i = s)) = true by rw [hcv, decide_eq_true (hr.trans q.symm)]; rfl), q]; rfl
      · rw [if_neg q, if_neg (show ¬ (covB t l slot i && decide (rm l i = s)) = true by rw [decide_eq_false (fun h => q (h.symm.trans hr))]; simp), Int.add_zero, hv8 s d0 d1]; rfl
end
theorem pure_RehearseNobody (t : Tk) (hs : t.sc.length ≤ maxLen ∧ Hc t) (_ : t.ro.length ≤ maxLen) (_ : t.bu.length ≤ maxLen) (_ : -9223372036854775808 ≤ t.sl ∧ t.sl ≤ 9223372036854775807) (l : List S48) (_ : l.length ≤ maxLen) (hl : Hl l) (slot : Int) (_ : -9223372036854775808 ≤ slot ∧ slot ≤ 9223372036854775807) : ∃ k, dancestudiolaw50_RehearseNobody.f k t.sc t.ro t.bu t.sl l slot = some true := by
  refine ev_some (g := fun k => dancestudiolaw50_RehearseNobody.f k t.sc t.ro t.bu t.sl l slot) ?_
  have hc := hs.2
  unfold dancestudiolaw50_RehearseNobody.f dancestudiolaw50_of.f
  refine ev_let (Ev.bind (Valid_ev t hc l hl) ?_)
  by_cases h : validS t l = 0
  · have v := valid_ok.1 h
    have hlen := v.len
    refine ev_pos h (ev_let (Ev.bind (chk_ev t hc) (ev_pos (chk_ok.2 v.ok) ?_)))
    rw [show ((l.length : Int) != (t.sc.length : Int)) = false by rw [hlen]; simp]
    refine ev_step (fun k => by simp only [dancestudiolaw50_RehearseNobody.j0] <;> exact rfl) (ev_neg (by simp) ?_)
    have z := nobody_l0 v hc (slot := slot) t.sc.length 0 (List.replicate 24 0) (List.replicate 4 0) (Nat.zero_add _) (by simp) (by simp) (fun d d0 d1 => by rw [rd_rep d0 (by omega)]; rfl) (fun r d0 d1 => by rw [rd_rep d0 (by omega)]; rfl)
    first | exact ev_pos (by omega) (ev_pos (by omega) z) | exact z | exact ev_pos trivial (ev_pos trivial z)
  · exact ev_neg h awake_out6
end Go.Proofs.Ytjppjppapdflmaa.PAll
