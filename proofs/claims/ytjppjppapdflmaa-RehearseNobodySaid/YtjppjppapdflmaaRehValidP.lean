/- Sessions: what the program answers. -/
import Derived.Test.YtjppjppapdflmaaRPg
import Derived.Test.YtjppjppapdflmaaRehLeast
namespace Go.Proofs.Ytjppjppapdflmaa.PAll
set_option linter.unusedVariables false
set_option linter.unusedSectionVars false
set_option linter.unusedSimpArgs false
open Go Go.RowKit Go.Proofs.YtjppjppapdflmaaW.PrintWords Go.Proofs.YtjppjppapdflmaaW.PrintLast Go.Proofs.YtjppjppapdflmaaW.PrintMore Go.Proofs.Ytjppjppapdflmaa.MathNum Go.Proofs.Ytjppjppapdflmaa.EvWords

def mnx (a b c d : Int) : Bool := decide (mx a b < mn c d)
def awayB (t : Tk) (i : Nat) (a : Int) : Bool := t.bu.any fun b => mnx b.f1.f0 a b.f1.f1 (a + slAt t i) && decide (b.f0 ∈ castAt t i)
def meetB (t : Tk) (i : Nat) (a : Int) (k : Nat) (b : Int) : Bool := decide (a < b + slAt t k) && decide (b < a + slAt t i)
def shareB (t : Tk) (i k : Nat) : Bool := (castAt t i).any fun d => decide (d ∈ castAt t k)
def fitsB (t : Tk) (i r : Nat) : Bool := decide (((castAt t i).length : Int) ≤ szAt t r)
def sessE (t : Tk) (i : Nat) (room slot : Int) : Int := if room < 0 ∨ (t.ro.length : Int) ≤ room ∨ fitsB t i room.toNat = false then 41 else if slot < 0 ∨ t.sl - slAt t i < slot then 1 else if awayB t i slot = true then 42 else 0
def Hc (t : Tk) : Prop := ∀ s ∈ t.sc, s.f2.length < 9223372036854775808
theorem Hc.at_ {t : Tk} (hc : Hc t) {i : Nat} (hi : i < t.sc.length) : (castAt t i).length < 9223372036854775808 := hc _ (by rw [rd53 _ hi]; exact List.getElem_mem _)
section
variable {t : Tk} (o : Okt t) (hc : Hc t)
theorem fits_ev {i r : Nat} (hi : i < t.sc.length) (hr : r < t.ro.length) : rehearse_Task_fits.f t.sc t.ro t.bu t.sl (i : Int) (r : Int) = some (fitsB t i r) := by
  unfold rehearse_Task_fits.f
  rw [if_pos (by omega), if_pos (by omega), if_pos (by omega), if_pos (by omega)]
  rfl
include o hc
theorem away_l0 {i : Nat} (hi : i < t.sc.length) {a : Int} (h0 : 0 ≤ a) (h1 : a ≤ 1000) (nm : ByteArray) : ∀ e j : Nat, j + e = t.bu.length →
    Ev (fun k => rehearse_Task_away.l0 k a t.bu (t.bu.length : Int) (j : Int) nm (slAt t i) (castAt t i)) ((t.bu.drop j).any fun b => mnx b.f1.f0 a b.f1.f1 (a + slAt t i) && decide (b.f0 ∈ castAt t i))
 | 0, j, he => by
  refine ev_step (fun k => by simp only [rehearse_Task_away.l0] <;> exact rfl) (ev_neg (by omega) (ev_eq (ev_now _) ?_))
  rw [List.drop_of_length_le (by omega)]; rfl
 | e + 1, j, he => by
  have hj : j < t.bu.length := by omega
  have hb := o.bn
  have hs := o.ln i hi
  have h32 := o.s2
  have ih := away_l0 hi h0 h1 nm e (j + 1) (by omega)
  refine ev_step (fun k => by simp only [rehearse_Task_away.l0] <;> exact rfl) (ev_pos (by omega) (ev_pos (by omega) (ev_pos (by omega) ?_)))
  rw [rd59 _ hj, w64 (n := (j : Int) + 1) (by omega) (by omega), w64 (n := a + slAt t i) (by omega) (by omega), List.drop_eq_getElem_cons hj, List.any_cons]
  by_cases q : mx t.bu[j].f1.f0 a < mn t.bu[j].f1.f1 (a + slAt t i)
  · refine ev_pos q ?_
    rw [show mnx t.bu[j].f1.f0 a t.bu[j].f1.f1 (a + slAt t i) = true from decide_eq_true q, Bool.true_and]
    refine Ev.bind (contains_ev _ _ (hc.at_ hi)) ?_
    by_cases m : t.bu[j].f0 ∈ castAt t i
    · rw [decide_eq_true m]; exact ev_pos (c := true = true) rfl (ev_now _)
    · rw [decide_eq_false m, Bool.false_or]; exact ev_neg (by simp) ih
  · refine ev_neg q ?_
    rw [show mnx t.bu[j].f1.f0 a t.bu[j].f1.f1 (a + slAt t i) = false from decide_eq_false q, Bool.false_and, Bool.false_or]
    exact ih
theorem away_ev {i : Nat} (hi : i < t.sc.length) {a : Int} (h0 : 0 ≤ a) (h1 : a ≤ 1000) : Ev (fun k => rehearse_Task_away.f k t.sc t.ro t.bu t.sl (i : Int) a) (awayB t i a) := by
  unfold rehearse_Task_away.f
  exact ev_pos (by omega) (ev_pos (by omega) (away_l0 o hc hi h0 h1 _ t.bu.length 0 (by omega)))
omit hc in
theorem meet_ev {i j : Nat} (hi : i < t.sc.length) (hj : j < t.sc.length) {a b : Int} (a0 : 0 ≤ a) (a1 : a ≤ 1000) (b0 : 0 ≤ b) (b1 : b ≤ 1000) : rehearse_Task_meet.f t.sc t.ro t.bu t.sl (i : Int) a (j : Int) b = some (meetB t i a j b) := by
  have hs := o.ln i hi
  have hs' := o.ln j hj
  have h32 := o.s2
  unfold rehearse_Task_meet.f meetB
  rw [if_pos (by omega), if_pos (by omega), w64 (n := b + (rd_T53 t.sc j).f1) (by unfold slAt at hs'; omega) (by unfold slAt at hs'; omega)]
  by_cases q : a < b + (rd_T53 t.sc j).f1
  · rw [if_pos q, if_pos (by omega), if_pos (by omega), w64 (n := a + (rd_T53 t.sc i).f1) (by unfold slAt at hs; omega) (by unfold slAt at hs; omega), show decide (a < b + slAt t j) = true from decide_eq_true q]
    rfl
  · rw [if_neg q, show decide (a < b + slAt t j) = false from decide_eq_false q]; rfl
omit o in
theorem idxf_l0 {i j : Nat} (hi : i < t.sc.length) (hj : j < t.sc.length) : ∀ e m : Nat, m + e = (castAt t i).length →
    ∃ r : Int, (r ≥ 0 ↔ ((castAt t i).drop m).any (fun d => decide (d ∈ castAt t j)) = true) ∧ Ev (fun k => slices_IndexFunc_int_int.l0 k (castAt t i) (j : Int) ((castAt t i).length : Int) (m : Int) t.sc t.ro t.bu t.sl) r
 | 0, m, he => by
  refine ⟨-1, ?_, ev_step (fun k => by simp only [slices_IndexFunc_int_int.l0] <;> exact rfl) (ev_neg (by omega) (ev_now _))⟩
  rw [List.drop_of_length_le (by omega)]; simp
 | e + 1, m, he => by
  have hn := hc.at_ hi
  have hm : m < (castAt t i).length := by omega
  have pre : ∀ {r : Int}, Ev (fun k => if decide ((castAt t i)[m] ∈ castAt t j) = true then some (m : Int) else slices_IndexFunc_int_int.l0 k (castAt t i) (j : Int) ((castAt t i).length : Int) ((m + 1 : Nat) : Int) t.sc t.ro t.bu t.sl) r → Ev (fun k => slices_IndexFunc_int_int.l0 k (castAt t i) (j : Int) ((castAt t i).length : Int) (m : Int) t.sc t.ro t.bu t.sl) r := by
    intro r h
    refine ev_step (fun k => by simp only [slices_IndexFunc_int_int.l0] <;> exact rfl) (ev_pos (by omega) (ev_pos (by omega) (ev_pos (by omega) ?_)))
    rw [rdI _ hm, w64 (n := (m : Int) + 1) (by omega) (by omega)]
    refine Ev.bind (a := decide ((castAt t i)[m] ∈ castAt t j)) ?_ h
    unfold rehearse_Task_share_fn1.f
    exact ev_pos (by omega) (ev_pos (by omega) (Ev.bind (contains_ev _ _ (hc.at_ hj)) (ev_now _)))
  rw [List.drop_eq_getElem_cons hm, List.any_cons]
  by_cases h : (castAt t i)[m] ∈ castAt t j
  · exact ⟨m, ⟨fun _ => by rw [decide_eq_true h]; rfl, fun _ => by omega⟩, pre (ev_pos (decide_eq_true h) (ev_now _))⟩
  · obtain ⟨r, hr, er⟩ := idxf_l0 hi hj e (m + 1) (by omega)
    exact ⟨r, by rw [decide_eq_false h, Bool.false_or]; exact hr, pre (ev_neg (by rw [decide_eq_false h]; simp) er)⟩
omit o in
theorem share_ev {i j : Nat} (hi : i < t.sc.length) (hj : j < t.sc.length) : Ev (fun k => rehearse_Task_share.f k t.sc t.ro t.bu t.sl (i : Int) (j : Int)) (shareB t i j) := by
  unfold rehearse_Task_share.f
  obtain ⟨r, hr, er⟩ := idxf_l0 hc hi hj (castAt t i).length 0 (by omega)
  refine ev_pos (by omega) (ev_pos (by omega) (Ev.bind (Ev.bind er (ev_now _)) (ev_eq (ev_now _) ?_)))
  rw [List.drop_zero] at hr
  by_cases h : r ≥ 0
  · rw [decide_eq_true h]; exact (hr.1 h).symm
  · rw [decide_eq_false h]; exact (Bool.eq_false_iff.2 fun q => h (hr.2 q)).symm
/-! ### a session -/
theorem sess_ev {i : Nat} (hi : i < t.sc.length) (x room slot : Int) (hlo : -9223372036854775808 ≤ slot) (hhi : slot ≤ 9223372036854775807) : Ev (fun k => rehearse_Task_session.f k t.sc t.ro t.bu t.sl (i : Int) x room slot) (sessE t i room slot) := by
  have hs := o.ln i hi
  have h1 := o.s1; have h32 := o.s2; have h4 := o.r4
  have tl1 : ∀ b : Bool, b = decide (slot < 0 ∨ t.sl - slAt t i < slot) → Ev (fun k => rehearse_Task_session.j1 k (i : Int) b t.sc t.ro t.bu t.sl x room slot) (if slot < 0 ∨ t.sl - slAt t i < slot then 1 else if awayB t i slot = true then 42 else 0) := by
    intro b hb
    refine ev_step (fun k => by simp only [rehearse_Task_session.j1] <;> exact rfl) ?_
    by_cases h : slot < 0 ∨ t.sl - slAt t i < slot
    · rw [if_pos h]; exact ev_pos (hb.trans (decide_eq_true h)) (ev_now _)
    · rw [if_neg h]
      refine ev_neg (by rw [hb, decide_eq_false h]; simp) (Ev.bind (away_ev o hc hi (by omega) (by omega)) ?_)
      by_cases w : awayB t i slot = true
      · exact ev_eq (ev_pos w (ev_now _)) (if_pos w).symm
      · exact ev_eq (ev_neg w (ev_now _)) (if_neg w).symm
  have tl : ∀ b : Bool, b = decide (room < 0 ∨ (t.ro.length : Int) ≤ room ∨ fitsB t i room.toNat = false) → Ev (fun k => rehearse_Task_session.j0 k (i : Int) b t.sc t.ro t.bu t.sl x room slot) (sessE t i room slot) := by
    intro b hb
    unfold sessE
    refine ev_step (fun k => by simp only [rehearse_Task_session.j0] <;> exact rfl) ?_
    by_cases h : room < 0 ∨ (t.ro.length : Int) ≤ room ∨ fitsB t i room.toNat = false
    · rw [if_pos h]; exact ev_pos (hb.trans (decide_eq_true h)) (ev_now _)
    rw [if_neg h]
    refine ev_neg (by rw [hb, decide_eq_false h]; simp) ?_
    by_cases h' : slot < 0
    · exact ev_pos h' (tl1 true (by simp [h']))
    · refine ev_neg h' (ev_pos (by omega) (ev_pos (by omega) ?_))
      refine tl1 _ ?_
      rw [show wrap64 (t.sl - (rd_T53 t.sc i).f1) = t.sl - slAt t i from w64 (n := t.sl - slAt t i) (by omega) (by omega)]
      exact decide_eq_decide.2 (by omega)
  unfold rehearse_Task_session.f
  by_cases h : room < 0
  · exact ev_pos h (tl true (by simp [h]))
  by_cases h' : room ≥ (t.ro.length : Int)
  · exact ev_neg h (ev_pos h' (tl true (decide_eq_true (.inr (.inl h'))).symm))
  · refine ev_neg h (ev_neg h' ?_)
    obtain ⟨r, rfl⟩ := Int.eq_ofNat_of_zero_le (Int.not_lt.1 h)
    rw [fits_ev hi (by omega)]
    refine ev_let (tl _ ?_)
    rw [Int.toNat_natCast]
    cases hf : fitsB t i r
    · exact (decide_eq_true (.inr (.inr rfl))).symm
    · exact (decide_eq_false (fun q => by rcases q with q | q | q; (exact h q); (exact h' q); (cases q))).symm
end
theorem sessE_ok {t : Tk} {i : Nat} {room slot : Int} : sessE t i room slot = 0 ↔ (0 ≤ room ∧ room < (t.ro.length : Int) ∧ fitsB t i room.toNat = true) ∧ (0 ≤ slot ∧ slot + slAt t i ≤ t.sl) ∧ awayB t i slot = false := by
  unfold sessE
  by_cases h1 : room < 0 ∨ (t.ro.length : Int) ≤ room ∨ fitsB t i room.toNat = false
  · rw [if_pos h1]
    refine ⟨fun h => by omega, fun h => ?_⟩
    rcases h1 with q | q | q
    · omega
    · omega
    · rw [h.1.2.2] at q; cases q
  rw [if_neg h1]
  have h1' : 0 ≤ room ∧ room < (t.ro.length : Int) ∧ fitsB t i room.toNat = true := ⟨Int.not_lt.1 fun q => h1 (.inl q), Int.not_le.1 fun q => h1 (.inr (.inl q)), by
    cases q : fitsB t i room.toNat
    · exact absurd (.inr (.inr q)) h1
    · rfl⟩
  by_cases h2 : slot < 0 ∨ t.sl - slAt t i < slot
  · rw [if_pos h2]; exact ⟨fun h => by omega, fun h => by omega⟩
  rw [if_neg h2]
  cases h3 : awayB t i slot
  · exact ⟨fun _ => ⟨h1', by omega, rfl⟩, fun _ => if_neg (by simp)⟩
  · exact ⟨fun h => by simp at h, fun h => by cases h.2.2⟩
end Go.Proofs.Ytjppjppapdflmaa.PAll
