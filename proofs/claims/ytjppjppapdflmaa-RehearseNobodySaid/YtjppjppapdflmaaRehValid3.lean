/- Valid and End: what the program answers. -/
import Derived.Test.YtjppjppapdflmaaPAllf16
import Derived.Test.YtjppjppapdflmaaPAllf18
import Derived.Test.YtjppjppapdflmaaRehValidP
namespace Go.Proofs.Ytjppjppapdflmaa.PAll
set_option linter.unusedVariables false
set_option linter.unusedSectionVars false
set_option linter.unusedSimpArgs false
open Go Go.RowKit Go.Proofs.YtjppjppapdflmaaW.PrintWords Go.Proofs.YtjppjppapdflmaaW.PrintLast Go.Proofs.YtjppjppapdflmaaW.PrintMore Go.Proofs.Ytjppjppapdflmaa.MathNum Go.Proofs.Ytjppjppapdflmaa.EvWords

def scn (l : List S48) (i : Nat) : Int := (rd_T48 l i).f0
def rm (l : List S48) (i : Nat) : Int := (rd_T48 l i).f1
def st (l : List S48) (i : Nat) : Int := (rd_T48 l i).f2
def rc (t : Tk) (l : List S48) (i k : Nat) : Prop := meetB t i (st l i) k (st l k) = true ∧ rm l i = rm l k
def cc (t : Tk) (l : List S48) (i k : Nat) : Prop := meetB t i (st l i) k (st l k) = true ∧ shareB t i k = true
/-- A pair of scenes ahead of (i, k) for which p holds. -/
def Some2 (p : Nat → Nat → Prop) (i k : Nat) : Prop := ∃ a b, b < a ∧ (a < i ∨ (a = i ∧ b < k)) ∧ p a b
theorem some2_zero {p : Nat → Nat → Prop} : ¬ Some2 p 0 0 := fun ⟨a, b, h1, h2, _⟩ => by omega
theorem some2_step {p : Nat → Nat → Prop} {i k : Nat} (h : k < i) : Some2 p i (k + 1) ↔ Some2 p i k ∨ p i k := by
  constructor
  · rintro ⟨a, b, h1, h2, h3⟩
    by_cases e : a = i ∧ b = k
    · obtain ⟨rfl, rfl⟩ := e; exact .inr h3
    · exact .inl ⟨a, b, h1, by omega, h3⟩
  · rintro (⟨a, b, h1, h2, h3⟩ | h3)
    · exact ⟨a, b, h1, by omega, h3⟩
    · exact ⟨i, k, h, by omega, h3⟩
theorem some2_next {p : Nat → Nat → Prop} {i : Nat} : Some2 p (i + 1) 0 ↔ Some2 p i i := by
  constructor
  · rintro ⟨a, b, h1, h2, h3⟩; exact ⟨a, b, h1, by omega, h3⟩
  · rintro ⟨a, b, h1, h2, h3⟩; exact ⟨a, b, h1, by omega, h3⟩
theorem some2_first {p : Nat → Nat → Prop} {i : Nat} : Some2 p i 0 ↔ ∃ a b, b < a ∧ a < i ∧ p a b := by
  constructor
  · rintro ⟨a, b, h1, h2, h3⟩; exact ⟨a, b, h1, by omega, h3⟩
  · rintro ⟨a, b, h1, h2, h3⟩; exact ⟨a, b, h1, by omega, h3⟩
open Classical in
noncomputable def clashE (t : Tk) (l : List S48) : Int := if Some2 (rc t l) t.sc.length 0 then 41 else if Some2 (cc t l) t.sc.length 0 then 40 else 0
def formE (l : List S48) (i : Nat) : Int := if scn l i = i then 0 else 2
def sessI (t : Tk) (l : List S48) (i : Nat) : Int := sessE t i (rm l i) (st l i)
open Classical in
noncomputable def validS (t : Tk) (l : List S48) : Int := if chkT t = 0 then (if l.length = t.sc.length then fe (formE l) t.sc.length 0 (fe (sessI t l) t.sc.length 0 (clashE t l)) else 2) else chkT t
/-- A plan. -/
structure Vld (t : Tk) (l : List S48) : Prop where
  ok : Okt t
  len : l.length = t.sc.length
  form : ∀ i, i < t.sc.length → scn l i = i
  room : ∀ i, i < t.sc.length → 0 ≤ rm l i ∧ rm l i < (t.ro.length : Int) ∧ fitsB t i (rm l i).toNat = true
  slot : ∀ i, i < t.sc.length → 0 ≤ st l i ∧ st l i + slAt t i ≤ t.sl
  away : ∀ i, i < t.sc.length → awayB t i (st l i) = false
  nrc : ¬ Some2 (rc t l) t.sc.length 0
  ncc : ¬ Some2 (cc t l) t.sc.length 0
theorem valid_ok {t : Tk} {l : List S48} : validS t l = 0 ↔ Vld t l := by
  constructor
  · intro h
    unfold validS at h
    by_cases h0 : chkT t = 0
    · rw [if_pos h0] at h
      by_cases h1 : l.length = t.sc.length
      · rw [if_pos h1] at h
        obtain ⟨qf, h⟩ := fe_zero h
        obtain ⟨qs, h⟩ := fe_zero h
        unfold clashE at h
        by_cases h2 : Some2 (rc t l) t.sc.length 0
        · rw [if_pos h2] at h; omega
        rw [if_neg h2] at h
        by_cases h3 : Some2 (cc t l) t.sc.length 0
        · rw [if_pos h3] at h; omega
        have qs' : ∀ i, i < t.sc.length → _ := fun i hi => sessE_ok.1 (qs i (Nat.zero_le _) (by omega))
        refine ⟨chk_ok.1 h0, h1, fun i hi => ?_, fun i hi => (qs' i hi).1, fun i hi => (qs' i hi).2.1, fun i hi => (qs' i hi).2.2, h2, h3⟩
        have := qf i (Nat.zero_le _) (by omega)
        unfold formE at this
        by_cases q : scn l i = i
        · exact q
        · rw [if_neg q] at this; omega
      · rw [if_neg h1] at h; omega
    · rw [if_neg h0] at h; exact absurd h h0
  · intro v
    unfold validS
    rw [if_pos (chk_ok.2 v.ok), if_pos v.len, fe_of (e := formE l) (fun i _ hi => if_pos (v.form i (by omega))), fe_of (e := sessI t l) (fun i _ hi => sessE_ok.2 ⟨v.room i (by omega), v.slot i (by omega), v.away i (by omega)⟩)]
    unfold clashE
    rw [if_neg v.nrc, if_neg v.ncc]
theorem take48 (l : List S48) {i k : Nat} (h : k < i) (hi : i ≤ l.length) : rd_T48 (l.take i) (k : Int) = rd_T48 l (k : Int) := by
  rw [rd48 _ (show k < (l.take i).length by rw [List.length_take]; omega), rd48 _ (show k < l.length by omega), List.getElem_take]
/-- What came in as a session: its numbers are machine words. -/
def Hl (l : List S48) : Prop := ∀ s ∈ l, -9223372036854775808 ≤ s.f2 ∧ s.f2 ≤ 9223372036854775807
theorem Hl.at_ {l : List S48} (h : Hl l) {i : Nat} (hi : i < l.length) : -9223372036854775808 ≤ st l i ∧ st l i ≤ 9223372036854775807 := by
  unfold st; rw [rd48 _ hi]; exact h _ (List.getElem_mem _)
section
variable {t : Tk} (o : Okt t) (hc : Hc t) {l : List S48} (hl : l.length = t.sc.length)
include o hc hl
section
variable (hs : ∀ i, i < t.sc.length → 0 ≤ st l i ∧ st l i + slAt t i ≤ t.sl)
include hs
theorem valid_l3 {i : Nat} (hi : i < t.sc.length) (x y z : Int) (hst : z = st l i) (hrm : y = rm l i)
    (hout : ∀ b : Bool, (b = true ↔ Some2 (cc t l) (i + 1) 0) → ¬ Some2 (rc t l) (i + 1) 0 → Ev (fun k => rehearse_Valid.l2 k l b l (l.length : Int) ((i + 1 : Nat) : Int) t.sc t.ro t.bu t.sl) (clashE t l)) :
    ∀ (e k : Nat) (b : Bool), k + e = i → (b = true ↔ Some2 (cc t l) i k) → ¬ Some2 (rc t l) i k →
      Ev (fun q => rehearse_Valid.l3 q l b (i : Int) l (l.length : Int) (i : Int) (l.take i) ((l.take i).length : Int) (k : Int) t.sc t.ro t.bu t.sl x y z) (clashE t l)
 | 0, k, b, he, h1, h2 => by
  have hn := o.n
  obtain rfl : k = i := by omega
  have e1 : (l.take k).length = k := by rw [List.length_take]; omega
  refine ev_step (fun k => by simp only [rehearse_Valid.l3] <;> exact rfl) (ev_neg (by omega) ?_)
  rw [w64 (n := (k : Int) + 1) (by omega) (by omega)]
  exact hout b (h1.trans some2_next.symm) (fun q => h2 (some2_next.1 q))
 | e + 1, k, b, he, h1, h2 => by
  have hn := o.n; have h32 := o.s2
  have hk : k < i := by omega
  have e1 : (l.take i).length = i := by rw [List.length_take]; omega
  have q1 := hs i hi; have q2 := hs k (by omega)
  have q3 := o.ln i hi; have q4 := o.ln k (by omega)
  refine ev_step (fun k => by simp only [rehearse_Valid.l3] <;> exact rfl) (ev_pos (by omega) (ev_pos (by omega) (ev_pos (by omega) ?_)))
  rw [take48 l hk (by omega), hst, hrm, show (rd_T48 l (k : Int)).f2 = st l k from rfl, meet_ev o hi (by omega) (by omega) (by omega) (by omega) (by omega), w64 (n := (k : Int) + 1) (by omega) (by omega)]
  refine ev_let ?_
  cases hm : meetB t i (st l i) k (st l k)
  · refine ev_neg (by simp) ?_
    rw [← hst, ← hrm]
    refine valid_l3 hi x y z hst hrm hout e (k + 1) b (by omega) ?_ ?_
    · rw [some2_step hk, h1]; exact ⟨.inl, fun h => h.elim id (fun h => by have := h.1; rw [hm] at this; cases this)⟩
    · rw [some2_step hk]; exact fun h => h.elim h2 (fun h => by have := h.1; rw [hm] at this; cases this)
  · refine ev_pos (c := true = true) rfl ?_
    by_cases hr : rm l i = rm l k
    · refine ev_eq (ev_pos hr (ev_now _)) ?_
      unfold clashE
      exact (if_pos ⟨i, k, hk, .inl hi, hm, hr⟩).symm
    · refine ev_neg hr ?_
      have h2' : ¬ Some2 (rc t l) i (k + 1) := by rw [some2_step hk]; exact fun h => h.elim h2 (fun h => hr h.2)
      rw [← hst, ← hrm]
      cases b with
      | true => exact ev_pos (c := true = true) rfl (valid_l3 hi x y z hst hrm hout e (k + 1) true (by omega) (by rw [some2_step hk]; exact ⟨fun _ => .inl (h1.1 rfl), fun _ => rfl⟩) h2')
      | false =>
        refine ev_neg (by simp) (Ev.bind (share_ev hc hi (by omega)) (valid_l3 hi x y z hst hrm hout e (k + 1) _ (by omega) ?_ h2'))
        rw [some2_step hk, ← h1]
        exact ⟨fun h => .inr ⟨hm, h⟩, fun h => h.elim (fun h => by cases h) (fun h => h.2)⟩
theorem valid_l2 : ∀ (e i : Nat) (b : Bool), i + e = t.sc.length → (b = true ↔ Some2 (cc t l) i 0) → ¬ Some2 (rc t l) i 0 →
      Ev (fun q => rehearse_Valid.l2 q l b l (l.length : Int) (i : Int) t.sc t.ro t.bu t.sl) (clashE t l)
 | 0, i, b, he, h1, h2 => by
  obtain rfl : i = t.sc.length := by omega
  refine ev_step (fun k => by simp only [rehearse_Valid.l2] <;> exact rfl) (ev_neg (by omega) ?_)
  unfold clashE
  rw [if_neg h2]
  cases b with
  | true => exact ev_eq (ev_pos (c := true = true) rfl (ev_now _)) (if_pos (h1.1 rfl)).symm
  | false => exact ev_eq (ev_neg (by simp) (ev_now _)) (if_neg (fun h => by have := h1.2 h; cases this)).symm
 | e + 1, i, b, he, h1, h2 => by
  refine ev_step (fun k => by simp only [rehearse_Valid.l2] <;> exact rfl) (ev_pos (by omega) (ev_pos (by omega) (ev_pos (by omega) (ev_pos (by omega) ?_))))
  rw [Int.toNat_natCast]
  refine ev_let ?_
  exact valid_l3 o hc hl hs (i := i) (by omega) _ _ _ rfl rfl (fun b hb hb2 => valid_l2 e (i + 1) b (by omega) hb hb2) i 0 b (by omega) h1 h2
end
variable (hw : Hl l)
include hw
theorem valid_l1 : Ev (fun q => rehearse_Valid.l1 q l l (l.length : Int) 0 t.sc t.ro t.bu t.sl) (fe (sessI t l) t.sc.length 0 (clashE t l)) := by
  have hn := o.n
  by_cases hz : ∀ i, i < t.sc.length → sessI t l i = 0
  · have hs : ∀ i, i < t.sc.length → 0 ≤ st l i ∧ st l i + slAt t i ≤ t.sl := fun i hi => (sessE_ok.1 (hz i hi)).2.1
    refine fe_loop (F := fun q i => rehearse_Valid.l1 q l l (l.length : Int) (i : Int) t.sc t.ro t.bu t.sl) (n := t.sc.length) ?_ (fun i hi h0 v hv => ?_) (fun i hi h0 => absurd (hz i hi) h0) t.sc.length 0 (by omega)
    · refine ev_step (fun k => by simp only [rehearse_Valid.l1] <;> exact rfl) (ev_neg (by omega) ?_)
      exact valid_l2 o hc hl hs t.sc.length 0 false (Nat.zero_add _) ⟨fun h => (by cases h), fun h => absurd h some2_zero⟩ some2_zero
    · refine ev_step (fun k => by simp only [rehearse_Valid.l1] <;> exact rfl) (ev_pos (by omega) (ev_pos (by omega) (ev_pos (by omega) ?_)))
      rw [w64 (n := (i : Int) + 1) (by omega) (by omega)]
      exact Ev.bind (sess_ev o hc hi _ _ _ (hw.at_ (by omega)).1 (hw.at_ (by omega)).2) (ev_pos h0 hv)
  · -- the loop does not reach its end
    have key : ∀ d i : Nat, i + d = t.sc.length → (∃ j, i ≤ j ∧ j < t.sc.length ∧ sessI t l j ≠ 0) → Ev (fun q => rehearse_Valid.l1 q l l (l.length : Int) (i : Int) t.sc t.ro t.bu t.sl) (fe (sessI t l) d i (clashE t l)) := by
      intro d
      induction d with
      | zero => rintro i hi ⟨j, h1, h2, _⟩; omega
      | succ d ih =>
        rintro i he ⟨j, h1, h2, h3⟩
        have hi : i < t.sc.length := by omega
        unfold fe
        refine ev_step (fun k => by simp only [rehearse_Valid.l1] <;> exact rfl) (ev_pos (by omega) (ev_pos (by omega) (ev_pos (by omega) ?_)))
        refine Ev.bind (sess_ev o hc hi _ _ _ (hw.at_ (by omega)).1 (hw.at_ (by omega)).2) ?_
        rw [w64 (n := (i : Int) + 1) (by omega) (by omega)]
        by_cases h0 : sessI t l i = 0
        · rw [if_pos h0]
          exact ev_pos h0 (ih (i + 1) (by omega) ⟨j, by by_cases e : j = i; (subst e; exact absurd h0 h3); omega, h2, h3⟩)
        · rw [if_neg h0]; exact ev_neg h0 (ev_now _)
    obtain ⟨j, hj⟩ := Classical.not_forall.1 hz
    obtain ⟨hj1, hj2⟩ := Classical.not_imp.1 hj
    exact key t.sc.length 0 (by omega) ⟨j, by omega, hj1, hj2⟩
theorem valid_l0 : Ev (fun q => rehearse_Valid.l0 q l l (l.length : Int) 0 t.sc t.ro t.bu t.sl) (fe (formE l) t.sc.length 0 (fe (sessI t l) t.sc.length 0 (clashE t l))) := by
  have hn := o.n
  refine fe_loop (F := fun q i => rehearse_Valid.l0 q l l (l.length : Int) (i : Int) t.sc t.ro t.bu t.sl) (n := t.sc.length) ?_ (fun i hi h0 v hv => ?_) (fun i hi h0 => ?_) t.sc.length 0 (by omega)
  · exact ev_step (fun k => by simp only [rehearse_Valid.l0] <;> exact rfl) (ev_neg (by omega) (valid_l1 o hc hl hw))
  · unfold formE at h0
    refine ev_step (fun k => by simp only [rehearse_Valid.l0] <;> exact rfl) (ev_pos (by omega) (ev_pos (by omega) (ev_pos (by omega) (ev_pos (c := scn l i = i) ?_ ?_))))
    · by_cases q : scn l i = i
      · exact q
      · rw [if_neg q] at h0; omega
    · rw [w64 (n := (i : Int) + 1) (by omega) (by omega)]; exact hv
  · unfold formE at h0 ⊢
    by_cases q : scn l i = i
    · rw [if_pos q] at h0; omega
    · rw [if_neg q]
      exact ev_step (fun k => by simp only [rehearse_Valid.l0] <;> exact rfl) (ev_pos (by omega) (ev_pos (by omega) (ev_pos (by omega) (ev_neg (c := scn l i = i) q (ev_now _)))))
end
/-! ### the end -/
def endU (t : Tk) (l : List S48) : Nat → Int
 | 0 => 0
 | n + 1 => mx (endU t l n) (st l n + slAt t n)
theorem end_l0 {t : Tk} {l : List S48} (v : Vld t l) : ∀ e i : Nat, i + e = t.sc.length → Ev (fun q => rehearse_End.l0 q (endU t l i) l (l.length : Int) (i : Int) t.sc t.ro t.bu t.sl) (endU t l t.sc.length, 0)
 | 0, i, he => by
  have := v.len
  obtain rfl : i = t.sc.length := by omega
  exact ev_step (fun k => by simp only [rehearse_End.l0] <;> exact rfl) (ev_neg (by omega) (ev_now _))
 | e + 1, i, he => by
  have := v.len; have hn := v.ok.n; have h32 := v.ok.s2
  have h1 := v.slot i (by omega); have h2 := v.ok.ln i (by omega)
  refine ev_step (fun k => by simp only [rehearse_End.l0] <;> exact rfl) (ev_pos (by omega) (ev_pos (by omega) (ev_pos (by omega) (ev_pos (by omega) ?_))))
  rw [w64 (n := (i : Int) + 1) (by omega) (by omega), show wrap64 ((rd_T48 l i).f2 + (rd_T53 t.sc i).f1) = st l i + slAt t i from w64 (n := st l i + slAt t i) (by omega) (by omega)]
  exact end_l0 v e (i + 1) (by omega)
noncomputable def endS (t : Tk) (l : List S48) : Int × Int := if validS t l = 0 then (endU t l t.sc.length, 0) else (0, validS t l)
theorem Valid_ev (t : Tk) (hc : Hc t) (l : List S48) (hw : Hl l) : Ev (fun k => rehearse_Valid.f k t.sc t.ro t.bu t.sl l) (validS t l) := by
  unfold rehearse_Valid.f validS
  refine Ev.bind (chk_ev t hc) ?_
  by_cases h : chkT t = 0
  · rw [if_pos h]
    refine ev_pos h ?_
    by_cases h1 : l.length = t.sc.length
    · rw [if_pos h1]; exact ev_pos (by omega) (valid_l0 (chk_ok.1 h) hc h1 hw)
    · rw [if_neg h1]; exact ev_neg (by omega) (ev_now _)
  · rw [if_neg h]; exact ev_neg h (ev_now _)
theorem End_ev (t : Tk) (hc : Hc t) (l : List S48) (hw : Hl l) : Ev (fun k => rehearse_End.f k t.sc t.ro t.bu t.sl l) (endS t l) := by
  unfold rehearse_End.f endS
  refine Ev.bind (Valid_ev t hc l hw) ?_
  by_cases h : validS t l = 0
  · rw [if_pos h]; exact ev_pos h (end_l0 (valid_ok.1 h) _ 0 (Nat.zero_add _))
  · rw [if_neg h]; exact ev_neg h (ev_now _)
end Go.Proofs.Ytjppjppapdflmaa.PAll
