/- Rooms and dancers hold no more than there is time: the bounds are necessary. -/
import Derived.Test.YtjppjppapdflmaaRehMk
namespace Go.Proofs.Ytjppjppapdflmaa.PAll
set_option linter.unusedVariables false
set_option linter.unusedSectionVars false
set_option linter.unusedSimpArgs false
open Go Go.RowKit Go.Proofs.YtjppjppapdflmaaW.PrintWords Go.Proofs.YtjppjppapdflmaaW.PrintLast Go.Proofs.YtjppjppapdflmaaW.PrintMore Go.Proofs.Ytjppjppapdflmaa.MathNum Go.Proofs.Ytjppjppapdflmaa.EvWords

/-! ### spans that do not meet -/
section
variable (q len : Nat → Int)
def psum (P : Nat → Bool) : Nat → Int
 | 0 => 0
 | n + 1 => psum P n + if P n = true then len n else 0
def cov (T : Int) (i : Nat) : Int := if T ≤ q i then 0 else if q i + len i ≤ T then len i else T - q i
def csum (P : Nat → Bool) (T : Int) : Nat → Int
 | 0 => 0
 | n + 1 => csum P T n + if P n = true then cov q len T n else 0
def covers (T : Int) (i : Nat) : Prop := q i ≤ T ∧ T < q i + len i
theorem cov_no {T : Int} {i : Nat} (h0 : 0 ≤ len i) (h : ¬ covers q len T i) : cov q len (T + 1) i = cov q len T i := by
  unfold covers at h
  unfold cov
  by_cases h1 : T ≤ q i
  · by_cases h2 : T + 1 ≤ q i
    · rw [if_pos h2, if_pos h1]
    · have : len i = 0 := by omega
      rw [if_neg h2, if_pos h1, if_pos (by omega), this]
  · rw [if_neg (by omega), if_neg h1, if_pos (by omega), if_pos (by omega)]
theorem cov_yes {T : Int} {i : Nat} (h : covers q len T i) : cov q len (T + 1) i = cov q len T i + 1 := by
  obtain ⟨h1, h2⟩ := h
  unfold cov
  rw [if_neg (by omega)]
  by_cases h3 : T ≤ q i
  · rw [if_pos h3]
    by_cases h4 : q i + len i ≤ T + 1
    · rw [if_pos h4]; omega
    · rw [if_neg h4]; omega
  · rw [if_neg h3, if_neg (show ¬ q i + len i ≤ T by omega)]
    by_cases h4 : q i + len i ≤ T + 1
    · rw [if_pos h4]; omega
    · rw [if_neg h4]; omega
theorem csum_no (P : Nat → Bool) {T : Int} : ∀ n, (∀ i, i < n → 0 ≤ len i) → (∀ i, i < n → P i = true → ¬ covers q len T i) → csum q len P (T + 1) n = csum q len P T n
 | 0, _, _ => rfl
 | n + 1, h0, h => by
  unfold csum
  rw [csum_no P n (fun i hi => h0 i (by omega)) (fun i hi => h i (by omega))]
  by_cases p : P n = true
  · rw [if_pos p, if_pos p, cov_no q len (h0 n (by omega)) (h n (by omega) p)]
  · rw [if_neg p, if_neg p]
theorem csum_step (P : Nat → Bool) {T : Int} : ∀ n, (∀ i, i < n → 0 ≤ len i) → (∀ i k, k < i → i < n → P i = true → P k = true → q i + len i ≤ q k ∨ q k + len k ≤ q i) → csum q len P (T + 1) n ≤ csum q len P T n + 1
 | 0, _, _ => by unfold csum; omega
 | n + 1, h0, h => by
  have ih := csum_step P (T := T) n (fun i hi => h0 i (by omega)) (fun i k hk hi => h i k hk (by omega))
  unfold csum
  by_cases p : P n = true
  · rw [if_pos p, if_pos p]
    by_cases c : covers q len T n
    · rw [cov_yes q len c, csum_no q len P n (fun i hi => h0 i (by omega)) (fun i hi pi ci => by
        have := h n i hi (by omega) p pi
        unfold covers at c ci; omega)]
      omega
    · rw [cov_no q len (h0 n (by omega)) c]; omega
  · rw [if_neg p, if_neg p]; omega
theorem csum_zero (P : Nat → Bool) : ∀ n, (∀ i, i < n → 0 ≤ q i) → csum q len P 0 n = 0
 | 0, _ => rfl
 | n + 1, h => by
  unfold csum
  rw [csum_zero P n (fun i hi => h i (by omega)), show cov q len 0 n = 0 from if_pos (h n (by omega))]
  by_cases p : P n = true
  · rw [if_pos p]; rfl
  · rw [if_neg p]; rfl
theorem csum_end (P : Nat → Bool) {e : Int} : ∀ n, (∀ i, i < n → 0 < len i ∧ q i + len i ≤ e) → csum q len P e n = psum len P n
 | 0, _ => rfl
 | n + 1, h => by
  have := h n (by omega)
  unfold csum psum
  rw [csum_end P n (fun i hi => h i (by omega)), show cov q len e n = len n by unfold cov; rw [if_neg (by omega), if_pos (by omega)]]
theorem psum_le (P : Nat → Bool) {e : Nat} {n : Nat} (h : ∀ i, i < n → 0 ≤ q i ∧ 0 < len i ∧ q i + len i ≤ e) (hd : ∀ i k, k < i → i < n → P i = true → P k = true → q i + len i ≤ q k ∨ q k + len k ≤ q i) : psum len P n ≤ e := by
  have key : ∀ T : Nat, csum q len P T n ≤ T := by
    intro T
    induction T with
    | zero => exact Int.le_of_eq (csum_zero q len P n (fun i hi => (h i hi).1))
    | succ T ih =>
      have := csum_step q len P (T := T) n (fun i hi => by have := h i hi; omega) hd
      have e : ((T + 1 : Nat) : Int) = (T : Int) + 1 := by omega
      rw [e]; omega
  have := key e
  rw [csum_end q len P n (fun i hi => (h i hi).2)] at this
  exact this
def rsum (P F : Nat → Bool) (room : Nat → Int) (n : Nat) : Nat → Int
 | 0 => 0
 | r + 1 => rsum P F room n r + if F r = true then psum len (fun k => P k && decide (room k = (r : Int))) n else 0
theorem rsum_step (P F : Nat → Bool) (room : Nat → Int) (n : Nat) (h0 : 0 ≤ room n) : ∀ R : Nat, rsum len P F room (n + 1) R = rsum len P F room n R + if P n = true ∧ room n < R ∧ F (room n).toNat = true then len n else 0
 | 0 => by
  have c : ¬ (P n = true ∧ room n < ((0 : Nat) : Int) ∧ F (room n).toNat = true) := by omega
  rw [if_neg c]; rfl
 | R + 1 => by
  have ih := rsum_step P F room n h0 R
  have e0 : psum len (fun k => P k && decide (room k = (R : Int))) (n + 1) = psum len (fun k => P k && decide (room k = (R : Int))) n + if (P n && decide (room n = (R : Int))) = true then len n else 0 := rfl
  show rsum len P F room (n + 1) R + (if F R = true then psum len (fun k => P k && decide (room k = (R : Int))) (n + 1) else 0) = rsum len P F room n R + (if F R = true then psum len (fun k => P k && decide (room k = (R : Int))) n else 0) + _
  rw [ih, e0]
  by_cases hr : room n = (R : Int)
  · have c : ¬ (P n = true ∧ room n < (R : Int) ∧ F (room n).toNat = true) := by omega
    rw [if_neg c, decide_eq_true hr, Bool.and_true]
    by_cases f : F R = true
    · have f' : F (room n).toNat = true := by rw [hr, Int.toNat_natCast]; exact f
      by_cases p : P n = true
      · have c2 : P n = true ∧ room n < ((R + 1 : Nat) : Int) ∧ F (room n).toNat = true := ⟨p, by omega, f'⟩
        rw [if_pos c2, if_pos p, if_pos f, if_pos f]; omega
      · have c2 : ¬ (P n = true ∧ room n < ((R + 1 : Nat) : Int) ∧ F (room n).toNat = true) := fun h => p h.1
        rw [if_neg c2, if_neg p, if_pos f, if_pos f]; omega
    · have c2 : ¬ (P n = true ∧ room n < ((R + 1 : Nat) : Int) ∧ F (room n).toNat = true) := fun h => f (by have := h.2.2; rwa [hr, Int.toNat_natCast] at this)
      rw [if_neg c2, if_neg f, if_neg f]
  · rw [decide_eq_false hr, Bool.and_false, if_neg (show ¬ false = true by simp), Int.add_zero]
    by_cases c : P n = true ∧ room n < (R : Int) ∧ F (room n).toNat = true
    · have c2 : P n = true ∧ room n < ((R + 1 : Nat) : Int) ∧ F (room n).toNat = true := ⟨c.1, by omega, c.2.2⟩
      rw [if_pos c, if_pos c2]; omega
    · have c2 : ¬ (P n = true ∧ room n < ((R + 1 : Nat) : Int) ∧ F (room n).toNat = true) := fun h => c ⟨h.1, by omega, h.2.2⟩
      rw [if_neg c, if_neg c2]; omega
theorem psum_rsum (P F : Nat → Bool) (room : Nat → Int) (R : Nat) : ∀ n, (∀ i, i < n → P i = true → room i < (R : Int) ∧ F (room i).toNat = true) → (∀ i, i < n → 0 ≤ room i) → psum len P n ≤ rsum len P F room n R
 | 0, _, _ => by
  have : ∀ R, rsum len P F room 0 R = 0 := by
    intro R
    induction R with
    | zero => rfl
    | succ R ih => unfold rsum; rw [ih]; by_cases f : F R = true <;> simp [f, psum]
  rw [this, psum]; omega
 | n + 1, h, h0 => by
  have ih := psum_rsum P F room R n (fun i hi => h i (by omega)) (fun i hi => h0 i (by omega))
  rw [rsum_step len P F room n (h0 n (by omega)), psum]
  by_cases p : P n = true
  · have := h n (by omega) p
    rw [if_pos p, if_pos ⟨p, this⟩]; omega
  · rw [if_neg p, if_neg (fun h => p h.1)]; omega
end
/-! ### plans as slots and rooms -/
structure SolS (t : Tk) (e : Int) (q : List Int) : Prop where
  len : q.length = t.sc.length
  slot : ∀ k, k < t.sc.length → 0 ≤ rd q k ∧ rd q k + slAt t k ≤ e
  away : ∀ k, k < t.sc.length → awayB t k (rd q k) = false
  share : ∀ k j, j < k → k < t.sc.length → meetB t k (rd q k) j (rd q j) = true → shareB t k j = false
structure SolR (t : Tk) (q out : List Int) : Prop where
  len : out.length = q.length
  room : ∀ k, k < q.length → 0 ≤ rd out k ∧ rd out k < (t.ro.length : Int) ∧ fitsB t k (rd out k).toNat = true
  meet : ∀ k j, j < k → k < q.length → meetB t k (rd q k) j (rd q j) = true → rd out j ≠ rd out k
theorem rd_take {q : List Int} {j k : Nat} (h : j < k) (hk : k ≤ q.length) : rd (q.take k) (j : Int) = rd q j := by
  rw [rdI _ (show j < (q.take k).length by rw [List.length_take]; omega), rdI _ (show j < q.length by omega), List.getElem_take]
theorem roomsD_sol {t : Tk} {q out : List Int} (h : roomsD t q = some out) : SolR t q out := by
  have w := dfs_way h
  have hl := (way_pre w).2
  rw [List.length_nil, Nat.zero_add] at hl
  have key : ∀ k, k < q.length → ∃ r : Nat, r < t.ro.length ∧ rd out k = r ∧ okR t q (out.take k) r = true := fun k hk => way_at w k (Nat.zero_le _) (by omega)
  refine ⟨hl, fun k hk => ?_, fun k j hj hk hm => ?_⟩
  · obtain ⟨r, h1, h2, h3⟩ := key k hk
    unfold okR at h3
    rw [Bool.and_eq_true, show (out.take k).length = k by rw [List.length_take]; omega] at h3
    rw [h2, Int.toNat_natCast]
    exact ⟨by omega, by omega, h3.1⟩
  · obtain ⟨r, h1, h2, h3⟩ := key k hk
    unfold okR at h3
    rw [Bool.and_eq_true, show (out.take k).length = k by rw [List.length_take]; omega] at h3
    have := allR_iff.1 h3.2 j (Nat.zero_le _) (by omega)
    rw [hm, rd_take hj (by omega), Bool.and_true, Bool.not_eq_true', decide_eq_false_iff_not] at this
    rw [h2]; exact this
theorem sol_way {t : Tk} {q out : List Int} (s : SolR t q out) : Way t.ro.length (okR t q) q.length [] out := by
  have := way_of (c := t.ro.length) (ok := okR t q) (q := out) (fun k hk => ?_) q.length 0 (by rw [s.len]; omega)
  · exact this
  · have hk' : k < q.length := by rw [← s.len]; exact hk
    obtain ⟨h0, h1, h2⟩ := s.room k hk'
    obtain ⟨r, hr⟩ := Int.eq_ofNat_of_zero_le h0
    rw [hr] at h1 h2
    refine ⟨r, by omega, hr, ?_⟩
    unfold okR
    rw [show (out.take k).length = k by rw [List.length_take]; omega, Bool.and_eq_true]
    refine ⟨by rwa [Int.toNat_natCast] at h2, allR_iff.2 fun j _ hj => ?_⟩
    have hjk : j < k := by omega
    rw [rd_take hjk (by omega)]
    cases hm : meetB t k (rd q k) j (rd q j)
    · rw [Bool.and_false]; rfl
    · rw [Bool.and_true, Bool.not_eq_true', decide_eq_false_iff_not, ← hr]
      exact s.meet k j hjk hk' hm
theorem solR_take {t : Tk} {q out : List Int} (s : SolR t q out) (k : Nat) : SolR t (q.take k) (out.take k) := by
  refine ⟨by rw [List.length_take, List.length_take, s.len], fun j hj => ?_, fun a b hb ha hm => ?_⟩
  · rw [List.length_take] at hj
    have hl := s.len
    have e : rd (out.take k) (j : Int) = rd out j := by
      rw [rdI _ (show j < (out.take k).length by rw [List.length_take]; omega), rdI _ (show j < out.length by omega), List.getElem_take]
    rw [e]
    exact s.room j (by omega)
  · rw [List.length_take] at ha
    have hl := s.len
    by_cases hk : k ≤ q.length
    · rw [rd_take (show a < k by omega) hk, rd_take (show b < k by omega) hk] at hm
      rw [rd_take (show a < k by omega) (by omega), rd_take (show b < k by omega) (by omega)]
      exact s.meet a b hb (by omega) hm
    · rw [List.take_of_length_le (by omega)] at hm
      rw [List.take_of_length_le (by omega)]
      exact s.meet a b hb (by omega) hm
def slotsD (t : Tk) (e : Nat) : Option (List Int) := dfs e (okS t e) t.sc.length []
theorem way_sol {t : Tk} {e : Nat} {q : List Int} (w : Way e (okS t e) t.sc.length [] q) : SolS t e q ∧ ∃ out, roomsD t q = some out := by
  have hl := (way_pre w).2
  rw [List.length_nil, Nat.zero_add] at hl
  have key : ∀ k, k < t.sc.length → ∃ r : Nat, r < e ∧ rd q k = r ∧ okS t e (q.take k) r = true := fun k hk => way_at w k (Nat.zero_le _) (by omega)
  have tl : ∀ k, k < t.sc.length → (q.take k).length = k := fun k hk => by rw [List.length_take]; omega
  have key2 : ∀ k, k < t.sc.length → ∃ r : Nat, rd q k = r ∧ (r : Int) + slAt t k ≤ e ∧ awayB t k r = false ∧ (∀ j, j < k → (meetB t k r j (rd q j) && shareB t k j) = false) ∧ (roomsD t (q.take (k + 1))).isSome = true := by
    intro k hk
    obtain ⟨r, _, h2, h3⟩ := key k hk
    unfold okS at h3
    rw [tl k hk, Bool.and_eq_true, Bool.and_eq_true, decide_eq_true_eq] at h3
    obtain ⟨⟨h4, h5⟩, h6⟩ := h3
    refine ⟨r, h2, h4, poss_away h5, fun j hj => ?_, ?_⟩
    · unfold possB at h5
      rw [Bool.and_eq_true] at h5
      have := allR_iff.1 h5.2 j (Nat.zero_le _) (by rw [tl k hk]; omega)
      rw [rd_take hj (by omega), Bool.not_eq_true'] at this
      exact this
    · rwa [List.take_succ_eq_append_getElem (show k < q.length by omega), ← rdI q (show k < q.length by omega), h2]
  refine ⟨⟨hl, fun k hk => ?_, fun k hk => ?_, fun k j hj hk hm => ?_⟩, ?_⟩
  · obtain ⟨r, h1, h2, _⟩ := key2 k hk; rw [h1]; exact ⟨by omega, h2⟩
  · obtain ⟨r, h1, _, h2, _⟩ := key2 k hk; rw [h1]; exact h2
  · obtain ⟨r, h1, _, _, h2, _⟩ := key2 k hk
    have := h2 j hj
    rw [h1] at hm
    rwa [hm, Bool.true_and] at this
  · by_cases hz : t.sc.length = 0
    · have : q = [] := List.eq_nil_of_length_eq_zero (by omega)
      subst this; exact ⟨[], rfl⟩
    · obtain ⟨r, _, _, _, _, h⟩ := key2 (t.sc.length - 1) (by omega)
      rw [List.take_of_length_le (by omega)] at h
      exact Option.isSome_iff_exists.1 h
theorem isSome_of_way {c : Nat} {ok : List Int → Nat → Bool} {d : Nat} {p q : List Int} (h : Way c ok d p q) : (dfs c ok d p).isSome = true := by
  cases h' : dfs c ok d p
  · exact absurd h' (way_dfs h)
  · rfl
theorem way_ofSol {t : Tk} (o : Okt t) {e : Nat} {q out : List Int} (s : SolS t e q) (r : SolR t q out) : Way e (okS t e) t.sc.length [] q := by
  have := way_of (c := e) (ok := okS t e) (q := q) (fun k hk => ?_) t.sc.length 0 (by rw [s.len]; omega)
  · exact this
  · have hl := s.len
    have hk' : k < t.sc.length := by omega
    obtain ⟨h0, h1⟩ := s.slot k hk'
    have hln := o.ln k hk'
    obtain ⟨a, ha⟩ := Int.eq_ofNat_of_zero_le h0
    refine ⟨a, by omega, ha, ?_⟩
    unfold okS
    rw [show (q.take k).length = k by rw [List.length_take]; omega, Bool.and_eq_true, Bool.and_eq_true, decide_eq_true_eq]
    refine ⟨⟨by omega, ?_⟩, ?_⟩
    · unfold possB
      rw [Bool.and_eq_true, ← ha, s.away k hk']
      refine ⟨rfl, allR_iff.2 fun j _ hj => ?_⟩
      rw [show (q.take k).length = k by rw [List.length_take]; omega] at hj
      rw [rd_take (show j < k by omega) (by omega)]
      cases hm : meetB t k (rd q k) j (rd q j)
      · rfl
      · rw [s.share k j (by omega) hk' hm]; rfl
    · rw [← ha, rdI q (show k < q.length by omega), ← List.take_succ_eq_append_getElem (show k < q.length by omega)]
      exact isSome_of_way (sol_way (solR_take r (k + 1)))
section
variable {t : Tk} (o : Okt t) {e : Nat} {q out : List Int} (s : SolS t e q) (r : SolR t q out)
include o s
theorem apart_of {i k : Nat} (h : meetB t i (rd q i) k (rd q k) = false) : rd q i + slAt t i ≤ rd q k ∨ rd q k + slAt t k ≤ rd q i := by
  unfold meetB at h
  rw [Bool.and_eq_false_iff, decide_eq_false_iff_not, decide_eq_false_iff_not] at h
  omega
theorem spans : ∀ i, i < t.sc.length → 0 ≤ (fun i : Nat => rd q i) i ∧ 0 < slAt t i ∧ (fun i : Nat => rd q i) i + slAt t i ≤ e := fun i hi => ⟨(s.slot i hi).1, by have := o.ln i hi; omega, (s.slot i hi).2⟩
theorem dsum_fits (d : Int) : dsum t d t.sc.length ≤ e := by
  have h := psum_le (fun i : Nat => rd q i) (slAt t) (fun i => decide (d ∈ castAt t i)) (n := t.sc.length) (spans o s) (fun i k hk hi p1 p2 => ?_)
  · have : ∀ n, dsum t d n = psum (slAt t) (fun i => decide (d ∈ castAt t i)) n := by
      intro n
      induction n with
      | zero => rfl
      | succ n ih =>
        unfold dsum psum
        rw [ih]
        by_cases m : d ∈ castAt t n
        · rw [if_pos m, if_pos (decide_eq_true m)]
        · rw [if_neg m, if_neg (by rw [decide_eq_false m]; simp)]
    rw [this]; exact h
  · refine apart_of o s (Bool.eq_false_iff.2 fun hm => ?_)
    have hs := s.share i k hk hi hm
    have : shareB t i k = true := List.any_eq_true.2 ⟨d, of_decide_eq_true p1, p2⟩
    rw [hs] at this; cases this
include r
theorem room_fits (P F : Nat → Bool) (hF : ∀ i, i < t.sc.length → P i = true → F (rd out i).toNat = true) : ∀ R : Nat, rsum (slAt t) P F (fun i => rd out i) t.sc.length R ≤ (psum (fun _ => (e : Int)) F R)
 | 0 => by unfold rsum psum; omega
 | R + 1 => by
  have ih := room_fits P F hF R
  show rsum (slAt t) P F (fun i => rd out i) t.sc.length R + (if F R = true then psum (slAt t) (fun k => P k && decide (rd out k = (R : Int))) t.sc.length else 0) ≤ psum (fun _ => (e : Int)) F R + (if F R = true then (e : Int) else 0)
  by_cases f : F R = true
  · rw [if_pos f, if_pos f]
    have := psum_le (fun i : Nat => rd q i) (slAt t) (fun k => P k && decide (rd out k = (R : Int))) (n := t.sc.length) (spans o s) (fun i k hk hi p1 p2 => ?_)
    · exact Int.add_le_add ih this
    · rw [Bool.and_eq_true, decide_eq_true_eq] at p1 p2
      refine apart_of o s (Bool.eq_false_iff.2 fun hm => ?_)
      exact r.meet i k hk (by have := s.len; omega) hm (p2.2.trans p1.2.symm)
  · rw [if_neg f, if_neg f]; omega
theorem cap (P F : Nat → Bool) (hF : ∀ i, i < t.sc.length → P i = true → F (rd out i).toNat = true) : psum (slAt t) P t.sc.length ≤ psum (fun _ => (e : Int)) F t.ro.length := by
  have hl := s.len
  exact Int.le_trans (psum_rsum (slAt t) P F (fun i => rd out i) t.ro.length t.sc.length (fun i hi p => ⟨(r.room i (by omega)).2.1, hF i hi p⟩) (fun i hi => (r.room i (by omega)).1)) (room_fits o s r P F hF t.ro.length)
theorem least_le : leastT t ≤ e := by
  have h1 : mostU t 24 ≤ e := by
    rcases (mostU_le o 24 (Nat.le_refl _)).2.2.2 with h | ⟨d, _, _, h⟩
    · omega
    · have := dsum_fits o s d; omega
  have h2 : tot t t.sc.length ≤ t.ro.length * e := by
    have h := cap o s r (fun _ => true) (fun _ => true) (fun _ _ _ => rfl)
    have e1 : ∀ n, psum (slAt t) (fun _ => true) n = tot t n := by
      intro n
      induction n with
      | zero => rfl
      | succ n ih => unfold psum tot; rw [ih, if_pos rfl]
    have e2 : ∀ n : Nat, psum (fun _ => (e : Int)) (fun _ => true) n = n * e := by
      intro n
      induction n with
      | zero => simp [psum]
      | succ n ih => unfold psum; rw [ih, if_pos rfl, Int.natCast_succ, Int.add_mul, Int.one_mul]
    rw [e1, e2] at h; exact h
  have h0 := (tot_le o t.sc.length (Nat.le_refl _)).1
  have hr1 := o.r1; have hr4 := o.r4
  have h3 : Int.tdiv (tot t t.sc.length + t.ro.length - 1) t.ro.length ≤ e := by
    rw [Int.tdiv_eq_ediv_of_nonneg (by omega)]
    rcases (show t.ro.length = 1 ∨ t.ro.length = 2 ∨ t.ro.length = 3 ∨ t.ro.length = 4 by omega) with h | h | h | h <;> rw [h] at h2 ⊢ <;> omega
  unfold leastT
  rcases (mx_le (mostU t 24) (Int.tdiv (tot t t.sc.length + t.ro.length - 1) t.ro.length)).2.2 with h | h <;> rw [h] <;> assumption
end
end Go.Proofs.Ytjppjppapdflmaa.PAll
