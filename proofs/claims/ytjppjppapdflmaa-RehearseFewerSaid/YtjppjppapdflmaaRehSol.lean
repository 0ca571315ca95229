/- Plans that are valid, as slots and rooms; the plan that is found is valid, and the least. -/
import Derived.Test.YtjppjppapdflmaaRehPlan3
import Derived.Test.YtjppjppapdflmaaRehValid3
namespace Go.Proofs.Ytjppjppapdflmaa.PAll
set_option linter.unusedVariables false
set_option linter.unusedSectionVars false
set_option linter.unusedSimpArgs false
open Go Go.RowKit Go.Proofs.YtjppjppapdflmaaW.PrintWords Go.Proofs.YtjppjppapdflmaaW.PrintLast Go.Proofs.YtjppjppapdflmaaW.PrintMore Go.Proofs.Ytjppjppapdflmaa.MathNum Go.Proofs.Ytjppjppapdflmaa.EvWords

theorem planE_sol {t : Tk} {e : Nat} {l : List S48} (h : planE t e = some l) : ∃ q out, slotsD t e = some q ∧ roomsD t q = some out ∧ SolS t e q ∧ SolR t q out ∧ l = mkS q out := by
  unfold planE at h
  by_cases c : crowdB t e = true
  · rw [if_pos c] at h; cases h
  · rw [if_neg c] at h
    cases hs : slotsD t e with
    | none => rw [hs] at h; cases h
    | some q =>
      rw [hs] at h
      obtain ⟨s, out, ho⟩ := way_sol (dfs_way hs)
      refine ⟨q, out, rfl, ho, s, roomsD_sol ho, ?_⟩
      have := Option.some.inj h
      rw [← this]
      show planS t q = _
      unfold planS; rw [ho]; rfl
theorem planE_of {t : Tk} (o : Okt t) {e : Nat} {q out : List Int} (s : SolS t e q) (r : SolR t q out) : planE t e ≠ none := by
  unfold planE
  rw [if_neg (by rw [not_crowd o s r]; simp)]
  intro h
  exact way_dfs (way_ofSol o s r) (Option.map_eq_none_iff.1 h)
theorem st_mk {q out : List Int} {i : Nat} (h : i < q.length) : st (mkS q out) i = rd q i ∧ rm (mkS q out) i = rd out i ∧ scn (mkS q out) i = i := by
  unfold st rm scn
  rw [mkS_at h]; exact ⟨rfl, rfl, rfl⟩
theorem sol_valid {t : Tk} (o : Okt t) {e : Nat} (he : (e : Int) ≤ t.sl) {q out : List Int} (s : SolS t e q) (r : SolR t q out) : Vld t (mkS q out) := by
  have hl := s.len
  refine ⟨o, by rw [mkS_len, hl], fun i hi => (st_mk (by omega)).2.2, fun i hi => ?_, fun i hi => ?_, fun i hi => ?_, fun h => ?_, fun h => ?_⟩
  · rw [(st_mk (show i < q.length by omega)).2.1]; exact r.room i (by omega)
  · rw [(st_mk (show i < q.length by omega)).1]; have := s.slot i hi; omega
  · rw [(st_mk (show i < q.length by omega)).1]; exact s.away i hi
  · obtain ⟨a, b, h1, h2, h3⟩ := some2_first.1 h
    obtain ⟨h3, h4⟩ := h3
    rw [(st_mk (show a < q.length by omega)).1, (st_mk (show b < q.length by omega)).1] at h3
    rw [(st_mk (show a < q.length by omega)).2.1, (st_mk (show b < q.length by omega)).2.1] at h4
    exact r.meet a b h1 (by omega) h3 h4.symm
  · obtain ⟨a, b, h1, h2, h3⟩ := some2_first.1 h
    obtain ⟨h3, h4⟩ := h3
    rw [(st_mk (show a < q.length by omega)).1, (st_mk (show b < q.length by omega)).1] at h3
    rw [s.share a b h1 h2 h3] at h4; cases h4
theorem endU_le {t : Tk} {l : List S48} : ∀ n i : Nat, i < n → st l i + slAt t i ≤ endU t l n
 | 0, i, h => by omega
 | n + 1, i, h => by
  obtain ⟨m1, m2, _⟩ := mx_le (endU t l n) (st l n + slAt t n)
  unfold endU
  by_cases e : i = n
  · rw [e]; exact m2
  · have := endU_le (t := t) (l := l) n i (show i < n by omega); omega
theorem endU_of {t : Tk} {l : List S48} {m : Int} (h0 : 0 ≤ m) : ∀ n : Nat, (∀ i, i < n → st l i + slAt t i ≤ m) → endU t l n ≤ m
 | 0, _ => by unfold endU; exact h0
 | n + 1, h => by
  have a := endU_of h0 n (fun i hi => h i (by omega))
  have b := h n (by omega)
  unfold endU
  rcases (mx_le (endU t l n) (st l n + slAt t n)).2.2 with q | q <;> rw [q] <;> assumption
theorem endU_nn {t : Tk} {l : List S48} : ∀ n : Nat, 0 ≤ endU t l n
 | 0 => by unfold endU; omega
 | n + 1 => by
  have a := endU_nn (t := t) (l := l) n
  have := (mx_le (endU t l n) (st l n + slAt t n)).1
  unfold endU; omega
/-- The slots, and the rooms, of sessions. -/
def slotsOf (t : Tk) (l : List S48) : List Int := (List.range t.sc.length).map fun (j : Nat) => st l j
def roomsOf (t : Tk) (l : List S48) : List Int := (List.range t.sc.length).map fun (j : Nat) => rm l j
theorem slotsOf_len {t : Tk} {l : List S48} : (slotsOf t l).length = t.sc.length := by unfold slotsOf; rw [List.length_map, List.length_range]
theorem roomsOf_len {t : Tk} {l : List S48} : (roomsOf t l).length = t.sc.length := by unfold roomsOf; rw [List.length_map, List.length_range]
theorem slotsOf_at {t : Tk} {l : List S48} {i : Nat} (h : i < t.sc.length) : rd (slotsOf t l) (i : Int) = st l i := by
  rw [rdI _ (show i < (slotsOf t l).length by rw [slotsOf_len]; exact h)]
  unfold slotsOf; rw [List.getElem_map, List.getElem_range]
theorem roomsOf_at {t : Tk} {l : List S48} {i : Nat} (h : i < t.sc.length) : rd (roomsOf t l) (i : Int) = rm l i := by
  rw [rdI _ (show i < (roomsOf t l).length by rw [roomsOf_len]; exact h)]
  unfold roomsOf; rw [List.getElem_map, List.getElem_range]
theorem valid_sol {t : Tk} {l : List S48} (v : Vld t l) {e : Nat} (he : endU t l t.sc.length ≤ e) : SolS t e (slotsOf t l) ∧ SolR t (slotsOf t l) (roomsOf t l) := by
  refine ⟨⟨slotsOf_len, fun k hk => ?_, fun k hk => ?_, fun k j hj hk hm => ?_⟩, ⟨by rw [roomsOf_len, slotsOf_len], fun k hk => ?_, fun k j hj hk hm => ?_⟩⟩
  · rw [slotsOf_at hk]; have := v.slot k hk; have := endU_le (t := t) (l := l) _ k hk; omega
  · rw [slotsOf_at hk]; exact v.away k hk
  · rw [slotsOf_at hk, slotsOf_at (show j < t.sc.length by omega)] at hm
    exact Bool.eq_false_iff.2 fun h => v.ncc (some2_first.2 ⟨k, j, hj, hk, hm, h⟩)
  · rw [slotsOf_len] at hk; rw [roomsOf_at hk]; exact v.room k hk
  · rw [slotsOf_len] at hk
    rw [slotsOf_at hk, slotsOf_at (show j < t.sc.length by omega)] at hm
    rw [roomsOf_at hk, roomsOf_at (show j < t.sc.length by omega)]
    exact fun h => v.nrc (some2_first.2 ⟨k, j, hj, hk, hm, h.symm⟩)
/-- A valid plan: Plan finds one, that does not end later. -/
theorem plan_of_valid {t : Tk} {l : List S48} (v : Vld t l) : ∃ (e : Nat) (q out : List Int), planO t = (mkS q out, 0) ∧ (e : Int) ≤ endU t l t.sc.length ∧ slotsD t e = some q ∧ roomsD t q = some out ∧ SolS t e q ∧ SolR t q out ∧ (∀ e' : Nat, e' < e → planE t e' = none) := by
  have o := v.ok
  obtain ⟨n, hn⟩ := Int.eq_ofNat_of_zero_le (endU_nn (t := t) (l := l) t.sc.length)
  have hsl : endU t l t.sc.length ≤ t.sl := endU_of (by have := o.s1; omega) _ (fun i hi => (v.slot i hi).2)
  obtain ⟨s, r⟩ := valid_sol v (e := n) (by omega)
  have hne := planE_of o s r
  cases hf : ff (planE t) (t.sl.toNat + 1) 0 with
  | none => exact absurd (ff_none.1 hf n (Nat.zero_le _) (by omega)) hne
  | some p =>
    obtain ⟨e, _, _, h3, h4⟩ := ff_some hf
    obtain ⟨q, out, k1, k2, k3, k4, rfl⟩ := planE_sol h3
    refine ⟨e, q, out, by unfold planO; rw [hf]; rfl, ?_, k1, k2, k3, k4, fun e' he' => h4 e' (Nat.zero_le _) he'⟩
    by_cases c : e ≤ n
    · omega
    · exact absurd (h4 n (Nat.zero_le _) (by omega)) hne
/-- What Plan returns. -/
theorem plan_cases {t : Tk} (o : Okt t) : (planO t = ([], 42) ∧ ∀ l, ¬ Vld t l) ∨ ∃ (e : Nat) (q out : List Int), planO t = (mkS q out, 0) ∧ (e : Int) ≤ t.sl ∧ slotsD t e = some q ∧ roomsD t q = some out ∧ SolS t e q ∧ SolR t q out ∧ (∀ e' : Nat, e' < e → planE t e' = none) ∧ endU t (mkS q out) t.sc.length = e := by
  cases hf : ff (planE t) (t.sl.toNat + 1) 0 with
  | none =>
    refine .inl ⟨by unfold planO; rw [hf]; rfl, fun l v => ?_⟩
    obtain ⟨e, q, out, h, _⟩ := plan_of_valid v
    unfold planO at h
    rw [hf] at h
    have := congrArg Prod.snd h
    simp [outP] at this
  | some p =>
    obtain ⟨e, _, h2, h3, h4⟩ := ff_some hf
    obtain ⟨q, out, k1, k2, k3, k4, rfl⟩ := planE_sol h3
    have h1 := o.s1
    have he : (e : Int) ≤ t.sl := by omega
    refine .inr ⟨e, q, out, by unfold planO; rw [hf]; rfl, he, k1, k2, k3, k4, fun e' he' => h4 e' (Nat.zero_le _) he', ?_⟩
    have v := sol_valid o he k3 k4
    have hl := k3.len
    have hup : endU t (mkS q out) t.sc.length ≤ e := endU_of (by omega) _ (fun i hi => by rw [(st_mk (show i < q.length by omega)).1]; exact (k3.slot i hi).2)
    obtain ⟨n, hn⟩ := Int.eq_ofNat_of_zero_le (endU_nn (t := t) (l := mkS q out) t.sc.length)
    obtain ⟨s, r⟩ := valid_sol v (e := n) (by omega)
    have hne := planE_of o s r
    by_cases c : e ≤ n
    · omega
    · exact absurd (h4 n (Nat.zero_le _) (by omega)) hne
end Go.Proofs.Ytjppjppapdflmaa.PAll
