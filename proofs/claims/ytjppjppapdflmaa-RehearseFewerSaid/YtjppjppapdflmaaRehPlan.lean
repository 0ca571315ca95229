/- The program's rooms and slots: what they answer. -/
import Derived.Test.YtjppjppapdflmaaPAllf55
import Derived.Test.YtjppjppapdflmaaRPl
import Derived.Test.YtjppjppapdflmaaRehDfs
namespace Go.Proofs.Ytjppjppapdflmaa.PAll
set_option linter.unusedVariables false
set_option linter.unusedSectionVars false
set_option linter.unusedSimpArgs false
open Go Go.RowKit Go.Proofs.YtjppjppapdflmaaW.PrintWords Go.Proofs.YtjppjppapdflmaaW.PrintLast Go.Proofs.YtjppjppapdflmaaW.PrintMore Go.Proofs.Ytjppjppapdflmaa.MathNum Go.Proofs.Ytjppjppapdflmaa.EvWords

/-- Slots of the first scenes, each by itself as it may be. -/
def Slots (t : Tk) (p : List Int) : Prop := p.length ≤ t.sc.length ∧ ∀ k, k < p.length → 0 ≤ rd p k ∧ rd p k + slAt t k ≤ t.sl ∧ awayB t k (rd p k) = false
def okR (t : Tk) (p out : List Int) (r : Nat) : Bool := fitsB t out.length r && allR (fun k => !(decide (rd out k = r) && meetB t out.length (rd p out.length) k (rd p k))) 0 out.length
def roomsD (t : Tk) (p : List Int) : Option (List Int) := dfs t.ro.length (okR t p) p.length []
def possB (t : Tk) (p : List Int) (i : Nat) (a : Int) : Bool := !awayB t i a && allR (fun k => !(meetB t i a k (rd p k) && shareB t i k)) 0 p.length
def openP (t : Tk) (e : Nat) (p : List Int) (i : Nat) : Prop := ∃ a : Nat, (a : Int) + slAt t i ≤ e ∧ possB t p i a = true
open Classical in
noncomputable def openB (t : Tk) (e : Nat) (p : List Int) (i : Nat) : Bool := decide (openP t e p i)
def okS (t : Tk) (e : Nat) (p : List Int) (a : Nat) : Bool := decide ((a : Int) + slAt t p.length ≤ e) && possB t p p.length a && (roomsD t (p ++ [(a : Int)])).isSome
noncomputable def exS (t : Tk) (e : Nat) (p : List Int) (a : Nat) : Bool := allR (fun k => openB t e (p ++ [(a : Int)]) k) (p.length + 1) (t.sc.length - (p.length + 1))
theorem rd_app {p : List Int} {x : Int} {k : Nat} (h : k < p.length) : rd (p ++ [x]) (k : Int) = rd p k := by
  rw [rdI _ (by rw [List.length_append]; omega), rdI _ h, List.getElem_append_left h]
theorem rd_last {p : List Int} {x : Int} : rd (p ++ [x]) (p.length : Int) = x := by
  rw [rdI _ (show p.length < (p ++ [x]).length by rw [List.length_append, List.length_singleton]; omega)]; simp
theorem len1 {p : List Int} {x : Int} : (p ++ [x]).length = p.length + 1 := by rw [List.length_append, List.length_singleton]
section
variable {t : Tk} (o : Okt t) (hc : Hc t)
include o hc
omit hc in
theorem rooms_l1 {p out : List Int} (hS : Slots t p) (hi : out.length < p.length) {r : Nat} {x x' : Int} {X : List Int × Bool} : ∀ (e k : Nat) (b : Bool), k + e = out.length →
    Ev (fun q => rehearse_Task_rooms_fn1.l1 q (out.length : Int) (r : Int) (b && allR (fun k => !(decide (rd out k = r) && meetB t out.length (rd p out.length) k (rd p k))) k e) x x' (out.length : Int) (out.length : Int) p t.sc t.ro t.bu t.sl out) X →
    Ev (fun q => rehearse_Task_rooms_fn1.l1 q (out.length : Int) (r : Int) b x x' (out.length : Int) (k : Int) p t.sc t.ro t.bu t.sl out) X
 | 0, k, b, he, h => by
  obtain rfl : k = out.length := by omega
  rw [allR, Bool.and_true] at h; exact h
 | e + 1, k, b, he, h => by
  have hn := o.n; have hs1 := hS.1; have h32 := o.s2
  have a1 := hS.2 out.length hi; have a2 := hS.2 k (by omega)
  have b1 := o.ln out.length (by omega); have b2 := o.ln k (by omega)
  rw [allR] at h
  refine ev_step (fun k => by simp only [rehearse_Task_rooms_fn1.l1] <;> exact rfl) (ev_pos (by omega) (ev_pos (by omega) (ev_pos (by omega) ?_)))
  rw [w64 (n := (k : Int) + 1) (by omega) (by omega)]
  cases b with
  | false => exact ev_neg (by simp) (rooms_l1 hS hi e (k + 1) false (by omega) (by rw [Bool.false_and] at h ⊢; exact h))
  | true =>
    refine ev_pos (c := true = true) rfl ?_
    rw [Bool.true_and] at h
    by_cases q : rd out k = r
    · refine ev_pos q (ev_pos (by omega) (ev_pos (by omega) (ev_pos (by omega) ?_)))
      rw [meet_ev o (by omega) (by omega) (by omega) (by omega) (by omega) (by omega)]
      refine ev_let (rooms_l1 hS hi e (k + 1) _ (by omega) ?_)
      rw [decide_eq_true q, Bool.true_and] at h; exact h
    · refine ev_neg q (rooms_l1 hS hi e (k + 1) true (by omega) ?_)
      rw [decide_eq_false q, Bool.false_and, Bool.not_false] at h; exact h
omit hc in
theorem rooms_f {p : List Int} (hS : Slots t p) : ∀ (d : Nat) (out : List Int), out.length + d = p.length → Ev (fun q => rehearse_Task_rooms_fn1.f q (out.length : Int) p t.sc t.ro t.bu t.sl out) (res out (dfs t.ro.length (okR t p) d out))
 | 0, out, hd => ev_step (fun k => by simp only [rehearse_Task_rooms_fn1.f] <;> exact rfl) (ev_pos (by omega) (ev_now _))
 | d + 1, out, hd => by
  have hn := o.n; have hs1 := hS.1; have h4 := o.r4
  refine ev_step (fun k => by simp only [rehearse_Task_rooms_fn1.f] <;> exact rfl) (ev_neg (by omega) ?_)
  have loop : ∀ m r : Nat, r + m = t.ro.length → Ev (fun q => rehearse_Task_rooms_fn1.l0 q (out.length : Int) (t.ro.length : Int) (r : Int) p t.sc t.ro t.bu t.sl out) (res out (ff (fun r => if okR t p out r = true then dfs t.ro.length (okR t p) d (out ++ [(r : Int)]) else none) m r)) := by
    intro m
    induction m with
    | zero =>
      intro r hr
      exact ev_step (fun k => by simp only [rehearse_Task_rooms_fn1.l0] <;> exact rfl) (ev_neg (by omega) (ev_now _))
    | succ m ih =>
      intro r hr
      refine ev_step (fun k => by simp only [rehearse_Task_rooms_fn1.l0] <;> exact rfl) (ev_pos (by omega) ?_)
      rw [fits_ev (show out.length < t.sc.length by omega) (show r < t.ro.length by omega)]
      refine ev_let (rooms_l1 o hS (by omega) out.length 0 _ (Nat.zero_add _) ?_)
      refine ev_step (fun k => by simp only [rehearse_Task_rooms_fn1.l1] <;> exact rfl) (ev_neg (by omega) ?_)
      rw [show (fitsB t out.length r && allR (fun k => !(decide (rd out k = r) && meetB t out.length (rd p out.length) k (rd p k))) 0 out.length) = okR t p out r from rfl, w64 (n := (r : Int) + 1) (by omega) (by omega)]
      unfold ff
      cases hok : okR t p out r with
      | false =>
        rw [if_neg (show ¬ false = true by simp)]
        exact ev_neg (by simp) (ih (r + 1) (by omega))
      | true =>
        rw [if_pos rfl]
        refine ev_pos (c := true = true) rfl (ev_pos (by omega) ?_)
        have hrec := rooms_f hS d (out ++ [(r : Int)]) (by rw [len1]; omega)
        rw [len1] at hrec
        rw [w64 (n := (out.length : Int) + 1) (by omega) (by omega)]
        refine Ev.bind hrec ?_
        cases hdf : dfs t.ro.length (okR t p) d (out ++ [(r : Int)]) with
        | some q => exact ev_pos (c := true = true) rfl (ev_now _)
        | none =>
          refine ev_neg (by simp [res]) (ev_pos (by omega) (ev_pos (by simp only [res]; rw [len1]; omega) ?_))
          simp only [res]
          rw [Int.toNat_natCast, List.take_left' rfl]
          exact ih (r + 1) (by omega)
  exact loop t.ro.length 0 (Nat.zero_add _)
omit hc in
theorem rooms_ev {p : List Int} (hS : Slots t p) : Ev (fun q => rehearse_Task_rooms.f q t.sc t.ro t.bu t.sl p) (res [] (roomsD t p)) := by
  unfold rehearse_Task_rooms.f
  exact Ev.bind (rooms_f o hS p.length [] (Nat.zero_add _)) (ev_now _)
theorem poss_l0 {p : List Int} (hS : Slots t p) {i : Nat} (hi : i < t.sc.length) {a : Int} (a0 : 0 ≤ a) (a1 : a ≤ 1000) : ∀ e k : Nat, k + e = p.length →
    Ev (fun q => rehearse_Task_possible.l0 q (i : Int) a p (p.length : Int) (k : Int) t.sc t.ro t.bu t.sl) (allR (fun k => !(meetB t i a k (rd p k) && shareB t i k)) k e)
 | 0, k, he => ev_step (fun k => by simp only [rehearse_Task_possible.l0] <;> exact rfl) (ev_neg (by omega) (ev_now _))
 | e + 1, k, he => by
  have hn := o.n; have hs1 := hS.1; have h32 := o.s2
  have a2 := hS.2 k (by omega)
  have b2 := o.ln k (by omega)
  have ih := poss_l0 hS hi a0 a1 e (k + 1) (by omega)
  refine ev_step (fun k => by simp only [rehearse_Task_possible.l0] <;> exact rfl) (ev_pos (by omega) (ev_pos (by omega) (ev_pos (by omega) ?_)))
  rw [w64 (n := (k : Int) + 1) (by omega) (by omega), meet_ev o hi (by omega) a0 a1 (by omega) (by omega), allR]
  refine ev_let ?_
  cases hm : meetB t i a k (rd p k)
  · rw [Bool.false_and, Bool.not_false, Bool.true_and]; exact ev_neg (by simp) ih
  · rw [Bool.true_and]
    refine ev_pos (c := true = true) rfl (Ev.bind (share_ev hc hi (by omega)) ?_)
    cases hs : shareB t i k
    · rw [Bool.not_false, Bool.true_and]; exact ev_neg (by simp) ih
    · exact ev_pos (c := true = true) rfl (ev_now _)
theorem poss_ev {p : List Int} (hS : Slots t p) {i : Nat} (hi : i < t.sc.length) {a : Int} (a0 : 0 ≤ a) (a1 : a ≤ 1000) : Ev (fun q => rehearse_Task_possible.f q t.sc t.ro t.bu t.sl p (i : Int) a) (possB t p i a) := by
  unfold rehearse_Task_possible.f possB
  refine Ev.bind (away_ev o hc hi a0 a1) ?_
  cases hw : awayB t i a
  · rw [Bool.not_false, Bool.true_and]; exact ev_neg (by simp) (poss_l0 o hc hS hi a0 a1 p.length 0 (Nat.zero_add _))
  · exact ev_pos (c := true = true) rfl (ev_now _)
theorem open_l0 {p : List Int} (hS : Slots t p) {i : Nat} (hi : i < t.sc.length) {e : Nat} (he : (e : Int) ≤ t.sl) : ∀ m a : Nat, a + m = e + 1 →
    ∃ b : Bool, (b = true ↔ ∃ a' : Nat, a ≤ a' ∧ (a' : Int) + slAt t i ≤ e ∧ possB t p i a' = true) ∧ Ev (fun q => rehearse_Task_until_fn1.l0 q (i : Int) (a : Int) t.sc t.ro t.bu t.sl (e : Int) p) b
 | 0, a, hm => by
  have b1 := o.ln i hi; have h32 := o.s2
  refine ⟨false, ⟨fun h => (by cases h), fun ⟨a', h1, h2, _⟩ => by omega⟩, ev_step (fun k => by simp only [rehearse_Task_until_fn1.l0] <;> exact rfl) (ev_pos (by omega) (ev_pos (by omega) ?_))⟩
  rw [show wrap64 ((a : Int) + (rd_T53 t.sc i).f1) = a + slAt t i from w64 (n := (a : Int) + slAt t i) (by omega) (by omega)]
  exact ev_neg (by omega) (ev_now _)
 | m + 1, a, hm => by
  have b1 := o.ln i hi; have h32 := o.s2
  have ew : wrap64 ((a : Int) + (rd_T53 t.sc i).f1) = a + slAt t i := w64 (n := (a : Int) + slAt t i) (by omega) (by omega)
  by_cases h : (a : Int) + slAt t i ≤ e
  · have pre : ∀ {r : Bool}, Ev (fun q => if possB t p i a = true then some true else rehearse_Task_until_fn1.l0 q (i : Int) ((a + 1 : Nat) : Int) t.sc t.ro t.bu t.sl (e : Int) p) r → Ev (fun q => rehearse_Task_until_fn1.l0 q (i : Int) (a : Int) t.sc t.ro t.bu t.sl (e : Int) p) r := by
      intro r hr
      refine ev_step (fun k => by simp only [rehearse_Task_until_fn1.l0] <;> exact rfl) (ev_pos (by omega) (ev_pos (by omega) ?_))
      rw [ew, w64 (n := (a : Int) + 1) (by omega) (by omega)]
      exact ev_pos h (Ev.bind (poss_ev o hc hS hi (by omega) (by omega)) hr)
    by_cases hp : possB t p i a = true
    · exact ⟨true, ⟨fun _ => ⟨a, Nat.le_refl _, h, hp⟩, fun _ => rfl⟩, pre (ev_pos hp (ev_now _))⟩
    · obtain ⟨b, hb, eb⟩ := open_l0 hS hi he m (a + 1) (by omega)
      refine ⟨b, hb.trans ⟨fun ⟨a', h1, h2⟩ => ⟨a', by omega, h2⟩, fun ⟨a', h1, h2, h3⟩ => ⟨a', ?_, h2, h3⟩⟩, pre (ev_neg hp eb)⟩
      by_cases q : a' = a
      · rw [q] at h3; exact absurd h3 hp
      · omega
  · refine ⟨false, ⟨fun h => (by cases h), fun ⟨a', h1, h2, _⟩ => by omega⟩, ev_step (fun k => by simp only [rehearse_Task_until_fn1.l0] <;> exact rfl) (ev_pos (by omega) (ev_pos (by omega) ?_))⟩
    rw [ew]
    exact ev_neg h (ev_now _)
open Classical in
theorem open_ev {p : List Int} (hS : Slots t p) {i : Nat} (hi : i < t.sc.length) {e : Nat} (he : (e : Int) ≤ t.sl) : Ev (fun q => rehearse_Task_until_fn1.f q (i : Int) t.sc t.ro t.bu t.sl (e : Int) p) (openB t e p i) := by
  unfold rehearse_Task_until_fn1.f
  obtain ⟨b, hb, eb⟩ := open_l0 o hc hS hi he (e + 1) 0 (by omega)
  refine ev_eq eb ?_
  unfold openB
  cases b with
  | true => obtain ⟨a, _, h⟩ := hb.1 rfl; exact (decide_eq_true ⟨a, h⟩).symm
  | false => exact (decide_eq_false fun ⟨a, h⟩ => by have := hb.2 ⟨a, Nat.zero_le _, h⟩; cases this).symm
omit hc in
theorem slots_app {p : List Int} (hS : Slots t p) (hi : p.length < t.sc.length) {a : Int} (a0 : 0 ≤ a) (a1 : a + slAt t p.length ≤ t.sl) (hw : awayB t p.length a = false) : Slots t (p ++ [a]) := by
  refine ⟨by rw [len1]; omega, fun k hk => ?_⟩
  rw [len1] at hk
  by_cases e : k = p.length
  · subst e; rw [rd_last]; exact ⟨a0, a1, hw⟩
  · rw [rd_app (by omega)]; exact hS.2 k (by omega)
omit o hc in
theorem poss_away {p : List Int} {i : Nat} {a : Int} (h : possB t p i a = true) : awayB t i a = false := by
  unfold possB at h
  cases q : awayB t i a
  · rfl
  · rw [q] at h; simp at h
theorem until_l1 {p : List Int} (hS : Slots t p) {e : Nat} (he : (e : Int) ≤ t.sl) {x y : Int} {X : List Int × Bool} : ∀ (m k : Nat) (b : Bool), k + m = t.sc.length →
    Ev (fun q => rehearse_Task_until_fn2.j2 q x y (b && allR (fun k => openB t e p k) k m) p t.sc t.ro t.bu t.sl (e : Int)) X →
    Ev (fun q => rehearse_Task_until_fn2.l1 q x y b (k : Int) p t.sc t.ro t.bu t.sl (e : Int)) X
 | 0, k, b, hm, h => by
  rw [allR, Bool.and_true] at h
  refine ev_step (fun k => by simp only [rehearse_Task_until_fn2.l1] <;> exact rfl) ?_
  cases b with
  | true => exact ev_pos (c := true = true) rfl (ev_neg (by omega) h)
  | false => exact ev_neg (by simp) h
 | m + 1, k, b, hm, h => by
  have hn := o.n
  refine ev_step (fun k => by simp only [rehearse_Task_until_fn2.l1] <;> exact rfl) ?_
  cases b with
  | true =>
    rw [Bool.true_and, allR] at h
    refine ev_pos (c := true = true) rfl (ev_pos (by omega) (Ev.bind (open_ev o hc hS (by omega) he) ?_))
    rw [w64 (n := (k : Int) + 1) (by omega) (by omega)]
    exact until_l1 hS he m (k + 1) _ (by omega) h
  | false => rw [Bool.false_and] at h; exact ev_neg (by simp) h
theorem until_f {e : Nat} (he : (e : Int) ≤ t.sl) : ∀ (d : Nat) (p : List Int), Slots t p → p.length + d = t.sc.length → Ev (fun q => rehearse_Task_until_fn2.f q p t.sc t.ro t.bu t.sl (e : Int)) (res p (dfs e (fun p r => okS t e p r && exS t e p r) d p))
 | 0, p, hS, hd => ev_step (fun k => by simp only [rehearse_Task_until_fn2.f] <;> exact rfl) (ev_pos (by omega) (ev_now _))
 | d + 1, p, hS, hd => by
  have hn := o.n; have h32 := o.s2
  have hi : p.length < t.sc.length := by omega
  have b1 := o.ln p.length hi
  refine ev_step (fun k => by simp only [rehearse_Task_until_fn2.f] <;> exact rfl) (ev_neg (by omega) ?_)
  have loop : ∀ m a : Nat, a + m = e → Ev (fun q => rehearse_Task_until_fn2.l0 q (p.length : Int) (a : Int) p t.sc t.ro t.bu t.sl (e : Int)) (res p (ff (fun r => if (okS t e p r && exS t e p r) = true then dfs e (fun p r => okS t e p r && exS t e p r) d (p ++ [(r : Int)]) else none) m a)) := by
    intro m
    induction m with
    | zero =>
      intro a ha
      refine ev_step (fun k => by simp only [rehearse_Task_until_fn2.l0] <;> exact rfl) (ev_pos (by omega) (ev_pos (by omega) ?_))
      rw [show wrap64 ((a : Int) + (rd_T53 t.sc p.length).f1) = a + slAt t p.length from w64 (n := (a : Int) + slAt t p.length) (by omega) (by omega)]
      exact ev_neg (by omega) (ev_now _)
    | succ m ih =>
      intro a ha
      refine ev_step (fun k => by simp only [rehearse_Task_until_fn2.l0] <;> exact rfl) (ev_pos (by omega) (ev_pos (by omega) ?_))
      rw [show wrap64 ((a : Int) + (rd_T53 t.sc p.length).f1) = a + slAt t p.length from w64 (n := (a : Int) + slAt t p.length) (by omega) (by omega), w64 (n := (a : Int) + 1) (by omega) (by omega)]
      by_cases h : (a : Int) + slAt t p.length ≤ e
      · refine ev_pos h (Ev.bind (poss_ev o hc hS hi (by omega) (by omega)) ?_)
        unfold ff
        by_cases hp : possB t p p.length a = true
        · have hS' := slots_app o hS hi (show (0 : Int) ≤ (a : Int) by omega) (by omega) (poss_away hp)
          refine ev_pos hp (ev_pos (by omega) (ev_let (Ev.bind (rooms_ev o hS') ?_)))
          rw [w64 (n := (p.length : Int) + 1) (by omega) (by omega)]
          refine until_l1 o hc hS' he (t.sc.length - (p.length + 1)) (p.length + 1) _ (by omega) ?_
          have hx : ((res [] (roomsD t (p ++ [(a : Int)]))).2 && allR (fun k => openB t e (p ++ [(a : Int)]) k) (p.length + 1) (t.sc.length - (p.length + 1))) = (okS t e p a && exS t e p a) := by
            unfold okS exS
            rw [decide_eq_true h, hp, Bool.true_and, Bool.true_and]
            cases roomsD t (p ++ [(a : Int)]) <;> rfl
          rw [hx]
          refine ev_step (fun k => by simp only [rehearse_Task_until_fn2.j2] <;> exact rfl) ?_
          rw [w64 (n := (a : Int) + 1) (by omega) (by omega)]
          cases hok : (okS t e p a && exS t e p a) with
          | false =>
            rw [if_neg (show ¬ false = true by simp)]
            refine ev_neg (by simp) (ev_pos (by omega) (ev_pos (by rw [len1]; omega) ?_))
            rw [Int.toNat_natCast, List.take_left' rfl]
            exact ih (a + 1) (by omega)
          | true =>
            rw [if_pos rfl]
            refine ev_pos (c := true = true) rfl (Ev.bind (until_f he d (p ++ [(a : Int)]) hS' (by rw [len1]; omega)) ?_)
            cases hdf : dfs e (fun p r => okS t e p r && exS t e p r) d (p ++ [(a : Int)]) with
            | some q => exact ev_pos (c := true = true) rfl (ev_now _)
            | none =>
              refine ev_neg (by simp [res]) (ev_pos (by omega) (ev_pos (by simp only [res]; rw [len1]; omega) ?_))
              simp only [res]
              rw [Int.toNat_natCast, List.take_left' rfl]
              exact ih (a + 1) (by omega)
        · have hok : (okS t e p a && exS t e p a) = false := by
            unfold okS; rw [Bool.eq_false_iff.2 hp]; simp
          rw [hok, if_neg (show ¬ false = true by simp)]
          exact ev_neg hp (ih (a + 1) (by omega))
      · refine ev_eq (ev_neg h (ev_now _)) ?_
        rw [ff_none.2 (fun j h1 h2 => if_neg ?_)]
        · rfl
        · unfold okS
          rw [decide_eq_false (show ¬ (j : Int) + slAt t p.length ≤ e by omega)]; simp
  exact loop e 0 (Nat.zero_add _)
end
end Go.Proofs.Ytjppjppapdflmaa.PAll
