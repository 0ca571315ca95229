/- The reference's rooms and slots: what they answer. -/
import Derived.Test.YtjppjppapdflmaaPAllf44
import Derived.Test.YtjppjppapdflmaaPAllf57
import Derived.Test.YtjppjppapdflmaaPAllf58
import Derived.Test.YtjppjppapdflmaaPAllf92
import Derived.Test.YtjppjppapdflmaaRehPlan
namespace Go.Proofs.Ytjppjppapdflmaa.PAll
set_option linter.unusedVariables false
set_option linter.unusedSectionVars false
set_option linter.unusedSimpArgs false
open Go Go.RowKit Go.Proofs.YtjppjppapdflmaaW.PrintWords Go.Proofs.YtjppjppapdflmaaW.PrintLast Go.Proofs.YtjppjppapdflmaaW.PrintMore Go.Proofs.Ytjppjppapdflmaa.MathNum Go.Proofs.Ytjppjppapdflmaa.EvWords

/-- Sessions with slots p and, as far as they go, rooms out. -/
def mkS (p out : List Int) : List S48 := (List.range p.length).map fun (j : Nat) => ⟨(j : Int), rd out (j : Int), rd p (j : Int)⟩
theorem mkS_len {p out : List Int} : (mkS p out).length = p.length := by unfold mkS; rw [List.length_map, List.length_range]
theorem mkS_at {p out : List Int} {j : Nat} (h : j < p.length) : rd_T48 (mkS p out) (j : Int) = ⟨(j : Int), rd out (j : Int), rd p (j : Int)⟩ := by
  rw [rd48 _ (show j < (mkS p out).length by rw [mkS_len]; exact h)]
  unfold mkS
  rw [List.getElem_map, List.getElem_range]
theorem mkS_get {p out : List Int} {j : Nat} (h : j < (mkS p out).length) : (mkS p out)[j] = ⟨(j : Int), rd out (j : Int), rd p (j : Int)⟩ := by
  rw [← rd48 _ h, mkS_at (by rw [mkS_len] at h; exact h)]
theorem rd_out {l : List Int} {j : Nat} (h : l.length ≤ j) : rd l (j : Int) = 0 := by
  unfold rd
  rw [List.getD_eq_getElem?_getD, Int.toNat_natCast, List.getElem?_eq_none h]; rfl
theorem mkS_set {p out : List Int} {r : Int} (h : out.length < p.length) : (mkS p out).set out.length ⟨(out.length : Int), r, rd p (out.length : Int)⟩ = mkS p (out ++ [r]) := by
  apply List.ext_getElem
  · rw [List.length_set, mkS_len, mkS_len]
  · intro j h1 h2
    rw [List.getElem_set, mkS_get, mkS_get]
    have hj : j < p.length := by rw [mkS_len] at h2; exact h2
    by_cases e : out.length = j
    · subst e; rw [if_pos rfl, rd_last]
    · rw [if_neg e]
      by_cases q : j < out.length
      · rw [rd_app q]
      · rw [rd_out (show out.length ≤ j by omega), rd_out (show (out ++ [r]).length ≤ j by rw [len1]; omega)]
theorem mkS_app {p : List Int} {a : Int} : mkS p [] ++ [⟨(p.length : Int), 0, a⟩] = mkS (p ++ [a]) [] := by
  apply List.ext_getElem
  · rw [List.length_append, mkS_len, mkS_len, len1]; rfl
  · intro j h1 h2
    have hj : j < p.length + 1 := by rw [mkS_len, len1] at h2; exact h2
    by_cases e : j < p.length
    · rw [List.getElem_append_left (show j < (mkS p []).length by rw [mkS_len]; exact e), mkS_get, mkS_get, rd_app e]
    · have e : j = p.length := by omega
      subst e
      rw [List.getElem_append_right (show (mkS p []).length ≤ p.length by rw [mkS_len]; exact Nat.le_refl _), mkS_get, rd_last, rd_out (show ([] : List Int).length ≤ p.length by simp)]
      simp
/-- What a search of the reference answers. -/
def resS (f : List Int → List S48) : Option (List Int) → List S48 × Bool
 | some q => (f q, true)
 | none => ([], false)
section
variable {t : Tk} (o : Okt t) (hc : Hc t)
include o hc
omit o hc in
theorem sess_fits {p : List Int} (hS : Slots t p) {i : Nat} (hi : i < p.length) {r : Nat} (hr : r < t.ro.length) : (sessE t i (r : Int) (rd p i) == 0) = fitsB t i r := by
  obtain ⟨h0, h1, h2⟩ := hS.2 i hi
  cases hf : fitsB t i r
  · rw [beq_eq_false_iff_ne]
    intro h
    have := (sessE_ok.1 h).1.2.2
    rw [Int.toNat_natCast, hf] at this; cases this
  · rw [beq_iff_eq]
    exact sessE_ok.2 ⟨⟨by omega, by omega, by rw [Int.toNat_natCast]; exact hf⟩, ⟨h0, h1⟩, h2⟩
omit hc in
theorem roomy_l1 {p out : List Int} (hS : Slots t p) (hi : out.length < p.length) {r : Nat} {X : List S48 × Bool} : ∀ (e k : Nat) (b : Bool), k + e = out.length →
    Ev (fun q => dancestudioref50_roomy.l1 q (mkS p out) (out.length : Int) (r : Int) (b && allR (fun k => !(decide (rd out k = r) && meetB t out.length (rd p out.length) k (rd p k))) k e) (out.length : Int) t.sc t.ro t.bu t.sl (out.length : Int) (r : Int) (rd p out.length)) X →
    Ev (fun q => dancestudioref50_roomy.l1 q (mkS p out) (out.length : Int) (r : Int) b (k : Int) t.sc t.ro t.bu t.sl (out.length : Int) (r : Int) (rd p out.length)) X
 | 0, k, b, he, h => by
  obtain rfl : k = out.length := by omega
  rw [allR, Bool.and_true] at h; exact h
 | e + 1, k, b, he, h => by
  have hn := o.n; have hs1 := hS.1; have h32 := o.s2
  have a1 := hS.2 out.length hi; have a2 := hS.2 k (by omega)
  have b1 := o.ln out.length (by omega); have b2 := o.ln k (by omega)
  rw [allR] at h
  refine ev_step (fun k => by simp only [dancestudioref50_roomy.l1] <;> exact rfl) (ev_pos (by omega) ?_)
  rw [w64 (n := (k : Int) + 1) (by omega) (by omega)]
  cases b with
  | false => exact ev_neg (by simp) (roomy_l1 hS hi e (k + 1) false (by omega) (by rw [Bool.false_and] at h ⊢; exact h))
  | true =>
    refine ev_pos (c := true = true) rfl (ev_pos (by omega) (ev_pos (by rw [mkS_len]; omega) ?_))
    rw [Bool.true_and] at h
    rw [mkS_at (show k < p.length by omega)]
    rw [rmeet_ev o (show out.length < t.sc.length by omega) (show k < t.sc.length by omega) (show 0 ≤ rd p out.length by omega) (show rd p out.length ≤ 1000 by omega) (show 0 ≤ rd p k by omega) (show rd p k ≤ 1000 by omega)]
    refine ev_let ?_
    cases hm : meetB t out.length (rd p out.length) k (rd p k)
    · refine ev_neg (by simp) (roomy_l1 hS hi e (k + 1) true (by omega) ?_)
      rw [hm, Bool.and_false, Bool.not_false] at h; exact h
    · refine ev_pos (c := true = true) rfl (roomy_l1 hS hi e (k + 1) _ (by omega) ?_)
      rw [hm, Bool.and_true] at h
      rw [show (rd out (k : Int) != (r : Int)) = !decide (rd out (k : Int) = (r : Int)) by by_cases q : rd out (k : Int) = (r : Int) <;> simp [q]]
      exact h
theorem roomy_f {p : List Int} (hS : Slots t p) : ∀ (d : Nat) (out : List Int), out.length + d = p.length → Ev (fun q => dancestudioref50_roomy.f q t.sc t.ro t.bu t.sl (mkS p out) (out.length : Int)) (resS (mkS p) (dfs t.ro.length (okR t p) d out))
 | 0, out, hd => ev_step (fun k => by simp only [dancestudioref50_roomy.f] <;> exact rfl) (ev_pos (by rw [mkS_len]; omega) (ev_now _))
 | d + 1, out, hd => by
  have hn := o.n; have hs1 := hS.1; have h4 := o.r4; have h32 := o.s2
  have hi : out.length < p.length := by omega
  have a1 := hS.2 out.length hi
  have b1 := o.ln out.length (by omega)
  refine ev_step (fun k => by simp only [dancestudioref50_roomy.f] <;> exact rfl) (ev_neg (by rw [mkS_len]; omega) ?_)
  have loop : ∀ m r : Nat, r + m = t.ro.length → Ev (fun q => dancestudioref50_roomy.l0 q (mkS p out) (out.length : Int) (r : Int) t.sc t.ro t.bu t.sl) (resS (mkS p) (ff (fun r => if okR t p out r = true then dfs t.ro.length (okR t p) d (out ++ [(r : Int)]) else none) m r)) := by
    intro m
    induction m with
    | zero =>
      intro r hr
      exact ev_step (fun k => by simp only [dancestudioref50_roomy.l0] <;> exact rfl) (ev_neg (by omega) (ev_now _))
    | succ m ih =>
      intro r hr
      refine ev_step (fun k => by simp only [dancestudioref50_roomy.l0] <;> exact rfl) (ev_pos (by omega) (ev_pos (by omega) (ev_pos (by rw [mkS_len]; omega) ?_)))
      rw [mkS_at hi]
      refine Ev.bind (alone_ev o hc (show out.length < t.sc.length by omega) (r : Int) (rd p out.length) (by omega) (by omega)) ?_
      rw [sess_fits hS hi (show r < t.ro.length by omega)]
      refine roomy_l1 o hS hi out.length 0 _ (Nat.zero_add _) ?_
      refine ev_step (fun k => by simp only [dancestudioref50_roomy.l1] <;> exact rfl) (ev_neg (by omega) ?_)
      rw [show (fitsB t out.length r && allR (fun k => !(decide (rd out k = r) && meetB t out.length (rd p out.length) k (rd p k))) 0 out.length) = okR t p out r from rfl, w64 (n := (r : Int) + 1) (by omega) (by omega)]
      unfold ff
      cases hok : okR t p out r with
      | false =>
        rw [if_neg (show ¬ false = true by simp)]
        exact ev_neg (by simp) (ih (r + 1) (by omega))
      | true =>
        rw [if_pos rfl]
        refine ev_pos (c := true = true) rfl (ev_let (ev_pos (by rw [mkS_len]; simp; omega) (ev_let (ev_pos (by omega) (ev_pos (by rw [List.nil_append, mkS_len]; omega) ?_)))))
        rw [List.nil_append, Int.toNat_natCast, mkS_set hi]
        have hrec := roomy_f hS d (out ++ [(r : Int)]) (by rw [len1]; omega)
        rw [len1] at hrec
        rw [w64 (n := (out.length : Int) + 1) (by omega) (by omega)]
        refine Ev.bind hrec ?_
        cases hdf : dfs t.ro.length (okR t p) d (out ++ [(r : Int)]) with
        | some q => exact ev_pos (c := true = true) rfl (ev_now _)
        | none => exact ev_neg (by simp [resS]) (ih (r + 1) (by omega))
  exact loop t.ro.length 0 (Nat.zero_add _)
omit hc in
theorem roomyOk_l1 {p out : List Int} (hS : Slots t p) (hi : out.length < p.length) {r : Nat} {X : Bool} : ∀ (e k : Nat) (b : Bool), k + e = out.length →
    Ev (fun q => dancestudioref50_roomyOk.l1 q (mkS p out) (out.length : Int) (r : Int) (b && allR (fun k => !(decide (rd out k = r) && meetB t out.length (rd p out.length) k (rd p k))) k e) (out.length : Int) t.sc t.ro t.bu t.sl (out.length : Int) (r : Int) (rd p out.length)) X →
    Ev (fun q => dancestudioref50_roomyOk.l1 q (mkS p out) (out.length : Int) (r : Int) b (k : Int) t.sc t.ro t.bu t.sl (out.length : Int) (r : Int) (rd p out.length)) X
 | 0, k, b, he, h => by
  obtain rfl : k = out.length := by omega
  rw [allR, Bool.and_true] at h; exact h
 | e + 1, k, b, he, h => by
  have hn := o.n; have hs1 := hS.1; have h32 := o.s2
  have a1 := hS.2 out.length hi; have a2 := hS.2 k (by omega)
  have b1 := o.ln out.length (by omega); have b2 := o.ln k (by omega)
  rw [allR] at h
  refine ev_step (fun k => by simp only [dancestudioref50_roomyOk.l1] <;> exact rfl) (ev_pos (by omega) ?_)
  rw [w64 (n := (k : Int) + 1) (by omega) (by omega)]
  cases b with
  | false => exact ev_neg (by simp) (roomyOk_l1 hS hi e (k + 1) false (by omega) (by rw [Bool.false_and] at h ⊢; exact h))
  | true =>
    refine ev_pos (c := true = true) rfl (ev_pos (by omega) (ev_pos (by rw [mkS_len]; omega) ?_))
    rw [Bool.true_and] at h
    rw [mkS_at (show k < p.length by omega)]
    rw [rmeet_ev o (show out.length < t.sc.length by omega) (show k < t.sc.length by omega) (show 0 ≤ rd p out.length by omega) (show rd p out.length ≤ 1000 by omega) (show 0 ≤ rd p k by omega) (show rd p k ≤ 1000 by omega)]
    refine ev_let ?_
    cases hm : meetB t out.length (rd p out.length) k (rd p k)
    · refine ev_neg (by simp) (roomyOk_l1 hS hi e (k + 1) true (by omega) ?_)
      rw [hm, Bool.and_false, Bool.not_false] at h; exact h
    · refine ev_pos (c := true = true) rfl (roomyOk_l1 hS hi e (k + 1) _ (by omega) ?_)
      rw [hm, Bool.and_true] at h
      rw [show (rd out (k : Int) != (r : Int)) = !decide (rd out (k : Int) = (r : Int)) by by_cases q : rd out (k : Int) = (r : Int) <;> simp [q]]
      exact h
theorem roomyOk_f {p : List Int} (hS : Slots t p) : ∀ (d : Nat) (out : List Int), out.length + d = p.length → Ev (fun q => dancestudioref50_roomyOk.f q t.sc t.ro t.bu t.sl (mkS p out) (out.length : Int)) (dfs t.ro.length (okR t p) d out).isSome
 | 0, out, hd => ev_step (fun k => by simp only [dancestudioref50_roomyOk.f] <;> exact rfl) (ev_pos (by rw [mkS_len]; omega) (ev_now _))
 | d + 1, out, hd => by
  have hn := o.n; have hs1 := hS.1; have h4 := o.r4; have h32 := o.s2
  have hi : out.length < p.length := by omega
  have a1 := hS.2 out.length hi
  have b1 := o.ln out.length (by omega)
  refine ev_step (fun k => by simp only [dancestudioref50_roomyOk.f] <;> exact rfl) (ev_neg (by rw [mkS_len]; omega) ?_)
  have loop : ∀ m r : Nat, r + m = t.ro.length → Ev (fun q => dancestudioref50_roomyOk.l0 q (mkS p out) (out.length : Int) (r : Int) t.sc t.ro t.bu t.sl) (ff (fun r => if okR t p out r = true then dfs t.ro.length (okR t p) d (out ++ [(r : Int)]) else none) m r).isSome := by
    intro m
    induction m with
    | zero =>
      intro r hr
      exact ev_step (fun k => by simp only [dancestudioref50_roomyOk.l0] <;> exact rfl) (ev_neg (by omega) (ev_now _))
    | succ m ih =>
      intro r hr
      refine ev_step (fun k => by simp only [dancestudioref50_roomyOk.l0] <;> exact rfl) (ev_pos (by omega) (ev_pos (by omega) (ev_pos (by rw [mkS_len]; omega) ?_)))
      rw [mkS_at hi]
      refine Ev.bind (alone_ev o hc (show out.length < t.sc.length by omega) (r : Int) (rd p out.length) (by omega) (by omega)) ?_
      rw [sess_fits hS hi (show r < t.ro.length by omega)]
      refine roomyOk_l1 o hS hi out.length 0 _ (Nat.zero_add _) ?_
      refine ev_step (fun k => by simp only [dancestudioref50_roomyOk.l1] <;> exact rfl) (ev_neg (by omega) ?_)
      rw [show (fitsB t out.length r && allR (fun k => !(decide (rd out k = r) && meetB t out.length (rd p out.length) k (rd p k))) 0 out.length) = okR t p out r from rfl, w64 (n := (r : Int) + 1) (by omega) (by omega)]
      unfold ff
      cases hok : okR t p out r with
      | false =>
        rw [if_neg (show ¬ false = true by simp)]
        exact ev_neg (by simp) (ih (r + 1) (by omega))
      | true =>
        rw [if_pos rfl]
        refine ev_pos (c := true = true) rfl (ev_let (ev_pos (by rw [mkS_len]; simp; omega) (ev_let (ev_pos (by omega) (ev_pos (by rw [List.nil_append, mkS_len]; omega) ?_)))))
        rw [List.nil_append, Int.toNat_natCast, mkS_set hi]
        have hrec := roomyOk_f hS d (out ++ [(r : Int)]) (by rw [len1]; omega)
        rw [len1] at hrec
        rw [w64 (n := (out.length : Int) + 1) (by omega) (by omega)]
        refine Ev.bind hrec ?_
        cases hdf : dfs t.ro.length (okR t p) d (out ++ [(r : Int)]) with
        | some q => exact ev_pos (c := true = true) rfl (ev_now _)
        | none => exact ev_neg (by simp) (ih (r + 1) (by omega))
  exact loop t.ro.length 0 (Nat.zero_add _)
theorem fits_l0 {p : List Int} (hS : Slots t p) (hi : p.length < t.sc.length) {a : Int} (a0 : 0 ≤ a) (a1 : a ≤ 1000) (n1 : ByteArray) (s1 y : Int) : ∀ e k : Nat, k + e = p.length →
    Ev (fun q => dancestudioref50_fits.l0 q (mkS p []) (k : Int) t.sc t.ro t.bu t.sl n1 s1 (castAt t p.length) (p.length : Int) y a) (allR (fun k => !(meetB t p.length a k (rd p k) && shareB t p.length k)) k e)
 | 0, k, he => ev_step (fun k => by simp only [dancestudioref50_fits.l0] <;> exact rfl) (ev_neg (by rw [mkS_len]; omega) (ev_now _))
 | e + 1, k, he => by
  have hn := o.n; have hs1 := hS.1; have h32 := o.s2
  have a2 := hS.2 k (by omega)
  have b2 := o.ln k (by omega)
  have ih := fits_l0 hS hi a0 a1 n1 s1 y e (k + 1) (by omega)
  refine ev_step (fun k => by simp only [dancestudioref50_fits.l0] <;> exact rfl) (ev_pos (by rw [mkS_len]; omega) (ev_pos (by omega) ?_))
  rw [mkS_at (show k < p.length by omega), w64 (n := (k : Int) + 1) (by omega) (by omega), rmeet_ev o hi (show k < t.sc.length by omega) a0 a1 (show 0 ≤ rd p k by omega) (show rd p k ≤ 1000 by omega), allR]
  refine ev_let ?_
  cases hm : meetB t p.length a k (rd p k)
  · rw [Bool.false_and, Bool.not_false, Bool.true_and]; exact ev_neg (by simp) ih
  · rw [Bool.true_and]
    refine ev_pos (c := true = true) rfl (ev_pos (by omega) (Ev.bind (common_ev hc hi (show k < t.sc.length by omega) _ _ _ _) ?_))
    cases hs : shareB t p.length k
    · rw [Bool.not_false, Bool.true_and]; exact ev_neg (by simp) ih
    · exact ev_pos (c := true = true) rfl (ev_now _)
theorem rfits_ev {p : List Int} (hS : Slots t p) (hi : p.length < t.sc.length) {e : Nat} (he : (e : Int) ≤ t.sl) {a : Nat} (ha : a < e) :
    Ev (fun q => dancestudioref50_fits.f q t.sc t.ro t.bu t.sl (mkS p []) (p.length : Int) (a : Int) (e : Int)) (decide ((a : Int) + slAt t p.length ≤ e) && possB t p p.length a) := by
  have b1 := o.ln p.length hi; have h32 := o.s2
  unfold dancestudioref50_fits.f
  refine ev_pos (by omega) (ev_pos (by omega) ?_)
  rw [show wrap64 ((a : Int) + (rd_T53 t.sc p.length).f1) = a + slAt t p.length from w64 (n := (a : Int) + slAt t p.length) (by omega) (by omega)]
  by_cases h : (a : Int) + slAt t p.length ≤ e
  · rw [decide_eq_true h, Bool.true_and]
    refine ev_neg (by omega) (Ev.bind (raway_ev o hc hi (by omega) (by omega) _) (ev_step (fun k => by simp only [dancestudioref50_fits.j0] <;> exact rfl) ?_))
    unfold possB
    cases hw : awayB t p.length a
    · rw [Bool.not_false, Bool.true_and]; exact ev_neg (by simp) (fits_l0 o hc hS hi (by omega) (by omega) _ _ _ p.length 0 (Nat.zero_add _))
    · exact ev_pos (c := true = true) rfl (ev_now _)
  · rw [decide_eq_false h, Bool.false_and]
    exact ev_pos (by omega) (ev_step (fun k => by simp only [dancestudioref50_fits.j0] <;> exact rfl) (ev_pos (c := true = true) rfl (ev_now _)))
/-- The plan that has slots q. -/
def planS (t : Tk) (q : List Int) : List S48 := mkS q ((roomsD t q).getD [])
theorem search_f {e : Nat} (he : (e : Int) ≤ t.sl) : ∀ (d : Nat) (p : List Int), Slots t p → (roomsD t p).isSome = true → p.length + d = t.sc.length → Ev (fun q => dancestudioref50_search.f q t.sc t.ro t.bu t.sl (mkS p []) (e : Int)) (resS (planS t) (dfs e (okS t e) d p))
 | 0, p, hS, hR, hd => by
  refine ev_step (fun k => by simp only [dancestudioref50_search.f] <;> exact rfl) (ev_pos (by rw [mkS_len]; omega) (Ev.bind (roomy_f o hc hS p.length [] (Nat.zero_add _)) (ev_eq (ev_now _) ?_)))
  rw [show dfs t.ro.length (okR t p) p.length [] = roomsD t p from rfl]
  unfold dfs resS planS
  cases h : roomsD t p with
  | none => rw [h] at hR; cases hR
  | some q =>
    show (mkS p q, true) = (mkS p ((roomsD t p).getD []), true)
    rw [h]; rfl
 | d + 1, p, hS, hR, hd => by
  have hn := o.n; have h32 := o.s2
  have hi : p.length < t.sc.length := by omega
  have b1 := o.ln p.length hi
  refine ev_step (fun k => by simp only [dancestudioref50_search.f] <;> exact rfl) (ev_neg (by rw [mkS_len]; omega) ?_)
  rw [mkS_len]
  have loop : ∀ m a : Nat, a + m = e → Ev (fun q => dancestudioref50_search.l0 q (mkS p []) (e : Int) (p.length : Int) (a : Int) t.sc t.ro t.bu t.sl) (resS (planS t) (ff (fun r => if okS t e p r = true then dfs e (okS t e) d (p ++ [(r : Int)]) else none) m a)) := by
    intro m
    induction m with
    | zero =>
      intro a ha
      exact ev_step (fun k => by simp only [dancestudioref50_search.l0] <;> exact rfl) (ev_neg (by omega) (ev_now _))
    | succ m ih =>
      intro a ha
      refine ev_step (fun k => by simp only [dancestudioref50_search.l0] <;> exact rfl) (ev_pos (by omega) (Ev.bind (rfits_ev o hc hS hi he (show a < e by omega)) ?_))
      rw [w64 (n := (a : Int) + 1) (by omega) (by omega)]
      unfold ff
      by_cases hf : (decide ((a : Int) + slAt t p.length ≤ e) && possB t p p.length a) = true
      · have hf2 := hf
        rw [Bool.and_eq_true, decide_eq_true_eq] at hf2
        have hS' := slots_app o hS hi (show (0 : Int) ≤ (a : Int) by omega) (by omega) (poss_away hf2.2)
        refine ev_pos hf (ev_let (ev_pos (by rw [mkS_len]; simp; omega) (ev_let (ev_pos (by rw [List.nil_append, mkS_len]; omega) (ev_let ?_)))))
        rw [List.nil_append, mkS_app]
        refine Ev.bind (roomyOk_f o hc hS' (p ++ [(a : Int)]).length [] (Nat.zero_add _)) ?_
        rw [show dfs t.ro.length (okR t (p ++ [(a : Int)])) (p ++ [(a : Int)]).length [] = roomsD t (p ++ [(a : Int)]) from rfl]
        cases hr : (roomsD t (p ++ [(a : Int)])).isSome with
        | false =>
          rw [if_neg (show ¬ okS t e p a = true by unfold okS; rw [hr]; simp)]
          exact ev_neg (by simp) (ih (a + 1) (by omega))
        | true =>
          rw [if_pos (show okS t e p a = true by unfold okS; rw [hr, hf]; rfl)]
          refine ev_pos (c := true = true) rfl (Ev.bind (search_f he d (p ++ [(a : Int)]) hS' hr (by rw [len1]; omega)) ?_)
          cases hdf : dfs e (okS t e) d (p ++ [(a : Int)]) with
          | some q => exact ev_pos (c := true = true) rfl (ev_now _)
          | none => exact ev_neg (by simp [resS]) (ih (a + 1) (by omega))
      · rw [if_neg (show ¬ okS t e p a = true by unfold okS; rw [Bool.eq_false_iff.2 hf]; simp)]
        exact ev_neg hf (ih (a + 1) (by omega))
  exact loop e 0 (Nat.zero_add _)
end
end Go.Proofs.Ytjppjppapdflmaa.PAll
