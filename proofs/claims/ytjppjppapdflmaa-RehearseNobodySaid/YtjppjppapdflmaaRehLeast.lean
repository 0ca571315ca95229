/- Tasks that are fit; the bound of a task: what both answer. -/
import Derived.Test.YtjppjppapdflmaaRPg
import Derived.Test.YtjppjppapdflmaaRehCheckP
namespace Go.Proofs.Ytjppjppapdflmaa.PAll
set_option linter.unusedVariables false
set_option linter.unusedSectionVars false
set_option linter.unusedSimpArgs false
open Go Go.RowKit Go.Proofs.YtjppjppapdflmaaW.PrintWords Go.Proofs.YtjppjppapdflmaaW.PrintLast Go.Proofs.YtjppjppapdflmaaW.PrintMore Go.Proofs.Ytjppjppapdflmaa.MathNum Go.Proofs.Ytjppjppapdflmaa.EvWords

def castAt (t : Tk) (i : Nat) : List Int := (rd_T53 t.sc i).f2
def slAt (t : Tk) (i : Nat) : Int := (rd_T53 t.sc i).f1
def szAt (t : Tk) (r : Nat) : Int := (rd_T55 t.ro r).f0
structure Okt (t : Tk) : Prop where
  s1 : 1 ≤ t.sl
  s2 : t.sl ≤ 32
  n : t.sc.length ≤ 10
  nm : ∀ i, i < t.sc.length → nameOk (rd_T53 t.sc i).f0.data.toList
  ln : ∀ i, i < t.sc.length → 1 ≤ slAt t i ∧ slAt t i ≤ t.sl
  ne : ∀ i, i < t.sc.length → (castAt t i).length ≠ 0
  rg : ∀ i, i < t.sc.length → ∀ d ∈ castAt t i, 0 ≤ d ∧ d < 24
  nd : ∀ i, i < t.sc.length → (castAt t i).Nodup
  r1 : 1 ≤ t.ro.length
  r4 : t.ro.length ≤ 4
  sz : ∀ r, r < t.ro.length → 1 ≤ szAt t r ∧ szAt t r ≤ 24
  bn : t.bu.length ≤ 512
  bu : ∀ i, i < t.bu.length → ¬ badB (rd_T59 t.bu i) t.sl
theorem dup_nodup {l : List Int} : (∀ j, j < l.length → dupE l j = 0) ↔ l.Nodup := by
  unfold List.Nodup
  rw [List.pairwise_iff_getElem]
  constructor
  · intro h i j hi hj hij e
    have := h j hj
    unfold dupE at this
    rw [if_pos] at this
    · omega
    · rw [rdI l hj, List.mem_take_iff_getElem]
      exact ⟨i, by omega, e⟩
  · intro h j hj
    unfold dupE
    rw [if_neg]
    rw [rdI l hj, List.mem_take_iff_getElem]
    rintro ⟨i, hi, e⟩
    exact h i j (by omega) hj (by omega) e
theorem cast_rg {l : List Int} : (∀ j, j < l.length → castE l j = 0) ↔ ∀ d ∈ l, 0 ≤ d ∧ d < 24 := by
  constructor
  · intro h d hd
    obtain ⟨j, hj, rfl⟩ := List.mem_iff_getElem.1 hd
    have := h j hj
    unfold castE at this
    rw [rdI l hj] at this
    by_cases q : l[j] < 0 ∨ 24 ≤ l[j]
    · rw [if_pos q] at this; omega
    · omega
  · intro h j hj
    have := h _ (List.getElem_mem hj)
    unfold castE
    rw [rdI l hj]
    exact if_neg (by omega)
theorem scE_ok {s : S53} {slots : Int} : scE s slots = 0 ↔ nameOk s.f0.data.toList ∧ (1 ≤ s.f1 ∧ s.f1 ≤ slots) ∧ s.f2.length ≠ 0 ∧ (∀ d ∈ s.f2, 0 ≤ d ∧ d < 24) ∧ s.f2.Nodup := by
  unfold scE
  by_cases h1 : nameOk s.f0.data.toList
  · rw [if_neg (fun h => h h1)]
    by_cases h2 : s.f1 < 1 ∨ slots < s.f1
    · rw [if_pos h2]; exact ⟨fun h => by omega, fun h => by omega⟩
    rw [if_neg h2]
    by_cases h3 : s.f2.length = 0
    · rw [if_pos h3]; exact ⟨fun h => by omega, fun h => absurd h3 h.2.2.1⟩
    rw [if_neg h3]
    unfold castsE
    constructor
    · intro h
      obtain ⟨q1, q2⟩ := fe_zero h
      obtain ⟨q3, _⟩ := fe_zero q2
      exact ⟨h1, by omega, h3, cast_rg.1 (fun j hj => q1 j (Nat.zero_le _) (by omega)), dup_nodup.1 (fun j hj => q3 j (Nat.zero_le _) (by omega))⟩
    · rintro ⟨_, _, _, q1, q2⟩
      rw [fe_of (fun j _ hj => cast_rg.2 q1 j (by omega)), fe_of (fun j _ hj => dup_nodup.2 q2 j (by omega))]
  · rw [if_pos h1]; exact ⟨fun h => by omega, fun h => absurd h.1 h1⟩
theorem chk_ok {t : Tk} : chkT t = 0 ↔ Okt t := by
  constructor
  · intro h
    unfold chkT at h
    by_cases h1 : t.sl < 1 ∨ 32 < t.sl
    · rw [if_pos h1] at h; omega
    rw [if_neg h1] at h
    by_cases h2 : 10 < t.sc.length
    · rw [if_pos h2] at h; omega
    rw [if_neg h2] at h
    obtain ⟨q, h⟩ := fe_zero h
    have qs : ∀ i, i < t.sc.length → _ := fun i hi => scE_ok.1 (q i (Nat.zero_le _) (by omega))
    by_cases h3 : t.ro.length < 1 ∨ 4 < t.ro.length
    · rw [if_pos h3] at h; omega
    rw [if_neg h3] at h
    obtain ⟨qr, h⟩ := fe_zero h
    by_cases h4 : 512 < t.bu.length
    · rw [if_pos h4] at h; omega
    rw [if_neg h4] at h
    obtain ⟨qb, h⟩ := fe_zero h
    exact ⟨by omega, by omega, by omega, fun i hi => (qs i hi).1, fun i hi => (qs i hi).2.1, fun i hi => (qs i hi).2.2.1, fun i hi => (qs i hi).2.2.2.1, fun i hi => (qs i hi).2.2.2.2, by omega, by omega,
      fun r hr => by have := roE_ok t (qr r (Nat.zero_le _) (by omega)); unfold szAt; omega, by omega, fun i hi => buE_ok t (qb i (Nat.zero_le _) (by omega))⟩
  · intro o
    unfold chkT
    have h1 := o.s1; have h2 := o.s2; have h3 := o.n; have h4 := o.r1; have h5 := o.r4; have h6 := o.bn
    rw [if_neg (by omega), if_neg (by omega), fe_of (e := scI t) (fun i _ hi => scE_ok.2 ⟨o.nm i (by omega), o.ln i (by omega), o.ne i (by omega), o.rg i (by omega), o.nd i (by omega)⟩), if_neg (by omega),
      fe_of (e := roE t) (fun r _ hr => ?_), if_neg (by omega), fe_of (e := buE t) (fun i _ hi => ?_)]
    · unfold buE; exact if_neg (o.bu i (by omega))
    · have := o.sz r (by omega)
      unfold szAt at this
      unfold roE; exact if_neg (by omega)
/-! ### the bound -/
def tot (t : Tk) : Nat → Int
 | 0 => 0
 | n + 1 => tot t n + slAt t n
def dsum (t : Tk) (d : Int) : Nat → Int
 | 0 => 0
 | n + 1 => dsum t d n + if d ∈ castAt t n then slAt t n else 0
def mostU (t : Tk) : Nat → Int
 | 0 => 0
 | d + 1 => mx (mostU t d) (dsum t (d : Int) t.sc.length)
def leastT (t : Tk) : Int := mx (mostU t 24) (Int.tdiv (tot t t.sc.length + t.ro.length - 1) t.ro.length)
theorem mx_le (a b : Int) : a ≤ mx a b ∧ b ≤ mx a b ∧ (mx a b = a ∨ mx a b = b) := by
  unfold mx; by_cases h : a < b
  · rw [if_pos h]; omega
  · rw [if_neg h]; omega
section
variable {t : Tk} (o : Okt t)
include o
theorem tot_le : ∀ n, n ≤ t.sc.length → (n : Int) ≤ tot t n ∧ tot t n ≤ 32 * n
 | 0, _ => by simp [tot]
 | n + 1, h => by
  have := tot_le n (by omega)
  have := o.ln n (by omega)
  have := o.s2
  unfold tot; omega
theorem dsum_le (d : Int) : ∀ n, n ≤ t.sc.length → 0 ≤ dsum t d n ∧ dsum t d n ≤ 32 * n
 | 0, _ => by simp [dsum]
 | n + 1, h => by
  have := dsum_le d n (by omega)
  have := o.ln n (by omega)
  have := o.s2
  unfold dsum
  by_cases q : d ∈ castAt t n
  · rw [if_pos q]; omega
  · rw [if_neg q]; omega
def IsMost (f : Int → Int) (m : Int) : Prop := (∀ d, 0 ≤ d → d < 24 → f d ≤ m) ∧ 0 ≤ m ∧ (m = 0 ∨ ∃ d, 0 ≤ d ∧ d < 24 ∧ f d = m)
omit o in
theorem isMost_u {f : Int → Int} {m m' : Int} (h : IsMost f m) (h' : IsMost f m') : m = m' := by
  obtain ⟨a, b, c⟩ := h
  obtain ⟨a', b', c'⟩ := h'
  have k1 : m ≤ m' := by
    rcases c with c | ⟨d, h1, h2, h3⟩
    · omega
    · have := a' d h1 h2; omega
  have k2 : m' ≤ m := by
    rcases c' with c | ⟨d, h1, h2, h3⟩
    · omega
    · have := a d h1 h2; omega
  omega
theorem mostU_le : ∀ e : Nat, e ≤ 24 → 0 ≤ mostU t e ∧ mostU t e ≤ 320 ∧ (∀ d : Int, 0 ≤ d → d < e → dsum t d t.sc.length ≤ mostU t e) ∧ (mostU t e = 0 ∨ ∃ d : Int, 0 ≤ d ∧ d < e ∧ dsum t d t.sc.length = mostU t e)
 | 0, _ => ⟨by simp [mostU], by simp [mostU], fun d h1 h2 => by omega, .inl rfl⟩
 | e + 1, h => by
  obtain ⟨a, b, c, q⟩ := mostU_le e (by omega)
  have hd := dsum_le o (e : Int) t.sc.length (Nat.le_refl _)
  have hn := o.n
  obtain ⟨m1, m2, m3⟩ := mx_le (mostU t e) (dsum t (e : Int) t.sc.length)
  unfold mostU
  refine ⟨by omega, by omega, fun d h1 h2 => ?_, ?_⟩
  · by_cases k : d = e
    · rw [k]; exact m2
    · have := c d h1 (by omega); omega
  · rcases m3 with m3 | m3
    · rw [m3]
      rcases q with q | ⟨d, h1, h2, h3⟩
      · exact .inl q
      · exact .inr ⟨d, h1, by omega, h3⟩
    · exact .inr ⟨e, by omega, by omega, m3.symm⟩
theorem mostU_is : IsMost (fun d => dsum t d t.sc.length) (mostU t 24) := by
  obtain ⟨a, b, c, q⟩ := mostU_le o 24 (Nat.le_refl _)
  exact ⟨fun d h1 h2 => c d h1 (by omega), a, q.imp id (fun ⟨d, h1, h2, h3⟩ => ⟨d, h1, by omega, h3⟩)⟩
theorem rooms_div : wrap64 (Int.tdiv (wrap64 (wrap64 (tot t t.sc.length + (t.ro.length : Int)) - 1)) (t.ro.length : Int)) = Int.tdiv (tot t t.sc.length + t.ro.length - 1) t.ro.length := by
  have h := tot_le o t.sc.length (Nat.le_refl _)
  have hn := o.n; have h1 := o.r1; have h4 := o.r4
  rw [w64 (n := tot t t.sc.length + (t.ro.length : Int)) (by omega) (by omega), w64 (n := tot t t.sc.length + (t.ro.length : Int) - 1) (by omega) (by omega)]
  have e := Int.tdiv_eq_ediv_of_nonneg (a := tot t t.sc.length + (t.ro.length : Int) - 1) (b := (t.ro.length : Int)) (by omega)
  rw [e]
  have k1 : 0 ≤ (tot t t.sc.length + (t.ro.length : Int) - 1) / (t.ro.length : Int) := Int.ediv_nonneg (by omega) (by omega)
  have k2 : (tot t t.sc.length + (t.ro.length : Int) - 1) / (t.ro.length : Int) ≤ tot t t.sc.length + (t.ro.length : Int) - 1 := Int.ediv_le_self _ (by omega)
  exact w64 (by omega) (by omega)
/-! ### the program's -/
structure Inv (t : Tk) (i j : Nat) (x3 : List Int) (x5 : Int) : Prop where
  len : x3.length = 24
  val : ∀ d, 0 ≤ d → d < 24 → rd x3 d = dsum t d i + if d ∈ (castAt t i).take j then slAt t i else 0
  most : IsMost (rd x3) x5
theorem least_l1 {i : Nat} (hi : i < t.sc.length) (hc : (castAt t i).length < 9223372036854775808) {R : Int} {a3 : Int}
    (hout : ∀ x3 x5, Inv t i (castAt t i).length x3 x5 → Ev (fun k => rehearse_Task_least.l0 k x3 (tot t (i + 1)) x5 t.sc (t.sc.length : Int) ((i + 1 : Nat) : Int) t.sc t.ro t.bu a3) R) (nm : ByteArray) :
    ∀ (e j : Nat) (x3 : List Int) (x5 : Int), j + e = (castAt t i).length → Inv t i j x3 x5 →
      Ev (fun k => rehearse_Task_least.l1 k x3 (tot t (i + 1)) x5 t.sc (t.sc.length : Int) (i : Int) (castAt t i) ((castAt t i).length : Int) (j : Int) t.sc t.ro t.bu a3 nm (slAt t i) (castAt t i)) R
 | 0, j, x3, x5, he, inv => by
  have hn := o.n
  obtain rfl : j = (castAt t i).length := by omega
  refine ev_step (fun k => by simp only [rehearse_Task_least.l1] <;> exact rfl) (ev_neg (by omega) ?_)
  rw [w64 (by omega) (by omega)]
  exact hout x3 x5 inv
 | e + 1, j, x3, x5, he, inv => by
  have hn := o.n
  have hj : j < (castAt t i).length := by omega
  have hm : (castAt t i)[j] ∈ castAt t i := List.getElem_mem hj
  obtain ⟨g0, g1⟩ := o.rg i hi _ hm
  have hl := inv.len
  have hnot : (castAt t i)[j] ∉ (castAt t i).take j := by
    have := dup_nodup.2 (o.nd i hi) j hj
    unfold dupE at this
    rw [rdI _ hj] at this
    intro h; rw [if_pos h] at this; omega
  have hv : rd x3 (castAt t i)[j] = dsum t (castAt t i)[j] i := by rw [inv.val _ g0 g1, if_neg hnot]; omega
  have hd := dsum_le o (castAt t i)[j] i (by omega)
  have hs := o.ln i hi
  have h32 := o.s2
  refine ev_step (fun k => by simp only [rehearse_Task_least.l1] <;> exact rfl) (ev_pos (by omega) (ev_pos (by omega) (ev_pos (by omega) ?_)))
  rw [rdI _ hj]
  refine ev_pos g0 (ev_pos (by omega) ?_)
  rw [hv, w64 (n := (j : Int) + 1) (by omega) (by omega), w64 (n := dsum t (castAt t i)[j] i + slAt t i) (by omega) (by omega)]
  obtain ⟨m1, m2, m3⟩ := mx_le x5 (dsum t (castAt t i)[j] i + slAt t i)
  refine least_l1 hi hc hout nm e (j + 1) _ _ (by omega) ⟨by rw [List.length_set]; exact hl, fun d d0 d1 => ?_, ⟨fun d d0 d1 => ?_, ?_, ?_⟩⟩
  · rw [rd_set g0 (by omega) d0, List.take_succ_eq_append_getElem hj]
    by_cases q : d = (castAt t i)[j]
    · rw [if_pos q, q, if_pos (List.mem_append_right _ (List.mem_singleton.2 rfl))]
    · rw [if_neg q, inv.val d d0 d1]
      simp only [List.mem_append, List.mem_singleton, q, or_false]
  · rw [rd_set g0 (by omega) d0]
    have := inv.most.1 d d0 d1
    by_cases q : d = (castAt t i)[j]
    · rw [if_pos q]; exact m2
    · rw [if_neg q]; omega
  · have := inv.most.2.1; omega
  · rcases m3 with m3 | m3
    · rw [m3]
      rcases inv.most.2.2 with q | ⟨d, d0, d1, q⟩
      · exact .inl q
      · refine .inr ⟨d, d0, d1, ?_⟩
        rw [rd_set g0 (by omega) d0]
        by_cases k : d = (castAt t i)[j]
        · rw [k, hv] at q; omega
        · rw [if_neg k]; exact q
    · refine .inr ⟨_, g0, g1, ?_⟩
      rw [rd_set g0 (by omega) g0, if_pos rfl, m3]
theorem least_l0 (hc : ∀ s ∈ t.sc, s.f2.length < 9223372036854775808) (a3 : Int) : ∀ (e i : Nat) (x3 : List Int) (x5 : Int), i + e = t.sc.length → x3.length = 24 → (∀ d, 0 ≤ d → d < 24 → rd x3 d = dsum t d i) → IsMost (rd x3) x5 →
    Ev (fun k => rehearse_Task_least.l0 k x3 (tot t i) x5 t.sc (t.sc.length : Int) (i : Int) t.sc t.ro t.bu a3) (leastT t)
 | 0, i, x3, x5, he, h1, h2, h3 => by
  have hn := o.n
  have hr := o.r1
  obtain rfl : i = t.sc.length := by omega
  refine ev_step (fun k => by simp only [rehearse_Task_least.l0] <;> exact rfl) (ev_neg (by omega) (ev_neg (by omega) (ev_eq (ev_now _) ?_)))
  rw [rooms_div o, show x5 = mostU t 24 from isMost_u h3 (by
    obtain ⟨a, b, c⟩ := mostU_is o
    exact ⟨fun d d0 d1 => by rw [h2 d d0 d1]; exact a d d0 d1, b, c.imp id (fun ⟨d, d0, d1, q⟩ => ⟨d, d0, d1, by rw [h2 d d0 d1]; exact q⟩)⟩)]
  rfl
 | e + 1, i, x3, x5, he, h1, h2, h3 => by
  have hn := o.n
  have hi : i < t.sc.length := by omega
  have ht := tot_le o (i + 1) (by omega)
  refine ev_step (fun k => by simp only [rehearse_Task_least.l0] <;> exact rfl) (ev_pos (by omega) (ev_pos (by omega) (ev_pos (by omega) ?_)))
  have e1 : wrap64 (tot t i + (rd_T53 t.sc i).f1) = tot t (i + 1) := w64 (n := tot t (i + 1)) (by omega) (by omega)
  rw [e1]
  refine least_l1 o hi (hc _ (by rw [rd53 _ hi]; exact List.getElem_mem _)) (fun x3' x5' inv => ?_) _ _ 0 x3 x5 (Nat.zero_add _) ⟨h1, fun d d0 d1 => by rw [h2 d d0 d1]; simp, h3⟩
  refine least_l0 hc a3 e (i + 1) x3' x5' (by omega) inv.len (fun d d0 d1 => ?_) inv.most
  rw [inv.val d d0 d1, List.take_length]; rfl
theorem least_ev (hc : ∀ s ∈ t.sc, s.f2.length < 9223372036854775808) : Ev (fun k => rehearse_Task_least.f k t.sc t.ro t.bu t.sl) (leastT t) := by
  unfold rehearse_Task_least.f
  refine ev_pos (by omega) ?_
  exact least_l0 o hc t.sl _ 0 _ _ (Nat.zero_add _) (by simp) (fun d d0 d1 => by rw [rd_rep d0 (by omega)]; rfl) ⟨fun d d0 d1 => by rw [rd_rep d0 (by omega)]; omega, by omega, .inl rfl⟩
end
open Classical in
noncomputable def leastR (t : Tk) : Int × Int := if chkT t = 0 then (leastT t, 0) else (0, chkT t)
theorem Least_ev (t : Tk) (hc : ∀ s ∈ t.sc, s.f2.length < 9223372036854775808) : Ev (fun k => rehearse_Least.f k t.sc t.ro t.bu t.sl) (leastR t) := by
  unfold rehearse_Least.f leastR
  refine Ev.bind (chk_ev t hc) ?_
  by_cases h : chkT t = 0
  · rw [if_pos h]; exact ev_pos h (Ev.bind (least_ev (chk_ok.1 h) hc) (ev_now _))
  · rw [if_neg h]; exact ev_neg h (ev_now _)
end Go.Proofs.Ytjppjppapdflmaa.PAll
