/- A table without its first row and a column: what it holds, and its assignments. -/
import Derived.Test.YtbmflpflmjfabaaPAllx0
import Derived.Test.YtbmflpflmjfabaaPAllf24
import Derived.Test.YtbmflpflmjfabaaAsgMin
namespace Go.Proofs.Ytbmflpflmjfabaa.PAll
set_option linter.unusedVariables false
open Go Go.RowKit Go.Proofs.YtbmflpflmjfabaaW.PrintWords Go.Proofs.YtbmflpflmjfabaaW.PrintLast Go.Proofs.YtbmflpflmjfabaaW.PrintMore Go.Proofs.Ytbmflpflmjfabaa.MathNum Go.Proofs.Ytbmflpflmjfabaa.EvWords

def skip (j q : Int) : Int := if q < j then q else q + 1
def unskip (j q : Int) : Int := if q < j then q else q - 1
def cutAt (row : List Int) (j : Int) : List Int := row.take j.toNat ++ row.drop (j.toNat + 1)
def wout (c : List (List Int)) (j : Int) : List (List Int) := (c.drop 1).map (fun row => cutAt row j)

theorem cutAt_len {row : List Int} {j : Int} (h0 : 0 ≤ j) (h1 : j < row.length) : ((cutAt row j).length : Int) = row.length - 1 := by
  unfold cutAt; rw [List.length_append, List.length_take, List.length_drop]; omega
theorem rd_cutAt {row : List Int} {j q : Int} (h0 : 0 ≤ j) (h1 : j < row.length) (hq : 0 ≤ q) : rd (cutAt row j) q = rd row (skip j q) := by
  unfold cutAt skip rd
  rw [List.getD_eq_getElem?_getD, List.getD_eq_getElem?_getD]
  by_cases h : q < j
  · rw [if_pos h, List.getElem?_append_left (by rw [List.length_take]; omega), List.getElem?_take, if_pos (by omega)]
  · rw [if_neg h, List.getElem?_append_right (by rw [List.length_take]; omega), List.getElem?_drop, List.length_take]
    congr 2; omega
theorem rdL_wout {c : List (List Int)} {j i : Int} (h0 : 0 ≤ i) (h1 : i + 1 < c.length) : rd_L1 (wout c j) i = cutAt (rd_L1 c (i + 1)) j := by
  unfold wout rd_L1
  rw [List.getD_eq_getElem?_getD, List.getD_eq_getElem?_getD, List.getElem?_map, List.getElem?_drop, show 1 + i.toNat = (i + 1).toNat by omega, List.getElem?_eq_getElem (by omega)]
  rfl
theorem wout_len {c : List (List Int)} {j : Int} : (wout c j).length = c.length - 1 := by
  unfold wout; rw [List.length_map, List.length_drop]

attribute [local irreducible] rd rdOf

theorem M_wout {c : List (List Int)} {n : Int} (T : Tab c n) {j r q : Int} (h0 : 0 ≤ j) (h1 : j < n) (r1 : 1 ≤ r) (r2 : r ≤ n - 1) (q1 : 1 ≤ q) : M (wout c j) r q = M c (r + 1) (skip j (q - 1) + 1) := by
  have hl := T.len
  unfold M
  rw [rdL_wout (by omega) (by omega), rd_cutAt h0 (by have := T.row0 (i := r - 1 + 1) (by omega) (by omega); omega) (by omega), show r - 1 + 1 = r + 1 - 1 by omega, show skip j (q - 1) + 1 - 1 = skip j (q - 1) by omega]
theorem skip_rng {j q n : Int} (h0 : 0 ≤ j) (h1 : j < n) (q0 : 0 ≤ q) (q1 : q < n - 1) : 0 ≤ skip j q ∧ skip j q < n ∧ skip j q ≠ j := by
  unfold skip; split <;> omega
theorem skip_inj {j q q' : Int} (e : skip j q = skip j q') : q = q' := by
  unfold skip at e; split at e <;> split at e <;> omega
theorem skip_mono {j q q' : Int} (h : q ≤ q') : skip j q ≤ skip j q' := by
  unfold skip; split <;> split <;> omega
theorem skip_le {j q q' : Int} (h : skip j q ≤ skip j q') : q ≤ q' := by
  unfold skip at h; split at h <;> split at h <;> omega
theorem skip_unskip {j q : Int} (h : q ≠ j) : skip j (unskip j q) = q := by
  unfold skip unskip
  by_cases e : q < j
  · rw [if_pos e, if_pos e]
  · rw [if_neg e, if_neg (by omega)]; omega
theorem unskip_rng {j q n : Int} (h0 : 0 ≤ j) (h1 : j < n) (h : q ≠ j) (q0 : 0 ≤ q) (q1 : q < n) : 0 ≤ unskip j q ∧ unskip j q < n - 1 := by
  unfold unskip; split <;> omega

theorem Tab.wout {c : List (List Int)} {n : Int} (T : Tab c n) {j : Int} (h0 : 0 ≤ j) (h1 : j < n) : Tab (PAll.wout c j) (n - 1) := by
  have hl := T.len
  have hn := T.le
  refine ⟨by rw [wout_len]; omega, by omega, fun r a b => ?_, fun r q a b d e => ?_, fun r q a b d e => ?_⟩
  · have row := T.row0 (i := r - 1 + 1) (by omega) (by omega)
    rw [rdL_wout (by omega) (by omega), cutAt_len h0 (by omega)]; omega
  · have s := skip_rng h0 h1 (q := q - 1) (by omega) (by omega)
    rw [M_wout T h0 h1 a b d]; exact T.lo _ _ (by omega) (by omega) (by omega) (by omega)
  · have s := skip_rng h0 h1 (q := q - 1) (by omega) (by omega)
    rw [M_wout T h0 h1 a b d]; exact T.hi _ _ (by omega) (by omega) (by omega) (by omega)

theorem without_loop {n j : Int} (h0 : 0 ≤ j) (h1 : j < n) (hn : n ≤ 16) {y : List (List Int)} (hy : ∀ i : Int, 0 ≤ i → i < y.length → ((rd_L1 y i).length : Int) = n) (hyl : y.length ≤ 16) (m : Nat) : ∀ i : Nat, i + m = y.length →
    Ev (fun k => assign_without.l0 k j ((y.take i).map fun row => cutAt row j) y (y.length : Int) (i : Int)) (y.map fun row => cutAt row j) := by
  induction m with
  | zero =>
    intro i hi
    rw [List.take_of_length_le (by omega)]
    exact ev_step (fun k => by simp only [assign_without.l0] <;> exact rfl) (ev_neg (by omega) (ev_now _))
  | succ m ih =>
    intro i hi
    have row := hy i (by omega) (by omega)
    refine ev_step (fun k => by simp only [assign_without.l0] <;> exact rfl) (ev_pos (by omega) (ev_pos (by omega) (ev_pos (by omega) (ev_let ?_))))
    rw [w64 (n := j + 1) (by omega) (by omega)]
    refine ev_pos (by omega) (ev_pos (by omega) (ev_pos (by rw [List.length_take]; simp only [List.length_nil]; omega) (ev_let ?_)))
    refine ev_pos (by omega) (ev_pos (by omega) (ev_pos (by rw [List.length_append, List.length_take, List.length_drop]; simp only [List.length_nil]; omega) (ev_pos (by rw [List.length_map, List.length_take]; omega) ?_)))
    rw [w64 (by omega) (by omega)]
    have := ih (i + 1) (by omega)
    rw [List.take_succ_eq_append_getElem (by omega), List.map_append, ← rdL_nat y (by omega)] at this
    have e : ([] ++ (rd_L1 y (i : Int)).take j.toNat ++ (rd_L1 y (i : Int)).drop (j + 1).toNat) = cutAt (rd_L1 y (i : Int)) j := by
      unfold cutAt; rw [List.nil_append, show (j + 1).toNat = j.toNat + 1 by omega]
    rw [e]
    exact this
theorem without_ev {c : List (List Int)} {n : Int} (T : Tab c n) {j : Int} (h0 : 0 ≤ j) (h1 : j < n) : Ev (fun k => assign_without.f k c j) (PAll.wout c j) := by
  have hl := T.len
  have hn := T.le
  simp only [assign_without.f]
  refine ev_pos (by omega) (ev_let ?_)
  have hy : ∀ i : Int, 0 ≤ i → i < (c.drop 1).length → ((rd_L1 (c.drop 1) i).length : Int) = n := by
    intro i a b
    rw [List.length_drop] at b
    have : rd_L1 (c.drop 1) i = rd_L1 c (i + 1) := by
      unfold rd_L1
      rw [List.getD_eq_getElem?_getD, List.getD_eq_getElem?_getD, List.getElem?_drop, show 1 + i.toNat = (i + 1).toNat by omega]
    rw [this]
    exact T.row0 (by omega) (by omega)
  have := without_loop h0 h1 hn hy (by rw [List.length_drop]; omega) (c.drop 1).length 0 (by omega)
  exact this

theorem sumTo_front (h : Nat → Int) (n : Nat) : sumTo h (n + 1) = h 0 + sumTo (fun i => h (i + 1)) n := by
  induction n with
  | zero => simp [sumTo]
  | succ n ih => rw [sumTo, ih]; simp only [sumTo]; omega

theorem rd_cons0 {a : Int} {l : List Int} : rd (a :: l) 0 = a := by unfold rd; rfl
theorem rd_cons {a : Int} {l : List Int} {i : Int} (h : 1 ≤ i) : rd (a :: l) i = rd l (i - 1) := by
  unfold rd
  rw [List.getD_eq_getElem?_getD, List.getD_eq_getElem?_getD, show i.toNat = (i - 1).toNat + 1 by omega, List.getElem?_cons_succ]
theorem rd_map {l : List Int} {f : Int → Int} {i : Int} (h0 : 0 ≤ i) (h1 : i < l.length) : rd (l.map f) i = f (rd l i) := by
  unfold rd
  rw [List.getD_eq_getElem?_getD, List.getD_eq_getElem?_getD, List.getElem?_map, List.getElem?_eq_getElem (by omega)]; rfl

/-- A first column, and an assignment of what is left. -/
theorem asg_cons {l : List Int} {n j : Int} (h0 : 0 ≤ j) (h1 : j < n) (h : Asg l (n - 1)) : Asg (j :: l.map (skip j)) n := by
  have hl := h.1
  refine ⟨by rw [List.length_cons, List.length_map]; omega, fun p a b => ?_⟩
  by_cases e : p = 0
  · subst e
    rw [rd_cons0]
    exact ⟨h0, h1, fun q a b => by omega⟩
  · have hp := h.2 (p - 1) (by omega) (by omega)
    have s := skip_rng h0 h1 (q := rd l (p - 1)) hp.1 hp.2.1
    rw [rd_cons (by omega), rd_map (by omega) (by omega)]
    refine ⟨s.1, s.2.1, fun q c d => ?_⟩
    by_cases e : q = 0
    · subst e; rw [rd_cons0]; exact fun e => s.2.2 e.symm
    · rw [rd_cons (by omega), rd_map (by omega) (by omega)]
      exact fun e => hp.2.2 (q - 1) (by omega) (by omega) (skip_inj e)
theorem csum_cons {c : List (List Int)} {n : Nat} (T : Tab c ((n : Int) + 1)) {l : List Int} {j : Int} (h0 : 0 ≤ j) (h1 : j < (n : Int) + 1) (h : Asg l n) :
    csum c (j :: l.map (skip j)) (n + 1) = M c 1 (j + 1) + csum (wout c j) l n := by
  have hl := h.1
  rw [csum_sum, sumTo_front, csum_sum]
  congr 1
  · show M c _ (rd (j :: _) 0 + 1) = _
    rw [rd_cons0]; rfl
  refine sumTo_congr n fun i hi => ?_
  have hp := h.2 i (by omega) (by omega)
  rw [M_wout T h0 (by omega) (by omega) (by omega) (by omega), rd_cons (by omega), rd_map (by omega) (by omega)]
  rw [show ((i + 1 : Nat) : Int) - 1 = (i : Int) by omega, show rd l (i : Int) + 1 - 1 = rd l (i : Int) by omega]
  rfl
/-- Each assignment is one of these. -/
theorem asg_uncons {l : List Int} {n : Int} (hn : 1 ≤ n) (h : Asg l n) : ∃ l', Asg l' (n - 1) ∧ l = rd l 0 :: l'.map (skip (rd l 0)) := by
  have hl := h.1
  have h00 := h.2 0 (by omega) (by omega)
  cases l with
  | nil => rw [List.length_nil] at hl; omega
  | cons j r =>
    rw [rd_cons0] at h00 ⊢
    rw [List.length_cons] at hl
    have hr : ∀ p, 0 ≤ p → p < n - 1 → 0 ≤ rd r p ∧ rd r p < n ∧ rd r p ≠ j ∧ ∀ q, 0 ≤ q → q < p → rd r q ≠ rd r p := by
      intro p a b
      have hp := h.2 (p + 1) (by omega) (by omega)
      rw [rd_cons (by omega), show p + 1 - 1 = p by omega] at hp
      refine ⟨hp.1, hp.2.1, fun e => hp.2.2 0 (by omega) (by omega) (by rw [rd_cons0, e]), fun q c d => ?_⟩
      have := hp.2.2 (q + 1) (by omega) (by omega)
      rwa [rd_cons (by omega), show q + 1 - 1 = q by omega] at this
    refine ⟨r.map (unskip j), ⟨by rw [List.length_map]; omega, fun p a b => ?_⟩, ?_⟩
    · have x := hr p a b
      rw [rd_map a (by omega)]
      have u := unskip_rng h00.1 h00.2.1 x.2.2.1 x.1 x.2.1
      refine ⟨u.1, u.2, fun q c d e => ?_⟩
      rw [rd_map c (by omega)] at e
      have y := hr q c (by omega)
      have : rd r q = rd r p := by rw [← skip_unskip y.2.2.1, e, skip_unskip x.2.2.1]
      exact x.2.2.2 q c d this
    · rw [List.map_map]
      congr 1
      refine List.ext_getElem (by simp) fun i h1 h2 => ?_
      rw [List.getElem_map]
      have := hr (i : Int) (by omega) (by omega)
      rw [rd_nat r h1] at this
      exact (skip_unskip this.2.2.1).symm
end Go.Proofs.Ytbmflpflmjfabaa.PAll
