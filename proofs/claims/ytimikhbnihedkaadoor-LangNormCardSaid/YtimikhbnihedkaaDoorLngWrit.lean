/- A leaf, written as nodes by the program; what its leaf is. -/
import Derived.Test.YtimikhbnihedkaaDoorLngLeaves
import Derived.Test.YtimikhbnihedkaaDoorLngTreeEv
import Derived.Test.YtimikhbnihedkaaDoorMC3
namespace Go.Proofs.YtimikhbnihedkaaDoor.PAll
set_option linter.unusedVariables false
set_option linter.unusedSectionVars false
set_option linter.unusedSimpArgs false
open Go Go.RowKit Go.Proofs.YtimikhbnihedkaaDoorW.PrintWords Go.Proofs.YtimikhbnihedkaaDoorW.PrintLast Go.Proofs.YtimikhbnihedkaaDoorW.PrintMore Go.Proofs.YtimikhbnihedkaaDoor.MathNum Go.Proofs.YtimikhbnihedkaaDoor.EvWords

/-! ### factors -/
def dvl : Nat → Nat → Nat → List Nat → List Nat × Nat
  | 0, _, r, acc => (acc, r)
  | f + 1, d, r, acc => if r % d = 0 then dvl f d (r / d) (d :: acc) else (acc, r)
def fac : Nat → Nat → List Nat → List Nat × Nat
  | 0, r, acc => (acc, r)
  | m + 1, r, acc => fac m (dvl 14 (m + 2) r acc).2 (dvl 14 (m + 2) r acc).1
def prodN : List Nat → Nat
  | [] => 1
  | d :: l => d * prodN l
theorem dvl_ok : ∀ (f d r : Nat) (acc : List Nat), 2 ≤ d → 1 ≤ r → r < 2 ^ f → prodN (dvl f d r acc).1 * (dvl f d r acc).2 = prodN acc * r ∧ 1 ≤ (dvl f d r acc).2 ∧ (dvl f d r acc).2 ∣ r ∧ ¬ d ∣ (dvl f d r acc).2 ∧ (∀ x, x ∈ (dvl f d r acc).1 → x = d ∨ x ∈ acc) ∧ (dvl f d r acc).1.length ≤ acc.length + f
  | 0, d, r, acc, hd, h1, h2 => by simp at h2; omega
  | f + 1, d, r, acc, hd, h1, h2 => by
    unfold dvl
    by_cases h : r % d = 0
    · rw [if_pos h]
      have hdv : d ∣ r := Nat.dvd_of_mod_eq_zero h
      have hq : d * (r / d) = r := Nat.mul_div_cancel' hdv
      have hr1 : 1 ≤ r / d := by
        apply Nat.one_le_iff_ne_zero.2; intro q; rw [q] at hq; omega
      have hr2 : r / d < 2 ^ f := by
        have : 2 * (r / d) ≤ d * (r / d) := Nat.mul_le_mul_right _ hd
        rw [Nat.pow_succ] at h2; omega
      obtain ⟨a1, a2, a3, a4, a5, a6⟩ := dvl_ok f d (r / d) (d :: acc) hd hr1 hr2
      refine ⟨?_, a2, Nat.dvd_trans a3 ⟨d, by rw [Nat.mul_comm]; exact hq.symm⟩, a4, fun x hx => ?_, by simp only [List.length_cons] at a6; omega⟩
      · rw [a1, prodN, ← hq, Nat.mul_div_cancel_left _ (by omega)]
        rw [Nat.mul_comm d (prodN acc), Nat.mul_assoc]
      · rcases a5 x hx with q | q
        · exact .inl q
        · rcases List.mem_cons.1 q with q | q
          · exact .inl q
          · exact .inr q
    · rw [if_neg h]
      exact ⟨rfl, h1, Nat.dvd_refl _, fun q => h (Nat.mod_eq_zero_of_dvd q), fun x hx => .inr hx, by show acc.length ≤ acc.length + (f + 1); omega⟩
theorem fac_ok : ∀ (m r : Nat) (acc : List Nat), m ≤ 15 → 1 ≤ r → r < 2 ^ 14 → prodN (fac m r acc).1 * (fac m r acc).2 = prodN acc * r ∧ 1 ≤ (fac m r acc).2 ∧ (fac m r acc).2 ∣ r ∧ (∀ d, 2 ≤ d → d ≤ m + 1 → ¬ d ∣ (fac m r acc).2) ∧ (∀ x, x ∈ (fac m r acc).1 → (2 ≤ x ∧ x ≤ 16) ∨ x ∈ acc)
  | 0, r, acc, hm, h1, h2 => ⟨rfl, h1, Nat.dvd_refl _, fun d q1 q2 => by omega, fun x hx => .inr hx⟩
  | m + 1, r, acc, hm, h1, h2 => by
    obtain ⟨a1, a2, a3, a4, a5, a6⟩ := dvl_ok 14 (m + 2) r acc (by omega) h1 h2
    have hle : (dvl 14 (m + 2) r acc).2 ≤ r := Nat.le_of_dvd h1 a3
    obtain ⟨b1, b2, b3, b4, b5⟩ := fac_ok m (dvl 14 (m + 2) r acc).2 (dvl 14 (m + 2) r acc).1 (by omega) a2 (by omega)
    refine ⟨by rw [fac, b1, a1], by rw [fac]; exact b2, by rw [fac]; exact Nat.dvd_trans b3 a3, fun d q1 q2 => ?_, fun x hx => ?_⟩
    · rw [fac]
      by_cases hd : d = m + 2
      · subst hd; exact fun q => a4 (Nat.dvd_trans q b3)
      · exact b4 d q1 (by omega)
    · rw [fac] at hx
      rcases b5 x hx with q | q
      · exact .inl q
      · rcases a5 x q with q | q
        · exact .inl (by omega)
        · exact .inr q
theorem smooth_rest {f : Nat} (hf : Smooth f) : ∀ r, 1 ≤ r → r ∣ f → (∀ d, 2 ≤ d → d ≤ 16 → ¬ d ∣ r) → r = 1 := by
  induction hf with
  | one => intro r _ h _; exact Nat.dvd_one.1 h
  | @mul a n ha h1 h16 ih =>
    intro r hr h hd
    have hg : Nat.gcd r n = 1 := by
      have g1 : Nat.gcd r n ∣ r := Nat.gcd_dvd_left r n
      have g2 : Nat.gcd r n ≤ n := Nat.le_of_dvd h1 (Nat.gcd_dvd_right r n)
      have g3 : 0 < Nat.gcd r n := Nat.gcd_pos_of_pos_left _ hr
      by_cases g : Nat.gcd r n = 1
      · exact g
      · exact absurd g1 (hd _ (by omega) (by omega))
    exact ih r hr (Nat.Coprime.dvd_of_dvd_mul_right hg h) hd
theorem fac_small : ∀ f, f < 17 → 2 ≤ f → fac 15 f [] = ([f], 1) ∧ fac 15 1 [f] = ([f], 1) := by decide
/-! ### a leaf's nodes -/
def nm63 (x : S63) : S43 := ⟨1, x.f0, 0, 0⟩
def stN (d : Nat) : S43 := un 6 d
def facs (x : S63) : List Nat := (fac 15 x.f4.toNat []).1
def hdN (x : S63) : List S43 := (if x.f1 > 0 then [un 5 x.f1] else []) ++ ((if x.f2 = true then [un 3 0] else []) ++ (if x.f3 = true then [un 4 0] else []))
def opsN (x : S63) : List S43 := hdN x ++ (facs x).map stN
def wrN (x : S63) : List S43 := opsN x ++ [nm63 x]
section
variable (x : S63) {v : List S43 × Bool}
theorem w_l1 : ∀ (f d r : Nat) (acc : List Nat), 2 ≤ d → d ≤ 16 → 1 ≤ r → r < 2 ^ f → r < 100000 → acc.length + f ≤ 1000 →
    Ev (fun k => lang_leaf_written.l0 k ((dvl f d r acc).1.map stN ++ [nm63 x]) ((dvl f d r acc).2 : Int) ((d : Int) - 1) x.f0 x.f1 x.f2 x.f3 x.f4) v →
    Ev (fun k => lang_leaf_written.l1 k (acc.map stN ++ [nm63 x]) (r : Int) (d : Int) x.f0 x.f1 x.f2 x.f3 x.f4) v
  | 0, d, r, acc, hd, hd2, h1, h2, hb, hl, e => by simp at h2; omega
  | f + 1, d, r, acc, hd, hd2, h1, h2, hb, hl, e => by
    have hm : Int.tmod (r : Int) (d : Int) = ((r % d : Nat) : Int) := by rw [Int.tmod_eq_emod_of_nonneg (by omega)]; rfl
    have ht : Int.tdiv (r : Int) (d : Int) = ((r / d : Nat) : Int) := by rw [Int.tdiv_eq_ediv_of_nonneg (by omega)]; rfl
    have hdl : r / d ≤ r := Nat.div_le_self r d
    have hq0 : (0 : Int) ≤ ((r / d : Nat) : Int) := Int.natCast_nonneg _
    have hq1 : ((r / d : Nat) : Int) ≤ (r : Int) := Int.ofNat_le.2 hdl
    refine ev_step (fun k => by simp only [lang_leaf_written.l1] <;> exact rfl) (ev_neg (by omega) ?_)
    rw [hm, ht, w64 (n := ((r / d : Nat) : Int)) (by omega) (by omega), w64 (n := (d : Int) - 1) (by omega) (by omega)]
    unfold dvl at e
    by_cases h : r % d = 0
    · rw [if_pos h] at e
      have hq : d * (r / d) = r := Nat.mul_div_cancel' (Nat.dvd_of_mod_eq_zero h)
      have hr1 : 1 ≤ r / d := by
        apply Nat.one_le_iff_ne_zero.2; intro q; rw [q] at hq; omega
      have hr2 : r / d < 2 ^ f := by
        have : 2 * (r / d) ≤ d * (r / d) := Nat.mul_le_mul_right _ hd
        rw [Nat.pow_succ] at h2; omega
      refine ev_pos (by omega) (Ev.bind (tree_one 6 d _ (by simp; omega)) ?_)
      exact w_l1 f d (r / d) (d :: acc) hd hd2 hr1 hr2 (by omega) (by simp only [List.length_cons]; omega) e
    · rw [if_neg h] at e
      exact ev_neg (by omega) e
theorem w_l0 : ∀ (m r : Nat) (acc : List Nat), m ≤ 15 → 1 ≤ r → r < 2 ^ 14 → acc.length + 14 * m ≤ 900 →
    Ev (fun k => lang_leaf_written.l0 k ((fac m r acc).1.map stN ++ [nm63 x]) ((fac m r acc).2 : Int) 1 x.f0 x.f1 x.f2 x.f3 x.f4) v →
    Ev (fun k => lang_leaf_written.l0 k (acc.map stN ++ [nm63 x]) (r : Int) ((m + 1 : Nat) : Int) x.f0 x.f1 x.f2 x.f3 x.f4) v
  | 0, r, acc, hm, h1, h2, hl, e => e
  | m + 1, r, acc, hm, h1, h2, hl, e => by
    obtain ⟨a1, a2, a3, a4, a5, a6⟩ := dvl_ok 14 (m + 2) r acc (by omega) h1 h2
    have hle : (dvl 14 (m + 2) r acc).2 ≤ r := Nat.le_of_dvd h1 a3
    refine ev_step (fun k => by simp only [lang_leaf_written.l0] <;> exact rfl) (ev_pos (by omega) ?_)
    refine w_l1 x 14 (m + 2) r acc (by omega) (by omega) h1 h2 (by omega) (by omega) ?_
    rw [show ((m + 2 : Nat) : Int) - 1 = ((m + 1 : Nat) : Int) by omega]
    exact w_l0 m _ _ (by omega) a2 (by omega) (by omega) e
theorem w_end (fs : List Nat) (r : Int) (hl : fs.length ≤ 1000) : Ev (fun k => lang_leaf_written.l0 k (fs.map stN ++ [nm63 x]) r 1 x.f0 x.f1 x.f2 x.f3 x.f4) (hdN x ++ fs.map stN ++ [nm63 x], r == 1) := by
  have hlen : (fs.map stN ++ [nm63 x]).length = fs.length + 1 := by simp
  have j4 : ∀ e : List S43, e.length ≤ 1100 → Ev (fun k => lang_leaf_written.j4 k e r x.f0 x.f1 x.f2 x.f3 x.f4) ((if x.f1 > 0 then [un 5 x.f1] else []) ++ ((if x.f2 = true then [un 3 0] else []) ++ e), r == 1) := by
    intro e he
    refine ev_step (fun k => by simp only [lang_leaf_written.j4] <;> exact rfl) ?_
    by_cases h2 : x.f2 = true
    · rw [if_pos h2]
      refine ev_pos h2 (Ev.bind (tree_one 3 0 e (by omega)) ?_)
      by_cases h1 : x.f1 > 0
      · rw [if_pos h1]
        exact ev_pos h1 (Ev.bind (tree_one 5 x.f1 _ (by simp; omega)) (ev_now _))
      · rw [if_neg h1]; exact ev_neg h1 (ev_now _)
    · rw [if_neg h2]
      refine ev_neg h2 ?_
      by_cases h1 : x.f1 > 0
      · rw [if_pos h1]
        exact ev_pos h1 (Ev.bind (tree_one 5 x.f1 _ (by omega)) (ev_now _))
      · rw [if_neg h1]; exact ev_neg h1 (ev_now _)
  refine ev_step (fun k => by simp only [lang_leaf_written.l0] <;> exact rfl) (ev_neg (by omega) ?_)
  unfold hdN
  by_cases h3 : x.f3 = true
  · rw [if_pos h3]
    refine ev_pos h3 (Ev.bind (tree_one 4 0 _ (by omega)) (ev_eq (j4 _ (by simp; omega)) ?_))
    simp only [List.append_assoc, List.singleton_append, List.cons_append, List.nil_append]
  · rw [if_neg h3]
    refine ev_neg h3 (ev_eq (j4 _ (by omega)) ?_)
    simp only [List.append_assoc, List.append_nil, List.nil_append]
theorem facs_len (hx : Inv x) : (facs x).length ≤ 900 := by
  have : ∀ (m r : Nat) (acc : List Nat), m ≤ 15 → 1 ≤ r → r < 2 ^ 14 → (fac m r acc).1.length ≤ acc.length + 14 * m := by
    intro m; induction m with
    | zero => intro r acc _ _ _; exact Nat.le_refl _
    | succ m ih =>
      intro r acc hm h1 h2
      obtain ⟨a1, a2, a3, a4, a5, a6⟩ := dvl_ok 14 (m + 2) r acc (by omega) h1 h2
      have hle : (dvl 14 (m + 2) r acc).2 ≤ r := Nat.le_of_dvd h1 a3
      have := ih (dvl 14 (m + 2) r acc).2 (dvl 14 (m + 2) r acc).1 (by omega) a2 (by omega)
      rw [fac]; omega
  obtain ⟨a1, a2, a3, a4, a5, a6⟩ := hx
  have := this 15 x.f4.toNat [] (by omega) (by omega) (by omega)
  simp only [List.length_nil] at this
  unfold facs; omega
theorem facs_ok (hx : Inv x) : (fac 15 x.f4.toNat []).2 = 1 ∧ prodN (facs x) = x.f4.toNat ∧ ∀ d, d ∈ facs x → 2 ≤ d ∧ d ≤ 16 := by
  obtain ⟨a1, a2, a3, a4, a5, a6⟩ := hx
  obtain ⟨b1, b2, b3, b4, b5⟩ := fac_ok 15 x.f4.toNat [] (by omega) (by omega) (by omega)
  have h1 := smooth_rest a6 _ b2 b3 b4
  refine ⟨h1, ?_, fun d hd => (b5 d hd).resolve_right (by simp)⟩
  rw [h1, Nat.mul_one] at b1
  unfold facs
  rw [b1, prodN, Nat.one_mul]
theorem ex_pair {α β : Type} (p : α × β) : ∃ a b, p = (a, b) := ⟨p.1, p.2, rfl⟩
theorem written_ev (hx : Inv x) : Ev (fun k => lang_leaf_written.f k x.f0 x.f1 x.f2 x.f3 x.f4) (wrN x, true) := by
  have hf := facs_ok x hx
  have hfl := facs_len x hx
  obtain ⟨a1, a2, a3, a4, a5, a6⟩ := hx
  have hnm : Ev (fun k => lang_tree.f k 1 x.f0 0 0 ([] : List (List S43))) [nm63 x] := by
    have := tree_ev 1 x.f0 0 0 [] (by simp) (by simp)
    exact this
  obtain ⟨f, hf4⟩ : ∃ f : Nat, x.f4 = (f : Int) := ⟨x.f4.toNat, by omega⟩
  have hft : x.f4.toNat = f := by omega
  obtain ⟨fs, r, he⟩ : ∃ (fs : List Nat) (r : Nat), fac 15 f [] = (fs, r) := ex_pair _
  have e1 : facs x = fs := by unfold facs; rw [hft, he]
  have e2 : r = 1 := by have := hf.1; rw [hft, he] at this; exact this
  have fin : Ev (fun k => lang_leaf_written.l0 k (fs.map stN ++ [nm63 x]) (r : Int) 1 x.f0 x.f1 x.f2 x.f3 x.f4) (wrN x, true) := by
    refine ev_eq (w_end x fs r (by rw [← e1]; omega)) ?_
    unfold wrN opsN
    rw [e1, e2]; rfl
  unfold lang_leaf_written.f
  refine Ev.bind hnm ?_
  have j1 : ∀ (acc : List Nat) (q : Nat), acc.length ≤ 1 → 1 ≤ q → q < 16384 → fac 15 q acc = (fs, r) → Ev (fun k => lang_leaf_written.j1 k (acc.map stN ++ [nm63 x]) (q : Int) x.f0 x.f1 x.f2 x.f3 x.f4) (wrN x, true) := by
    intro acc q hl h1 h2 hq
    refine ev_step (fun k => by simp only [lang_leaf_written.j1] <;> exact rfl) ?_
    refine w_l0 x 15 q acc (by omega) h1 (by omega) (by omega) ?_
    rw [hq]
    exact fin
  have j0f : Ev (fun k => lang_leaf_written.j0 k [nm63 x] x.f4 false x.f0 x.f1 x.f2 x.f3 x.f4) (wrN x, true) := by
    refine ev_step (fun k => by simp only [lang_leaf_written.j0] <;> exact rfl) (ev_neg (by simp) ?_)
    have := j1 [] f (by simp) (by omega) (by omega) he
    rw [← hf4] at this
    exact this
  by_cases h1 : x.f4 > 1
  · refine ev_pos h1 ?_
    by_cases h16 : x.f4 ≤ 16
    · refine ev_step (fun k => by simp only [lang_leaf_written.j0] <;> exact rfl) (ev_pos (decide_eq_true h16) (Ev.bind (tree_one 6 x.f4 _ (by simp)) ?_))
      obtain ⟨s1, s2⟩ := fac_small f (by omega) (by omega)
      have := j1 [f] 1 (by simp) (by omega) (by decide) (by rw [s2, ← s1, he])
      have e : un 6 x.f4 :: [nm63 x] = [f].map stN ++ [nm63 x] := by rw [hf4]; rfl
      rw [e]; exact this
    · rw [decide_eq_false h16]; exact j0f
  · exact ev_neg h1 j0f
end
end Go.Proofs.YtimikhbnihedkaaDoor.PAll
