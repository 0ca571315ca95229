/- Lengths: the program's and the reference's Length answer alike. -/
import Derived.Test.YtimikhbnihedkaaDoorMC3
import Derived.Test.YtimikhbnihedkaaDoorLngTreeR
import Derived.Test.YtimikhbnihedkaaDoorLngNames
import Derived.Test.YtimikhbnihedkaaDoorMC2
import Derived.Test.YtimikhbnihedkaaDoorPAllf25
namespace Go.Proofs.YtimikhbnihedkaaDoor.PAll
set_option linter.unusedVariables false
set_option linter.unusedSectionVars false
set_option linter.unusedSimpArgs false
open Go Go.RowKit Go.Proofs.YtimikhbnihedkaaDoorW.PrintWords Go.Proofs.YtimikhbnihedkaaDoorW.PrintLast Go.Proofs.YtimikhbnihedkaaDoorW.PrintMore Go.Proofs.YtimikhbnihedkaaDoor.MathNum Go.Proofs.YtimikhbnihedkaaDoor.EvWords

theorem bytes_ext {a b : ByteArray} (h : a.toList = b.toList) : a = b := by
  rw [ByteArray.toList_eq, ByteArray.toList_eq] at h
  rw [ex_data a, ex_data b, h]
theorem idxI_range : ∀ (l : List ByteArray) (x : ByteArray) (i : Nat), idxI l x i = -1 ∨ ((i : Int) ≤ idxI l x i ∧ idxI l x i < (i : Int) + l.length)
 | [], x, i => .inl rfl
 | y :: l, x, i => by
  simp only [idxI, List.length_cons]
  by_cases h : x.toList = y.toList
  · rw [if_pos h]; exact .inr ⟨Int.le_refl _, by omega⟩
  · rw [if_neg h]
    rcases idxI_range l x (i + 1) with e | ⟨e1, e2⟩
    · exact .inl e
    · exact .inr ⟨by omega, by omega⟩
theorem idxI_mem : ∀ (l : List ByteArray) (x : ByteArray) (i : Nat), idxI l x i ≥ 0 ↔ x ∈ l
 | [], x, i => by simp [idxI]
 | y :: l, x, i => by
  simp only [idxI, List.mem_cons]
  by_cases h : x.toList = y.toList
  · rw [if_pos h]; exact ⟨fun _ => .inl (bytes_ext h), fun _ => by omega⟩
  · rw [if_neg h, idxI_mem l x (i + 1)]
    exact ⟨fun q => .inr q, fun q => q.resolve_left (fun e => h (by rw [e]))⟩
theorem namesT_mem : ∀ (l : List S43) (acc : List ByteArray) (x : ByteArray), x ∈ namesT l acc ↔ x ∈ acc ∨ ∃ s, s ∈ l ∧ s.f0 = 1 ∧ s.f1 = x
 | [], acc, x => by simp [namesT]
 | s :: l, acc, x => by
  simp only [namesT]
  by_cases h : s.f0 = 1
  · rw [if_pos h]
    by_cases h2 : idxI acc s.f1 0 ≥ 0
    · rw [if_pos h2, namesT_mem l acc x]
      constructor
      · rintro (q | ⟨t, ht, q⟩)
        · exact .inl q
        · exact .inr ⟨t, List.mem_cons_of_mem _ ht, q⟩
      · rintro (q | ⟨t, ht, q1, q2⟩)
        · exact .inl q
        · rcases List.mem_cons.1 ht with rfl | ht
          · exact .inl (by rw [← q2]; exact (idxI_mem acc _ 0).1 h2)
          · exact .inr ⟨t, ht, q1, q2⟩
    · rw [if_neg h2, namesT_mem l _ x]
      constructor
      · rintro (q | ⟨t, ht, q⟩)
        · rcases List.mem_append.1 q with q | q
          · exact .inl q
          · exact .inr ⟨s, List.mem_cons_self, h, (List.mem_singleton.1 q).symm⟩
        · exact .inr ⟨t, List.mem_cons_of_mem _ ht, q⟩
      · rintro (q | ⟨t, ht, q1, q2⟩)
        · exact .inl (List.mem_append_left _ q)
        · rcases List.mem_cons.1 ht with rfl | ht
          · exact .inl (List.mem_append_right _ (by rw [q2]; simp))
          · exact .inr ⟨t, ht, q1, q2⟩
  · rw [if_neg h, namesT_mem l acc x]
    constructor
    · rintro (q | ⟨t, ht, q⟩)
      · exact .inl q
      · exact .inr ⟨t, List.mem_cons_of_mem _ ht, q⟩
    · rintro (q | ⟨t, ht, q1, q2⟩)
      · exact .inl q
      · rcases List.mem_cons.1 ht with rfl | ht
        · exact absurd q1 h
        · exact .inr ⟨t, ht, q1, q2⟩
section
variable (nms : List ByteArray) (len : List Int)
/-- The error of a name's length. -/
def okL (y : ByteArray) : Int := if idxI nms y 0 < 0 then 6 else if idxI nms y 0 ≥ (len.length : Int) then 6 else if rd len (idxI nms y 0) < 1 then 1 else if rd len (idxI nms y 0) > 8192 then 1 else 0
def lnT : List ByteArray → Int × Int → Int × Int
 | [], fin => fin
 | y :: r, fin => if okL nms len y = 0 then lnT r fin else (0, okL nms len y)
/-- The ticks of a name. -/
def nmV (y : ByteArray) : Int := rd len (idxI nms y 0)
theorem okL_zero {y : ByteArray} (h : okL nms len y = 0) : 0 ≤ idxI nms y 0 ∧ idxI nms y 0 < (len.length : Int) ∧ 1 ≤ nmV nms len y ∧ nmV nms len y ≤ 8192 := by
  unfold okL at h; unfold nmV
  (repeat' split at h) <;> first | omega | exact absurd h (by decide)
def mulS (s : S43) : Int := if s.f0 = 6 ∨ s.f0 = 7 then s.f2 else 1
def sumI : List Int → Int
 | [] => 0
 | x :: l => x + sumI l
def nodeK (s : S43) (l : List Int) : Int := if s.f0 = 1 then nmV nms len s.f1 else mn (sumI l * mulS s) 8193
def Fo.tks : Fo → List Int
 | .nil => []
 | .cons s k r => nodeK nms len s (Fo.tks k) :: Fo.tks r
/-- All names have lengths. -/
def Fo.nok (f : Fo) : Prop := ∀ s, s ∈ f.flat → s.f0 = 1 → okL nms len s.f1 = 0
theorem Fo.nok_cons {s : S43} {k r : Fo} (h : (Fo.cons s k r).nok nms len) : (s.f0 = 1 → okL nms len s.f1 = 0) ∧ k.nok nms len ∧ r.nok nms len :=
  ⟨fun q => h s (by simp only [Fo.flat, List.mem_cons, true_or]) q, fun t ht => h t (by simp only [Fo.flat, List.mem_cons, List.mem_append, ht, or_true, true_or]), fun t ht => h t (by simp only [Fo.flat, List.mem_cons, List.mem_append, ht, or_true])⟩
theorem mn_le {a b : Int} : mn a b ≤ b := by unfold mn; split <;> omega
theorem mn_nonneg {a b : Int} (ha : 0 ≤ a) (hb : 0 ≤ b) : 0 ≤ mn a b := by unfold mn; split <;> omega
theorem mulS_range {s : S43} (hs : ndE s = 0) : 1 ≤ mulS s ∧ mulS s ≤ 16 := by
  unfold mulS
  by_cases h : s.f0 = 6 ∨ s.f0 = 7
  · rw [if_pos h]
    rcases ndE_iff.1 hs with h2 | h2
    · have := h2.1; omega
    · exact h2.2.2.2.1.2.1 h
  · rw [if_neg h]; omega
theorem Fo.tks_range : ∀ f : Fo, f.nds → f.nok nms len → (∀ v, v ∈ f.tks nms len → 0 ≤ v ∧ v ≤ 8193)
 | .nil, _, _, v, hv => by simp only [Fo.tks] at hv; cases hv
 | .cons s k r, hn, ho, v, hv => by
  obtain ⟨hs, hk, hr⟩ := Fo.nds_cons hn
  obtain ⟨os, ok, or⟩ := Fo.nok_cons nms len ho
  rcases List.mem_cons.1 hv with rfl | h
  · unfold nodeK
    by_cases h1 : s.f0 = 1
    · rw [if_pos h1]; have := okL_zero nms len (os h1); omega
    · rw [if_neg h1]
      refine ⟨mn_nonneg ?_ (by decide), mn_le⟩
      have h2 : ∀ l : List Int, (∀ v, v ∈ l → 0 ≤ v) → 0 ≤ sumI l := by
        intro l; induction l with
        | nil => intro _; exact Int.le_refl _
        | cons a l ih => intro h; have := h a (by simp); have := ih (fun v hv => h v (by simp [hv])); simp only [sumI]; omega
      have := mulS_range hs
      exact Int.mul_nonneg (h2 _ (fun v hv => (Fo.tks_range k hk ok v hv).1)) (by omega)
  · exact Fo.tks_range r hr or v h
theorem sumI_range : ∀ l : List Int, (∀ v, v ∈ l → 0 ≤ v ∧ v ≤ 8193) → 0 ≤ sumI l ∧ sumI l ≤ 8193 * l.length
 | [], _ => by simp [sumI]
 | a :: l, h => by
  have h1 := h a (by simp)
  have h2 := sumI_range l (fun v hv => h v (by simp [hv]))
  simp only [sumI, List.length_cons]; omega
theorem Fo.tks_length : ∀ f : Fo, (f.tks nms len).length = f.count
 | .nil => rfl
 | .cons s k r => by simp only [Fo.tks, Fo.count, List.length_cons, Fo.tks_length r]
abbrev PK (t : List S43) (v : Int) : Prop := Ev (fun n => lang_ticks.f n t nms len) v
abbrev RK (t : List S43) (v : Int) : Prop := Ev (fun n => dancestudioref35_long.f n t nms len) v
theorem ptk_loop {x0 : List S43} {L : List (List S43)} {v : Int} (hL : L.length ≤ 1000) : ∀ (l : List (List S43)) (vs : List Int), All2 (PK nms len) l vs → (∀ v, v ∈ vs → 0 ≤ v ∧ v ≤ 8193) → ∀ (acc : Int) (i : Nat), L.drop i = l → i + l.length = L.length → 0 ≤ acc → acc ≤ 8193 * i →
    Ev (fun k => lang_ticks.l0 k x0 nms len (acc + sumI vs) L (L.length : Int) (L.length : Int)) v → Ev (fun k => lang_ticks.l0 k x0 nms len acc L (L.length : Int) (i : Int)) v
 | [], [], _, _, acc, i, hd, hi, ha, hb, e => by
  simp only [List.length_nil, Nat.add_zero] at hi
  rw [hi]; simpa [sumI] using e
 | t :: l, b :: vs, h, hv, acc, i, hd, hi, ha, hb, e => by
  obtain ⟨hp, h1, h2⟩ := rdL3_drop hd
  have hb0 := hv b (by simp)
  refine ev_step (fun k => by simp only [lang_ticks.l0] <;> exact rfl) (ev_pos (by omega) (ev_pos (by omega) (ev_pos (by omega) ?_)))
  rw [h1]
  refine Ev.bind h.1 ?_
  rw [w64 (n := (i : Int) + 1) (by omega) (by omega), w64 (n := acc + b) (by omega) (by omega), show (i : Int) + 1 = ((i + 1 : Nat) : Int) by omega]
  refine ptk_loop hL l vs h.2 (fun v hv' => hv v (by simp [hv'])) (acc + b) (i + 1) h2 (by simp only [List.length_cons] at hi; omega) (by omega) (by omega) ?_
  rw [show acc + b + sumI vs = acc + sumI (b :: vs) by simp only [sumI]; omega]
  exact e
theorem rtk_loop {x0 : List S43} {L : List (List S43)} {v : Int} (hL : L.length ≤ 1000) : ∀ (l : List (List S43)) (vs : List Int), All2 (RK nms len) l vs → (∀ v, v ∈ vs → 0 ≤ v ∧ v ≤ 8193) → ∀ (acc : Int) (i : Nat), L.drop i = l → i + l.length = L.length → 0 ≤ acc →
    Ev (fun k => dancestudioref35_long.l0 k x0 nms len (mn (acc + sumI vs) 8193) L (L.length : Int)) v → Ev (fun k => dancestudioref35_long.l0 k x0 nms len (mn acc 8193) L (i : Int)) v
 | [], [], _, _, acc, i, hd, hi, ha, e => by
  simp only [List.length_nil, Nat.add_zero] at hi
  rw [hi]; simpa [sumI] using e
 | t :: l, b :: vs, h, hv, acc, i, hd, hi, ha, e => by
  obtain ⟨hp, h1, h2⟩ := rdL3_drop hd
  have hb0 := hv b (by simp)
  have hm : mn acc 8193 ≤ 8193 := mn_le
  have hm0 : 0 ≤ mn acc 8193 := mn_nonneg ha (by decide)
  refine ev_step (fun k => by simp only [dancestudioref35_long.l0] <;> exact rfl) (ev_pos (by omega) (ev_pos (by omega) ?_))
  rw [h1]
  refine Ev.bind h.1 ?_
  rw [w64 (n := (i : Int) + 1) (by omega) (by omega), w64 (n := mn acc 8193 + b) (by omega) (by omega), show (i : Int) + 1 = ((i + 1 : Nat) : Int) by omega,
    show mn (mn acc 8193 + b) 8193 = mn (acc + b) 8193 by unfold mn; (repeat' split) <;> omega]
  refine rtk_loop hL l vs h.2 (fun v hv' => hv v (by simp [hv'])) (acc + b) (i + 1) h2 (by simp only [List.length_cons] at hi; omega) (by omega) ?_
  rw [show acc + b + sumI vs = acc + sumI (b :: vs) by simp only [sumI]; omega]
  exact e
theorem mn_mul {a n : Int} (ha : 0 ≤ a) (hn : 1 ≤ n) : mn (mn a 8193 * n) 8193 = mn (a * n) 8193 := by
  unfold mn
  by_cases h : 8193 < a
  · rw [if_pos h]
    have h1 : 8193 * n ≤ a * n := Int.mul_le_mul_of_nonneg_right (by omega) (by omega)
    have h2 : 8193 * 1 ≤ 8193 * n := Int.mul_le_mul_of_nonneg_left hn (by omega)
    (repeat' split) <;> omega
  · rw [if_neg h]
theorem ptk_node (hn : nms.length ≤ 1000) {s : S43} {k : Fo} (hk : k.ok) (h3 : s.f3 = (k.count : Int)) (hs : ndE s = 0) (hkn : k.nds) (hl : k.flat.length < 100) (ho : (s.f0 = 1 → okL nms len s.f1 = 0) ∧ k.nok nms len) (ih : All2 (PK nms len) k.trees (k.tks nms len)) : PK nms len (s :: k.flat) (nodeK nms len s (k.tks nms len)) := by
  have hrd : rd_T43 (s :: k.flat) 0 = s := rfl
  refine ev_step (fun k => by simp only [lang_ticks.f] <;> exact rfl) (ev_pos (by simp only [List.length_cons]; omega) ?_)
  rw [hrd]
  unfold nodeK
  by_cases h : s.f0 = 1
  · rw [if_pos h]
    have hz := okL_zero nms len (ho.1 h)
    exact ev_pos h (Ev.bind (pidx_ev nms s.f1 (by omega)) (ev_pos (by omega) (ev_pos (by omega) (ev_now _))))
  rw [if_neg h]
  refine ev_neg h (Ev.bind (parg_ev s k hk h3 (by omega)) ?_)
  have hr := Fo.tks_range nms len k hkn ho.2
  have hsm := sumI_range _ hr
  have hmu := mulS_range hs
  have hc := Fo.count_le k
  rw [Fo.tks_length] at hsm
  have htl := Fo.trees_length k
  refine ptk_loop nms len (by omega) k.trees _ ih hr 0 0 rfl (by omega) (by omega) (by omega) ?_
  refine ev_step (fun k => by simp only [lang_ticks.l0] <;> exact rfl) (ev_neg (by omega) (ev_pos (by simp only [List.length_cons]; omega) ?_))
  rw [hrd, Int.zero_add]
  have hmb : ∀ n : Int, 1 ≤ n → n ≤ 16 → wrap64 (sumI (k.tks nms len) * n) = sumI (k.tks nms len) * n := by
    intro n n1 n2
    have := mul_range (a := sumI (k.tks nms len)) (b := n) (A := 819300) (B := 16) (by omega) (by omega) (by omega) n2
    exact w64 (by omega) (by omega)
  by_cases h6 : s.f0 = 6
  · have em : mulS s = s.f2 := if_pos (.inl h6)
    rw [em] at hmu ⊢
    exact ev_pos h6 (ev_eq (ev_now _) (by rw [hmb _ hmu.1 hmu.2]))
  by_cases h7 : s.f0 = 7
  · have em : mulS s = s.f2 := if_pos (.inr h7)
    rw [em] at hmu ⊢
    exact ev_neg h6 (ev_pos h7 (ev_eq (ev_now _) (by rw [hmb _ hmu.1 hmu.2])))
  · have em : mulS s = 1 := if_neg (by omega)
    rw [em, Int.mul_one]
    exact ev_neg h6 (ev_neg h7 (ev_now _))
theorem rtk_node (hn : nms.length ≤ 1000) {s : S43} {k : Fo} (hk : k.ok) (h3 : s.f3 = (k.count : Int)) (hs : ndE s = 0) (hkn : k.nds) (hl : k.flat.length < 64) (ho : (s.f0 = 1 → okL nms len s.f1 = 0) ∧ k.nok nms len) (ih : All2 (RK nms len) k.trees (k.tks nms len)) : RK nms len (s :: k.flat) (nodeK nms len s (k.tks nms len)) := by
  have hrd : rd_T43 (s :: k.flat) 0 = s := rfl
  refine ev_step (fun k => by simp only [dancestudioref35_long.f] <;> exact rfl) (ev_pos (by simp only [List.length_cons]; omega) ?_)
  rw [hrd]
  unfold nodeK
  by_cases h : s.f0 = 1
  · rw [if_pos h]
    have hz := okL_zero nms len (ho.1 h)
    exact ev_pos h (Ev.bind (ridx_ev nms s.f1 (by omega)) (ev_pos (by omega) (ev_pos (by omega) (ev_now _))))
  rw [if_neg h]
  refine ev_neg h (ev_pos (by simp only [List.length_cons]; omega) ?_)
  rw [List.drop_succ_cons, List.drop_zero]
  refine Ev.bind (rarg_ev k hk (Fo.nds8 hkn) (by omega)) ?_
  have hr := Fo.tks_range nms len k hkn ho.2
  have hsm := sumI_range _ hr
  have hmu := mulS_range hs
  have hc := Fo.count_le k
  rw [Fo.tks_length] at hsm
  have htl := Fo.trees_length k
  refine rtk_loop nms len (by omega) k.trees _ ih hr 0 0 rfl (by omega) (by omega) ?_
  refine ev_step (fun k => by simp only [dancestudioref35_long.l0] <;> exact rfl) (ev_neg (by omega) (ev_pos (by simp only [List.length_cons]; omega) ?_))
  rw [hrd, Int.zero_add]
  have hms := mn_nonneg (a := sumI (k.tks nms len)) (b := 8193) hsm.1 (by decide)
  have hmb : ∀ n : Int, 1 ≤ n → n ≤ 16 → wrap64 (mn (sumI (k.tks nms len)) 8193 * n) = mn (sumI (k.tks nms len)) 8193 * n := by
    intro n n1 n2
    have := mul_range (a := mn (sumI (k.tks nms len)) 8193) (b := n) (A := 819300) (B := 16) (by omega) (Int.le_trans mn_le (by decide)) (by omega) n2
    exact w64 (by omega) (by omega)
  by_cases h6 : s.f0 = 6
  · have em : mulS s = s.f2 := if_pos (.inl h6)
    rw [em] at hmu ⊢
    exact ev_pos h6 (ev_eq (ev_now _) (by rw [hmb _ hmu.1 hmu.2, mn_mul hsm.1 hmu.1]))
  by_cases h7 : s.f0 = 7
  · have em : mulS s = s.f2 := if_pos (.inr h7)
    rw [em] at hmu ⊢
    exact ev_neg h6 (ev_pos h7 (ev_eq (ev_now _) (by rw [hmb _ hmu.1 hmu.2, mn_mul hsm.1 hmu.1])))
  · have em : mulS s = 1 := if_neg (by omega)
    rw [em, Int.mul_one]
    exact ev_neg h6 (ev_neg h7 (ev_now _))
theorem ptk_all (hn : nms.length ≤ 1000) : ∀ f : Fo, f.ok → f.nds → f.flat.length < 100 → f.nok nms len → All2 (PK nms len) f.trees (f.tks nms len)
 | .nil, _, _, _, _ => trivial
 | .cons s k r, ho, hd, hl, hx => by
  obtain ⟨h3, hk, hr⟩ := ho
  obtain ⟨hs, hkn, hrn⟩ := Fo.nds_cons hd
  obtain ⟨x1, x2, x3⟩ := Fo.nok_cons nms len hx
  simp only [Fo.flat, List.length_cons, List.length_append] at hl
  exact ⟨ptk_node nms len hn hk h3 hs hkn (by omega) ⟨x1, x2⟩ (ptk_all hn k hk hkn (by omega) x2), ptk_all hn r hr hrn (by omega) x3⟩
theorem rtk_all (hn : nms.length ≤ 1000) : ∀ f : Fo, f.ok → f.nds → f.flat.length < 64 → f.nok nms len → All2 (RK nms len) f.trees (f.tks nms len)
 | .nil, _, _, _, _ => trivial
 | .cons s k r, ho, hd, hl, hx => by
  obtain ⟨h3, hk, hr⟩ := ho
  obtain ⟨hs, hkn, hrn⟩ := Fo.nds_cons hd
  obtain ⟨x1, x2, x3⟩ := Fo.nok_cons nms len hx
  simp only [Fo.flat, List.length_cons, List.length_append] at hl
  exact ⟨rtk_node nms len hn hk h3 hs hkn (by omega) ⟨x1, x2⟩ (rtk_all hn k hk hkn (by omega) x2), rtk_all hn r hr hrn (by omega) x3⟩
/-- The loop over the names that occur. -/
theorem plen_l0 (hn : nms.length ≤ 1000) {x0 : List S43} {used : List ByteArray} (hu : used.length ≤ 1000) {fin : Int × Int}
    (hfin : (∀ y, y ∈ used → okL nms len y = 0) → Ev (fun k => lang_Length.l0 k x0 nms len used (used.length : Int) (used.length : Int)) fin) (d : Nat) : ∀ i : Nat, i + d = used.length → (∀ y, y ∈ used.take i → okL nms len y = 0) →
    Ev (fun k => lang_Length.l0 k x0 nms len used (used.length : Int) (i : Int)) (lnT nms len (used.drop i) fin) := by
  induction d with
  | zero =>
    intro i hi hg
    rw [List.take_of_length_le (by omega)] at hg
    rw [List.drop_eq_nil_of_le (by omega), show i = used.length by omega]
    exact hfin hg
  | succ d ih =>
    intro i hi hg
    have hlt : i < used.length := by omega
    refine ev_step (fun k => by simp only [lang_Length.l0] <;> exact rfl) (ev_pos (by omega) (ev_pos (by omega) (ev_pos (by omega) ?_)))
    rw [rdS used hlt, List.drop_eq_getElem_cons hlt]
    refine Ev.bind (pidx_ev nms used[i] (by omega)) ?_
    simp only [lnT]
    have bad : ∀ b : Bool, b = true → okL nms len used[i] = 6 → Ev (fun k => lang_Length.j1 k x0 nms len (idxI nms used[i] 0) used (used.length : Int) (i : Int) b) (if okL nms len used[i] = 0 then lnT nms len (used.drop (i + 1)) fin else (0, okL nms len used[i])) := fun b hb h6 =>
      ev_step (fun k => by simp only [lang_Length.j1] <;> exact rfl) (ev_pos hb (ev_eq (ev_now _) (by rw [if_neg (by rw [h6]; decide), h6])))
    refine ev_ite (fun h => bad true rfl (by unfold okL; rw [if_pos h])) (fun h => ?_)
    by_cases h2 : idxI nms used[i] 0 ≥ (len.length : Int)
    · exact bad _ (decide_eq_true h2) (by unfold okL; rw [if_neg h, if_pos h2])
    · refine ev_step (fun k => by simp only [lang_Length.j1] <;> exact rfl) (ev_neg (by rw [decide_eq_true_iff]; exact h2) (ev_pos (by omega) (ev_pos (by omega) ?_)))
      have e0 : okL nms len used[i] = if rd len (idxI nms used[i] 0) < 1 then 1 else if rd len (idxI nms used[i] 0) > 8192 then 1 else 0 := by unfold okL; rw [if_neg h, if_neg h2]
      refine ev_ite (fun h3 => ?_) (fun h3 => ?_)
      · rw [if_pos h3] at e0
        exact ev_eq (ev_now _) (by rw [e0, if_neg (by decide)])
      · rw [if_neg h3] at e0
        refine ev_ite (fun h4 => ?_) (fun h4 => ?_)
        · rw [if_pos h4] at e0
          exact ev_eq (ev_now _) (by rw [e0, if_neg (by decide)])
        · rw [if_neg h4] at e0
          rw [w64 (by omega) (by omega), if_pos e0]
          refine ih (i + 1) (by omega) (fun y hy => ?_)
          rw [List.take_succ_eq_append_getElem hlt] at hy
          rcases List.mem_append.1 hy with q | q
          · exact hg y q
          · rw [List.mem_singleton.1 q]; exact e0
theorem rlen_l0 (hn : nms.length ≤ 1000) {x0 : List S43} {used : List ByteArray} (hu : used.length ≤ 1000) {fin : Int × Int}
    (hfin : (∀ y, y ∈ used → okL nms len y = 0) → Ev (fun k => dancestudioref35_Length.l0 k x0 nms len used (used.length : Int)) fin) (d : Nat) : ∀ i : Nat, i + d = used.length → (∀ y, y ∈ used.take i → okL nms len y = 0) →
    Ev (fun k => dancestudioref35_Length.l0 k x0 nms len used (i : Int)) (lnT nms len (used.drop i) fin) := by
  induction d with
  | zero =>
    intro i hi hg
    rw [List.take_of_length_le (by omega)] at hg
    rw [List.drop_eq_nil_of_le (by omega), show i = used.length by omega]
    exact hfin hg
  | succ d ih =>
    intro i hi hg
    have hlt : i < used.length := by omega
    refine ev_step (fun k => by simp only [dancestudioref35_Length.l0] <;> exact rfl) (ev_pos (by omega) (ev_pos (by omega) ?_))
    rw [rdS used hlt, List.drop_eq_getElem_cons hlt]
    refine Ev.bind (ridx_ev nms used[i] (by omega)) ?_
    simp only [lnT]
    have bad : ∀ b : Bool, b = true → okL nms len used[i] = 6 → Ev (fun k => dancestudioref35_Length.j1 k x0 nms len used (i : Int) (idxI nms used[i] 0) b) (if okL nms len used[i] = 0 then lnT nms len (used.drop (i + 1)) fin else (0, okL nms len used[i])) := fun b hb h6 =>
      ev_step (fun k => by simp only [dancestudioref35_Length.j1] <;> exact rfl) (ev_pos hb (ev_eq (ev_now _) (by rw [if_neg (by rw [h6]; decide), h6])))
    refine ev_ite (fun h => bad true rfl (by unfold okL; rw [if_pos h])) (fun h => ?_)
    by_cases h2 : idxI nms used[i] 0 ≥ (len.length : Int)
    · exact bad _ (decide_eq_true h2) (by unfold okL; rw [if_neg h, if_pos h2])
    · refine ev_step (fun k => by simp only [dancestudioref35_Length.j1] <;> exact rfl) (ev_neg (by rw [decide_eq_true_iff]; exact h2) (ev_pos (by omega) (ev_pos (by omega) ?_)))
      have e0 : okL nms len used[i] = if rd len (idxI nms used[i] 0) < 1 then 1 else if rd len (idxI nms used[i] 0) > 8192 then 1 else 0 := by unfold okL; rw [if_neg h, if_neg h2]
      refine ev_ite (fun h3 => ?_) (fun h3 => ?_)
      · rw [if_pos h3] at e0
        exact ev_eq (ev_now _) (by rw [e0, if_neg (by decide)])
      · rw [if_neg h3] at e0
        refine ev_ite (fun h4 => ?_) (fun h4 => ?_)
        · rw [if_pos h4] at e0
          exact ev_eq (ev_now _) (by rw [e0, if_neg (by decide)])
        · rw [if_neg h4] at e0
          rw [w64 (by omega) (by omega), if_pos e0]
          refine ih (i + 1) (by omega) (fun y hy => ?_)
          rw [List.take_succ_eq_append_getElem hlt] at hy
          rcases List.mem_append.1 hy with q | q
          · exact hg y q
          · rw [List.mem_singleton.1 q]; exact e0
/-- What Length answers on a tree. -/
def lenT (s : S43) (k : Fo) : Int × Int := lnT nms len (namesT (s :: k.flat) []) (if nodeK nms len s (k.tks nms len) > 8192 then (0, 1) else (nodeK nms len s (k.tks nms len), 0))
theorem names_short {l : List S43} (h : l.length ≤ 64) : (namesT l []).length ≤ 1000 := by
  have : ∀ (l : List S43) (acc : List ByteArray), (namesT l acc).length ≤ acc.length + l.length := by
    intro l; induction l with
    | nil => intro acc; exact Nat.le_refl _
    | cons s l ih =>
      intro acc
      have h1 := ih acc
      have h2 := ih (acc ++ [s.f1])
      rw [List.length_append, List.length_singleton] at h2
      simp only [namesT, List.length_cons]
      (repeat' split) <;> omega
  have := this l []
  simp only [List.length_nil] at this; omega
theorem len_tree (hn : nms.length ≤ 1000) {s : S43} {k : Fo} (hk : k.ok) (h3 : s.f3 = (k.count : Int)) (hs : ndE s = 0) (hkn : k.nds) (hl : k.flat.length < 64) :
    Ev (fun n => lang_Length.f n (s :: k.flat) nms len) (lenT nms len s k) ∧ Ev (fun n => dancestudioref35_Length.f n (s :: k.flat) nms len) (lenT nms len s k) := by
  have hc := chk_tree s k hk h3 hs hkn hl
  have hu := names_short (l := s :: k.flat) (by simp only [List.length_cons]; omega)
  have hm : nmsE (s :: k.flat) = (namesT (s :: k.flat) [], 0) := by unfold nmsE; rw [if_pos hc]
  have nok : (∀ y, y ∈ namesT (s :: k.flat) [] → okL nms len y = 0) → (s.f0 = 1 → okL nms len s.f1 = 0) ∧ k.nok nms len := fun h =>
    ⟨fun h1 => h _ ((namesT_mem _ _ _).2 (.inr ⟨s, by simp, h1, rfl⟩)), fun t ht h1 => h _ ((namesT_mem _ _ _).2 (.inr ⟨t, by simp [ht], h1, rfl⟩))⟩
  have p := pnms_ev (s :: k.flat)
  have r := rnms_ev (s :: k.flat)
  rw [hm] at p r
  unfold lang_Length.f dancestudioref35_Length.f lenT
  constructor
  · refine Ev.bind p (ev_pos rfl ?_)
    refine plen_l0 nms len hn hu (fun h => ?_) _ 0 (Nat.zero_add _) (fun y hy => by simp at hy)
    refine ev_step (fun k => by simp only [lang_Length.l0] <;> exact rfl) (ev_neg (by omega) ?_)
    refine Ev.bind (ptk_node nms len hn hk h3 hs hkn (by omega) (nok h) (ptk_all nms len hn k hk hkn (by omega) (nok h).2)) ?_
    exact ev_ite (fun h => ev_eq (ev_now _) (by rw [if_pos h])) (fun h => ev_eq (ev_now _) (by rw [if_neg h]))
  · refine Ev.bind r (ev_pos rfl ?_)
    refine rlen_l0 nms len hn hu (fun h => ?_) _ 0 (Nat.zero_add _) (fun y hy => by simp at hy)
    refine ev_step (fun k => by simp only [dancestudioref35_Length.l0] <;> exact rfl) (ev_neg (by omega) ?_)
    refine Ev.bind (rtk_node nms len hn hk h3 hs hkn hl (nok h) (rtk_all nms len hn k hk hkn hl (nok h).2)) ?_
    exact ev_ite (fun h => ev_eq (ev_now _) (by rw [if_pos h])) (fun h => ev_eq (ev_now _) (by rw [if_neg h]))
theorem len_bad {l : List S43} (h : chkE l ≠ 0) : Ev (fun n => lang_Length.f n l nms len) (0, chkE l) ∧ Ev (fun n => dancestudioref35_Length.f n l nms len) (0, chkE l) := by
  have hm : nmsE l = ([], chkE l) := by unfold nmsE; rw [if_neg h]
  have p := pnms_ev l
  have r := rnms_ev l
  rw [hm] at p r
  unfold lang_Length.f dancestudioref35_Length.f
  exact ⟨Ev.bind p (ev_neg h (ev_now _)), Ev.bind r (ev_neg h (ev_now _))⟩
theorem len_ev (hn : nms.length ≤ 1000) (l : List S43) : ∃ v, Ev (fun n => lang_Length.f n l nms len) v ∧ Ev (fun n => dancestudioref35_Length.f n l nms len) v := by
  by_cases h : chkE l = 0
  · obtain ⟨s, k, rfl, hk, h3, hs, hkn, hl⟩ := tree_of h
    exact ⟨_, len_tree nms len hn hk h3 hs hkn hl⟩
  · exact ⟨_, len_bad nms len h⟩
end
end Go.Proofs.YtimikhbnihedkaaDoor.PAll
