/- Numbers and their decimal forms: plain facts, and what Number, the reference's Number and Print answer. -/
import Derived.Test.YtkcnfbhmjcbgoaaDoorPAllx0
import Derived.Test.YtkcnfbhmjcbgoaaDoorPAllf20
import Derived.Test.YtkcnfbhmjcbgoaaDoorPAllf21
import Derived.Test.YtkcnfbhmjcbgoaaDoorPAllf24
import Derived.Test.YtkcnfbhmjcbgoaaDoorPAllf33
import Derived.Test.YtkcnfbhmjcbgoaaDoorPAllf38
import Derived.Test.YtkcnfbhmjcbgoaaDoorPAllf42
import Derived.Test.YtkcnfbhmjcbgoaaDoorFldLaw1
namespace Go.Proofs.YtkcnfbhmjcbgoaaDoor.PAll
set_option linter.unusedVariables false
open Go Go.RowKit Go.Proofs.YtkcnfbhmjcbgoaaDoorW.PrintWords Go.Proofs.YtkcnfbhmjcbgoaaDoorW.PrintLast Go.Proofs.YtkcnfbhmjcbgoaaDoorW.PrintMore Go.Proofs.YtkcnfbhmjcbgoaaDoor.MathNum Go.Proofs.YtkcnfbhmjcbgoaaDoor.EvWords

def isD (c : UInt8) : Prop := 48 ≤ c.toNat ∧ c.toNat ≤ 57
instance (c : UInt8) : Decidable (isD c) := by unfold isD; exact inferInstance
def numGo (acc : Int) : Bs → Option Int
  | [] => some acc
  | c :: r => if isD c then numGo (if acc ≤ 1125899906842624 then 10 * acc + ((c.toNat : Int) - 48) else acc) r else none
def numFin (neg : Bool) : Option Int → Int × Int
  | none => (0, 2)
  | some x => if x > 1125899906842624 then (0, 1) else if neg = true then (-x, 0) else (x, 0)
def numD (neg : Bool) (d : Bs) : Int × Int := if d = [] ∨ d.head? = some 48 ∧ (1 < d.length ∨ neg = true) then (0, 2) else numFin neg (numGo 0 d)
def numV (l : Bs) : Int × Int := if l.head? = some 45 then numD true l.tail else numD false l

/-! The program's Number. -/
theorem cutPrefix_some (l : Bs) (hl : l.length ≤ 4611686018427387904) : strings_CutPrefix.f (mkB l) (⟨#[45]⟩ : ByteArray) = some (if l.head? = some 45 then (mkB l.tail, true) else (mkB l, false)) := by
  unfold strings_CutPrefix.f stringslite_CutPrefix.f stringslite_HasPrefix.f
  have h1 : ((⟨#[45]⟩ : ByteArray).size : Int) = 1 := rfl
  rw [h1, size_mk]
  cases l with
  | nil => rfl
  | cons c l =>
    rw [if_pos (by simp only [List.length_cons]; omega), if_pos (by omega), if_pos (by simp only [List.length_cons]; omega)]
    have e : (mkB (c :: l)).extract 0 ((1 : Int)).toNat = mkB [c] := by rw [mk_extract]; rfl
    rw [e, toList_mk]
    simp only [Option.bind_some]
    have e2 : (⟨#[45]⟩ : ByteArray).toList = [45] := toList_mk [45]
    rw [e2]
    by_cases hc : c = 45
    · subst hc
      have : (([45] : Bs) == [45]) = true := by decide
      rw [this, if_pos rfl, if_pos (by omega), if_pos (by simp only [List.length_cons]; omega)]
      simp only [Option.bind_some, List.head?_cons, if_true]
      rw [mk_extract]
      simp
    · have : (([c] : Bs) == [45]) = false := by simpa using hc
      rw [this]
      have hh : ¬ (c :: l).head? = some 45 := by simpa using hc
      rw [if_neg hh]
      rfl
theorem num_step {acc d : Int} (h0 : 0 ≤ acc) (h1 : acc ≤ 1125899906842624) (h2 : 48 ≤ d) (h3 : d ≤ 57) : wrap64 (wrap64 (10 * acc) + (d - 48) % 256) = 10 * acc + (d - 48) := by
  rw [w64 (n := 10 * acc) (by omega) (by omega), w64 (by omega) (by omega)]
  omega
theorem number_loop {D : Bs} {neg : Bool} (hl : D.length ≤ 4611686018427387904) (d : Nat) : ∀ (i : Nat) (acc : Int), i + d = D.length → 0 ≤ acc → acc ≤ 11258999068426249 →
    Ev (fun k => field_Number.l0 k (mkB D) neg acc ((mkB D).size : Int) (i : Int)) (numFin neg (numGo acc (D.drop i))) := by
  induction d with
  | zero =>
    intro i acc hi h0 h1
    rw [List.drop_eq_nil_of_le (by omega)]
    refine ev_step (fun k => by simp only [field_Number.l0] <;> exact rfl) (ev_neg (by rw [size_mk]; omega) ?_)
    show Ev _ (if acc > 1125899906842624 then (0, 1) else if neg = true then (-acc, 0) else (acc, 0))
    by_cases h : acc > 1125899906842624
    · refine ev_pos h ?_
      rw [if_pos h]; exact ev_now _
    · refine ev_neg h ?_
      rw [if_neg h, w64 (by omega) (by omega)]
      cases neg with
      | true => exact ev_pos rfl (ev_now _)
      | false => exact ev_neg (by simp) (ev_now _)
  | succ d ih =>
    intro i acc hi h0 h1
    have h : i < D.length := by omega
    rw [drop_at h, numGo]
    refine ev_step (fun k => by simp only [field_Number.l0] <;> exact rfl) (ev_pos (by rw [size_mk]; omega) (ev_pos (by omega) (ev_pos (by rw [size_mk]; omega) ?_)))
    rw [bt_mk h]
    have bad : Ev (fun k => field_Number.j2 k (mkB D) neg acc (D[i].toNat : Int) ((mkB D).size : Int) (i : Int) true) (0, 2) := ev_step (fun k => by simp only [field_Number.j2] <;> exact rfl) (ev_pos (show true = true from rfl) (ev_now _))
    by_cases h2 : (D[i].toNat : Int) < 48
    · rw [if_neg (by unfold isD; omega)]
      exact ev_pos h2 bad
    · refine ev_neg h2 ?_
      by_cases h3 : (D[i].toNat : Int) > 57
      · rw [if_neg (by unfold isD; omega), decide_eq_true h3]; exact bad
      · rw [if_pos (by unfold isD; omega), decide_eq_false h3]
        refine ev_step (fun k => by simp only [field_Number.j2] <;> exact rfl) (ev_neg (by simp) ?_)
        by_cases h4 : acc ≤ 1125899906842624
        · rw [if_pos h4]
          refine ev_pos h4 ?_
          rw [num_step h0 h4 (by omega) (by omega), w64 (by omega) (by omega)]
          exact ih (i + 1) _ (by omega) (by omega) (by omega)
        · rw [if_neg h4]
          refine ev_neg h4 ?_
          rw [w64 (by omega) (by omega)]
          exact ih (i + 1) acc (by omega) h0 h1
theorem number_ev {l : Bs} (hl : l.length ≤ 4611686018427387904) : Ev (fun k => field_Number.f k (mkB l)) (numV l) := by
  simp only [field_Number.f]
  rw [cutPrefix_some l hl]
  simp only [Option.bind_some]
  have main : ∀ (d : Bs) (neg : Bool), d.length ≤ 4611686018427387904 → Ev (fun k => if (mkB d).toList = ([] : List UInt8) then field_Number.j0 k (mkB d) neg true else (if 0 < ((mkB d).size : Int) then (if bt (mkB d) 0 = 48 then (if ((mkB d).size : Int) > 1 then field_Number.j0 k (mkB d) neg true else field_Number.j0 k (mkB d) neg neg) else field_Number.j0 k (mkB d) neg false) else none)) (numD neg d) := by
    intro d neg hd
    have bad : Ev (fun k => field_Number.j0 k (mkB d) neg true) (0, 2) := ev_step (fun k => by simp only [field_Number.j0] <;> exact rfl) (ev_pos (show true = true from rfl) (ev_now _))
    have good : Ev (fun k => field_Number.j0 k (mkB d) neg false) (numFin neg (numGo 0 d)) := ev_step (fun k => by simp only [field_Number.j0] <;> exact rfl) (ev_neg (by simp) (number_loop hd d.length 0 0 (by omega) (by omega) (by omega)))
    unfold numD
    by_cases h0 : d = []
    · rw [if_pos (Or.inl h0)]
      exact ev_pos (mk_nil.2 h0) bad
    · have hp := List.length_pos_iff.2 h0
      have hb := bt_nat (c := 48) hp
      rw [show ((48 : UInt8).toNat : Int) = 48 from rfl, show ((0 : Nat) : Int) = 0 from rfl] at hb
      have hh : d.head? = some d[0] := by cases d with | nil => exact absurd rfl h0 | cons c l => rfl
      refine ev_neg (fun e => h0 (mk_nil.1 e)) (ev_pos (by rw [size_mk]; omega) ?_)
      by_cases h48 : d[0] = 48
      · refine ev_pos (hb.2 h48) ?_
        by_cases h1 : 1 < d.length
        · rw [if_pos (Or.inr ⟨by rw [hh, h48], Or.inl h1⟩)]
          exact ev_pos (by rw [size_mk]; omega) bad
        · refine ev_neg (by rw [size_mk]; omega) ?_
          cases neg with
          | true => rw [if_pos (Or.inr ⟨by rw [hh, h48], Or.inr rfl⟩)]; exact bad
          | false => rw [if_neg (by rintro (h | ⟨_, h | h⟩); exact h0 h; exact h1 h; cases h)]; exact good
      · rw [if_neg (by rintro (h | ⟨h, _⟩); exact h0 h; rw [hh] at h; exact h48 (Option.some.inj h))]
        exact ev_neg (fun e => h48 (hb.1 e)) good
  unfold numV
  by_cases h : l.head? = some 45
  · rw [if_pos h, if_pos h]
    exact main l.tail true (by rw [List.length_tail]; omega)
  · rw [if_neg h, if_neg h]
    exact main l false hl

/-! The reference's. -/
theorem rnumber_loop {L D : Bs} (hl : D.length ≤ 4611686018427387904) (d : Nat) : ∀ (i : Nat) (acc : Int), i + d = D.length → 0 ≤ acc → acc ≤ 11258999068426249 →
    Ev (fun k => dancestudioref06_Number.l0 k (mkB L) (mkB D) acc (i : Int)) (numFin (decide (D ≠ L)) (numGo acc (D.drop i))) := by
  induction d with
  | zero =>
    intro i acc hi h0 h1
    rw [List.drop_eq_nil_of_le (by omega)]
    refine ev_step (fun k => by simp only [dancestudioref06_Number.l0] <;> exact rfl) (ev_neg (by rw [size_mk]; omega) ?_)
    show Ev _ (if acc > 1125899906842624 then (0, 1) else if decide (D ≠ L) = true then (-acc, 0) else (acc, 0))
    by_cases h : acc > 1125899906842624
    · refine ev_pos h ?_
      rw [if_pos h]; exact ev_now _
    · refine ev_neg h ?_
      rw [if_neg h, toList_mk, toList_mk, w64 (by omega) (by omega)]
      by_cases e : D = L
      · rw [decide_eq_false (by simpa using e)]
        exact ev_pos e (ev_now _)
      · rw [decide_eq_true e]
        exact ev_neg e (ev_now _)
  | succ d ih =>
    intro i acc hi h0 h1
    have h : i < D.length := by omega
    rw [drop_at h, numGo]
    refine ev_step (fun k => by simp only [dancestudioref06_Number.l0] <;> exact rfl) (ev_pos (by rw [size_mk]; omega) (ev_pos (by omega) ?_))
    rw [bt_mk h]
    have bad : Ev (fun k => dancestudioref06_Number.j4 k (mkB L) (mkB D) acc (i : Int) true) (0, 2) := ev_step (fun k => by simp only [dancestudioref06_Number.j4] <;> exact rfl) (ev_pos (show true = true from rfl) (ev_now _))
    by_cases h2 : (D[i].toNat : Int) < 48
    · rw [if_neg (by unfold isD; omega)]
      exact ev_pos h2 bad
    · refine ev_neg h2 ?_
      by_cases h3 : (D[i].toNat : Int) > 57
      · rw [if_neg (by unfold isD; omega), decide_eq_true h3]; exact bad
      · rw [if_pos (by unfold isD; omega), decide_eq_false h3]
        refine ev_step (fun k => by simp only [dancestudioref06_Number.j4] <;> exact rfl) (ev_neg (by simp) ?_)
        by_cases h4 : acc ≤ 1125899906842624
        · rw [if_pos h4]
          refine ev_pos h4 (ev_pos (by omega) (ev_pos (by rw [size_mk]; omega) ?_))
          rw [bt_mk h, num_step h0 h4 (by omega) (by omega), w64 (by omega) (by omega)]
          exact ih (i + 1) _ (by omega) (by omega) (by omega)
        · rw [if_neg h4]
          refine ev_neg h4 ?_
          rw [w64 (by omega) (by omega)]
          exact ih (i + 1) acc (by omega) h0 h1
theorem rnumber_ev {l : Bs} (hl : l.length ≤ 4611686018427387904) : Ev (fun k => dancestudioref06_Number.f k (mkB l)) (numV l) := by
  have main : ∀ d : Bs, d.length ≤ 4611686018427387904 → Ev (fun k => dancestudioref06_Number.j1 k (mkB l) (mkB d)) (numD (decide (d ≠ l)) d) := by
    intro d hd
    have bad : Ev (fun k => dancestudioref06_Number.j2 k (mkB l) (mkB d) true) (0, 2) := ev_step (fun k => by simp only [dancestudioref06_Number.j2] <;> exact rfl) (ev_pos (show true = true from rfl) (ev_now _))
    have good : Ev (fun k => dancestudioref06_Number.j2 k (mkB l) (mkB d) false) (numFin (decide (d ≠ l)) (numGo 0 d)) := ev_step (fun k => by simp only [dancestudioref06_Number.j2] <;> exact rfl) (ev_neg (by simp) (rnumber_loop hd d.length 0 0 (by omega) (by omega) (by omega)))
    unfold numD
    refine ev_step (fun k => by simp only [dancestudioref06_Number.j1] <;> exact rfl) ?_
    by_cases h0 : d = []
    · rw [if_pos (Or.inl h0)]
      exact ev_pos (mk_nil.2 h0) bad
    · have hp := List.length_pos_iff.2 h0
      have hb := bt_nat (c := 48) hp
      rw [show ((48 : UInt8).toNat : Int) = 48 from rfl, show ((0 : Nat) : Int) = 0 from rfl] at hb
      have hh : d.head? = some d[0] := by cases d with | nil => exact absurd rfl h0 | cons c l => rfl
      refine ev_neg (fun e => h0 (mk_nil.1 e)) (ev_pos (by rw [size_mk]; omega) ?_)
      by_cases h48 : d[0] = 48
      · refine ev_pos (hb.2 h48) ?_
        by_cases h1 : 1 < d.length
        · rw [if_pos (Or.inr ⟨by rw [hh, h48], Or.inl h1⟩)]
          exact ev_pos (by rw [size_mk]; omega) bad
        · refine ev_neg (by rw [size_mk]; omega) ?_
          rw [toList_mk, toList_mk]
          by_cases e : d = l
          · have e1 : (d != l) = false := by simpa using e
            rw [e1, if_neg (by rintro (h | ⟨_, h | h⟩); exact h0 h; exact h1 h; simp [e] at h)]
            exact good
          · have e1 : (d != l) = true := by simpa using e
            rw [e1, if_pos (Or.inr ⟨by rw [hh, h48], Or.inr (decide_eq_true e)⟩)]
            exact bad
      · rw [if_neg (by rintro (h | ⟨h, _⟩); exact h0 h; rw [hh] at h; exact h48 (Option.some.inj h))]
        exact ev_neg (fun e => h48 (hb.1 e)) good
  simp only [dancestudioref06_Number.f]
  unfold numV
  cases l with
  | nil =>
    refine ev_pos (mk_nil.2 rfl) (ev_step (fun k => by simp only [dancestudioref06_Number.j0] <;> exact rfl) (ev_neg (by simp) ?_))
    rw [if_neg (by simp)]
    exact ev_eq (main [] (by simp)) rfl
  | cons c t =>
    refine ev_neg (by rw [mk_nil]; simp) (ev_pos (by rw [size_mk]; simp only [List.length_cons]; omega) (ev_step (fun k => by simp only [dancestudioref06_Number.j0] <;> exact rfl) ?_))
    have hb := bt_nat (l := c :: t) (i := 0) (c := 45) (by simp)
    rw [show ((0 : Nat) : Int) = 0 from rfl, show ((45 : UInt8).toNat : Int) = 45 from rfl, List.getElem_cons_zero] at hb
    by_cases h : c = 45
    · rw [if_pos (by rw [h]; rfl)]
      refine ev_pos (by rw [beq_iff_eq]; exact hb.2 h) (ev_pos (by rw [size_mk]; simp only [List.length_cons]; omega) ?_)
      have e : (mkB (c :: t)).extract 1 (mkB (c :: t)).size = mkB t := by rw [mk_extract, size_mk]; simp
      rw [e]
      have hne : t ≠ c :: t := fun e => by have := congrArg List.length e; simp at this
      have := main t (by simp only [List.length_cons] at hl; omega)
      rwa [decide_eq_true hne] at this
    · rw [if_neg (by simpa using h)]
      refine ev_neg (by rw [beq_iff_eq]; exact fun e => h (hb.1 e)) ?_
      have := main (c :: t) hl
      rwa [decide_eq_false (by simp)] at this

/-! Decimal forms. -/
def dig (n : Nat) : UInt8 := UInt8.ofNat (48 + n)
theorem dig_nat {n : Nat} (h : n < 10) : (dig n).toNat = 48 + n := by
  unfold dig
  rw [UInt8.toNat_ofNat']
  omega
def dec (n : Nat) : Bs := if n < 10 then [dig n] else dec (n / 10) ++ [dig (n % 10)]
termination_by n
decreasing_by omega
theorem dec_small {n : Nat} (h : n < 10) : dec n = [dig n] := by rw [dec, if_pos h]
theorem dec_big {n : Nat} (h : ¬ n < 10) : dec n = dec (n / 10) ++ [dig (n % 10)] := by rw [dec, if_neg h]
def dval (acc : Nat) (l : Bs) : Nat := l.foldl (fun a c => 10 * a + (c.toNat - 48)) acc
theorem dval_nil (acc : Nat) : dval acc [] = acc := rfl
theorem dval_cons (acc : Nat) (c : UInt8) (r : Bs) : dval acc (c :: r) = dval (10 * acc + (c.toNat - 48)) r := by
  unfold dval; rw [List.foldl_cons]
attribute [local irreducible] dval
theorem val_snoc (l : Bs) : ∀ (acc : Nat) (c : UInt8), dval acc (l ++ [c]) = 10 * dval acc l + (c.toNat - 48) := by
  induction l with
  | nil => intro acc c; rw [List.nil_append, dval_cons, dval_nil, dval_nil]
  | cons b l ih => intro acc c; rw [List.cons_append, dval_cons, dval_cons, ih]
theorem val_ge : ∀ (l : Bs) (acc : Nat), acc ≤ dval acc l
  | [], acc => by rw [dval_nil]; exact Nat.le_refl _
  | b :: l, acc => by
    have := val_ge l (10 * acc + (b.toNat - 48))
    rw [dval_cons]; omega
def allD (l : Bs) : Prop := ∀ c ∈ l, isD c
theorem numGo_val : ∀ (l : Bs) (acc : Nat), allD l → ∃ x : Nat, numGo (acc : Int) l = some (x : Int) ∧ (dval acc l ≤ 1125899906842624 → x = dval acc l) ∧ (1125899906842624 < dval acc l → 1125899906842624 < x)
  | [], acc, _ => ⟨acc, rfl, fun _ => (dval_nil acc).symm, fun h => by rwa [dval_nil] at h⟩
  | c :: l, acc, h => by
    have hc := h c (by simp)
    have hl : allD l := fun x hx => h x (by simp [hx])
    have hc' := hc
    unfold isD at hc'
    rw [numGo, if_pos hc, dval_cons]
    by_cases ha : acc ≤ 1125899906842624
    · rw [if_pos (by omega), show 10 * (acc : Int) + ((c.toNat : Int) - 48) = ((10 * acc + (c.toNat - 48) : Nat) : Int) by omega]
      exact numGo_val l _ hl
    · rw [if_neg (by omega)]
      obtain ⟨x, h1, h2, h3⟩ := numGo_val l acc hl
      have g1 := val_ge l acc
      have g2 := val_ge l (10 * acc + (c.toNat - 48))
      exact ⟨x, h1, fun h => by omega, fun _ => h3 (by omega)⟩
theorem numGo_all : ∀ (l : Bs) (acc : Int) {x : Int}, numGo acc l = some x → allD l
  | [], _, _, _ => fun c hc => by cases hc
  | c :: l, acc, x, h => by
    rw [numGo] at h
    by_cases hc : isD c
    · rw [if_pos hc] at h
      intro y hy
      rcases List.mem_cons.1 hy with rfl | hy
      · exact hc
      · exact numGo_all l _ h y hy
    · rw [if_neg hc] at h; cases h
theorem dec_spec : ∀ (m n : Nat), n ≤ m → allD (dec n) ∧ dval 0 (dec n) = n ∧ dec n ≠ [] ∧ (1 ≤ n → (dec n).head? ≠ some 48) ∧ (dec n).length ≤ n + 1 ∧ (dec n).head? ≠ some 45 := by
  intro m
  induction m with
  | zero =>
    intro n h
    rw [show n = 0 by omega, dec_small (by omega)]
    refine ⟨fun c hc => ?_, by rw [dval_cons, dval_nil]; rfl, by simp, fun h => by omega, by simp, by decide⟩
    rw [List.mem_singleton.1 hc]; decide
  | succ m ih =>
    intro n h
    by_cases hn : n < 10
    · rw [dec_small hn]
      have hd := dig_nat hn
      refine ⟨fun c hc => ?_, ?_, by simp, fun h1 e => ?_, by simp, fun e => ?_⟩
      · rw [List.mem_singleton.1 hc]; unfold isD; omega
      · rw [dval_cons, dval_nil]; omega
      · have := congrArg UInt8.toNat (Option.some.inj e)
        rw [hd] at this
        have : (48 : UInt8).toNat = 48 := rfl
        omega
      · have := congrArg UInt8.toNat (Option.some.inj e)
        rw [hd] at this
        have : (45 : UInt8).toNat = 45 := rfl
        omega
    · rw [dec_big hn]
      obtain ⟨h1, h2, h3, h4, h5, h6⟩ := ih (n / 10) (by omega)
      have hd := dig_nat (n := n % 10) (by omega)
      have hh : (dec (n / 10) ++ [dig (n % 10)]).head? = (dec (n / 10)).head? := by
        cases hx : dec (n / 10) with
        | nil => exact absurd hx h3
        | cons c l => rfl
      refine ⟨fun c hc => ?_, ?_, by simp, fun _ => ?_, ?_, ?_⟩
      · rcases List.mem_append.1 hc with hc | hc
        · exact h1 c hc
        · rw [List.mem_singleton.1 hc]; unfold isD; omega
      · rw [val_snoc, h2]; omega
      · rw [hh]; exact h4 (by omega)
      · simp only [List.length_append, List.length_cons, List.length_nil]; omega
      · rw [hh]; exact h6
theorem val_pos {l : Bs} (h0 : l ≠ []) (hd : allD l) (h : l.head? ≠ some 48) : 1 ≤ dval 0 l := by
  cases l with
  | nil => exact absurd rfl h0
  | cons c l =>
    rw [dval_cons]
    have := val_ge l (10 * 0 + (c.toNat - 48))
    have hc := hd c (by simp)
    unfold isD at hc
    have : c.toNat ≠ 48 := fun e => h (by rw [List.head?_cons]; exact congrArg some (UInt8.toNat_inj.1 e))
    omega
theorem dec_val : ∀ (n : Nat) (l : Bs), l.length ≤ n → l ≠ [] → allD l → (l.head? = some 48 → l.length = 1) → dec (dval 0 l) = l := by
  intro n
  induction n with
  | zero => intro l h h0; exact absurd (List.eq_nil_of_length_eq_zero (by omega)) h0
  | succ n ih =>
    intro l h h0 hd hh
    obtain ⟨init, c, rfl⟩ : ∃ init c, l = init ++ [c] := ⟨l.dropLast, l.getLast h0, (List.dropLast_concat_getLast h0).symm⟩
    have hc := hd c (by simp)
    unfold isD at hc
    have e : dig (c.toNat - 48) = c := UInt8.toNat_inj.1 (by rw [dig_nat (by omega)]; omega)
    rw [val_snoc]
    by_cases hi : init = []
    · subst hi
      rw [show 10 * dval 0 [] + (c.toNat - 48) = c.toNat - 48 by rw [dval_nil]; omega, dec_small (by omega), e]; rfl
    · have hi' : allD init := fun x hx => hd x (by simp [hx])
      have hlen : 1 ≤ init.length := List.length_pos_iff.2 hi
      have hh2 : (init ++ [c]).head? = init.head? := by
        cases init with
        | nil => exact absurd rfl hi
        | cons a t => rfl
      have hne : init.head? ≠ some 48 := fun e => by
        have := hh (by rw [hh2]; exact e)
        simp only [List.length_append, List.length_cons, List.length_nil] at this
        omega
      have hv := val_pos hi hi' hne
      rw [dec_big (by omega), show (10 * dval 0 init + (c.toNat - 48)) / 10 = dval 0 init by omega, show (10 * dval 0 init + (c.toNat - 48)) % 10 = c.toNat - 48 by omega, e]
      rw [ih init (by simp only [List.length_append, List.length_cons, List.length_nil] at h; omega) hi hi' (fun e => absurd e hne)]
def printV (n : Int) : Bs := if n < 0 then 45 :: dec n.natAbs else dec n.natAbs
theorem numV_print (n : Int) : numV (printV n) = if -1125899906842624 ≤ n ∧ n ≤ 1125899906842624 then (n, 0) else (0, 1) := by
  obtain ⟨h1, h2, h3, h4, h5, h6⟩ := dec_spec n.natAbs n.natAbs (Nat.le_refl _)
  obtain ⟨x, g1, g2, g3⟩ := numGo_val (dec n.natAbs) 0 h1
  rw [h2] at g2 g3
  have g1 : numGo 0 (dec n.natAbs) = some (x : Int) := g1
  unfold numV printV
  by_cases hn : n < 0
  · rw [if_pos hn, if_pos (show ((45 : UInt8) :: dec n.natAbs).head? = some 45 from rfl), List.tail_cons]
    unfold numD
    rw [if_neg (by rintro (h | ⟨h, _⟩); exact h3 h; exact h4 (by omega) h), g1]
    show (if (x : Int) > 1125899906842624 then ((0 : Int), (1 : Int)) else if true = true then (-(x : Int), 0) else ((x : Int), 0)) = _
    by_cases hb : n.natAbs ≤ 1125899906842624
    · have := g2 hb
      rw [if_neg (by omega), if_pos rfl, if_pos (by omega)]
      exact Prod.ext (by show -(x : Int) = n; omega) rfl
    · have := g3 (by omega)
      rw [if_pos (by omega), if_neg (by omega)]
  · rw [if_neg hn, if_neg h6]
    unfold numD
    rw [if_neg (by
      rintro (h | ⟨h, h' | h'⟩)
      · exact h3 h
      · by_cases h0 : n.natAbs = 0
        · rw [h0, dec_small (by omega)] at h'; simp at h'
        · exact h4 (by omega) h
      · cases h'), g1]
    show (if (x : Int) > 1125899906842624 then ((0 : Int), (1 : Int)) else if false = true then (-(x : Int), 0) else ((x : Int), 0)) = _
    by_cases hb : n.natAbs ≤ 1125899906842624
    · have := g2 hb
      rw [if_neg (by omega), if_neg (by simp), if_pos (by omega)]
      exact Prod.ext (by show (x : Int) = n; omega) rfl
    · have := g3 (by omega)
      rw [if_pos (by omega), if_neg (by omega)]
theorem print_numV {l : Bs} {m : Int} (h : numV l = (m, 0)) : printV m = l := by
  have fin : ∀ (neg : Bool) (d : Bs), numD neg d = (m, 0) → d ≠ [] ∧ allD d ∧ (d.head? = some 48 → d.length = 1 ∧ neg = false) ∧ m = (if neg = true then -(dval 0 d : Int) else (dval 0 d : Int)) := by
    intro neg d hd
    unfold numD at hd
    by_cases hc : d = [] ∨ d.head? = some 48 ∧ (1 < d.length ∨ neg = true)
    · rw [if_pos hc] at hd; exact absurd (Prod.mk.inj hd).2 (by decide)
    · rw [if_neg hc] at hd
      have h0 : d ≠ [] := fun e => hc (Or.inl e)
      have hp := List.length_pos_iff.2 h0
      cases hg : numGo 0 d with
      | none => rw [hg] at hd; exact absurd (Prod.mk.inj hd).2 (by decide)
      | some y =>
        have ha := numGo_all d 0 hg
        obtain ⟨x, g1, g2, g3⟩ := numGo_val d 0 ha
        have g1 : numGo 0 d = some (x : Int) := g1
        rw [g1] at hg hd
        have hd : (if (x : Int) > 1125899906842624 then ((0 : Int), (1 : Int)) else if neg = true then (-(x : Int), 0) else ((x : Int), 0)) = (m, 0) := hd
        by_cases hb : (x : Int) > 1125899906842624
        · rw [if_pos hb] at hd; exact absurd (Prod.mk.inj hd).2 (by decide)
        · rw [if_neg hb] at hd
          have hv : dval 0 d ≤ 1125899906842624 := Classical.byContradiction fun hh => by have := g3 (by omega); omega
          have hx := g2 hv
          refine ⟨h0, ha, fun h48 => ⟨?_, ?_⟩, ?_⟩
          · have : ¬ 1 < d.length := fun h => hc (Or.inr ⟨h48, Or.inl h⟩)
            omega
          · cases neg with
            | false => rfl
            | true => exact absurd (Or.inr ⟨h48, Or.inr rfl⟩) hc
          · rw [← hx]
            cases neg with
            | true => rw [if_pos rfl] at hd ⊢; exact (Prod.mk.inj hd).1.symm
            | false => rw [if_neg (by simp)] at hd ⊢; exact (Prod.mk.inj hd).1.symm
  unfold numV at h
  unfold printV
  by_cases h45 : l.head? = some 45
  · rw [if_pos h45] at h
    obtain ⟨h0, ha, hh, hm⟩ := fin true l.tail h
    rw [if_pos rfl] at hm
    have hne : l.tail.head? ≠ some 48 := fun e => by have := (hh e).2; cases this
    have hv := val_pos h0 ha hne
    rw [if_pos (by omega), show m.natAbs = dval 0 l.tail by omega, dec_val _ l.tail (Nat.le_refl _) h0 ha (fun e => (hh e).1)]
    cases l with
    | nil => cases h45
    | cons c t =>
      simp only [List.head?_cons, Option.some.injEq] at h45
      subst h45; rfl
  · rw [if_neg h45] at h
    obtain ⟨h0, ha, hh, hm⟩ := fin false l h
    rw [if_neg (by simp)] at hm
    rw [if_neg (by omega), show m.natAbs = dval 0 l by omega, dec_val _ l (Nat.le_refl _) h0 ha (fun e => (hh e).1)]
/-! The reference's Print. -/
theorem digit_lit {n : Nat} (h : n < 10) : (⟨#[48, 49, 50, 51, 52, 53, 54, 55, 56, 57]⟩ : ByteArray).extract ((n : Nat) : Int).toNat ((n : Int) + 1).toNat = mkB (dec n) := by
  rw [dec_small h]
  have : n = 0 ∨ n = 1 ∨ n = 2 ∨ n = 3 ∨ n = 4 ∨ n = 5 ∨ n = 6 ∨ n = 7 ∨ n = 8 ∨ n = 9 := by omega
  rw [show (⟨#[48, 49, 50, 51, 52, 53, 54, 55, 56, 57]⟩ : ByteArray) = mkB [48, 49, 50, 51, 52, 53, 54, 55, 56, 57] from rfl, mk_extract]
  rcases this with rfl | rfl | rfl | rfl | rfl | rfl | rfl | rfl | rfl | rfl <;> rfl
theorem print_small {n : Nat} (h : n < 10) : Ev (fun k => dancestudioref06_Print.f k (n : Int)) (mkB (dec n)) := by
  refine ev_step (fun k => by simp only [dancestudioref06_Print.f] <;> exact rfl) (ev_neg (by omega) (ev_pos (by omega) (ev_pos (by omega) ?_)))
  rw [w64 (by omega) (by omega)]
  refine ev_pos (by omega) (ev_pos (by omega) ?_)
  rw [digit_lit h]
  exact ev_now _
theorem print_ev : ∀ (m : Nat) (n : Int), n.natAbs ≤ m → -9223372036854775808 ≤ n → n ≤ 9223372036854775807 → Ev (fun k => dancestudioref06_Print.f k n) (mkB (printV n)) := by
  intro m
  induction m with
  | zero =>
    intro n h _ _
    rw [show n = ((0 : Nat) : Int) by omega]
    exact print_small (by omega)
  | succ m ih =>
    intro n h h1 h2
    by_cases hn : n < 0
    · have hdiv : Int.tdiv n 10 = -((n.natAbs / 10 : Nat) : Int) := by
        obtain ⟨k, rfl⟩ : ∃ k : Nat, n = -(k : Int) := ⟨n.natAbs, by omega⟩
        rw [Int.neg_tdiv, Int.natAbs_neg, Int.natAbs_natCast]; rfl
      have hmod : Int.tmod n 10 = -((n.natAbs % 10 : Nat) : Int) := by
        obtain ⟨k, rfl⟩ : ∃ k : Nat, n = -(k : Int) := ⟨n.natAbs, by omega⟩
        rw [Int.neg_tmod, Int.natAbs_neg, Int.natAbs_natCast]; rfl
      have hp : printV n = 45 :: dec n.natAbs := by unfold printV; rw [if_pos hn]
      rw [hp]
      by_cases h10 : n > -10
      · refine ev_step (fun k => by simp only [dancestudioref06_Print.f] <;> exact rfl) (ev_pos hn (ev_pos h10 ?_))
        rw [w64 (by omega) (by omega), show -n = ((n.natAbs : Nat) : Int) by omega]
        refine Ev.bind (print_small (by omega)) ?_
        have := (dec_spec n.natAbs n.natAbs (Nat.le_refl _)).2.2.2.2.1
        refine ev_pos (by rw [size_mk]; omega) ?_
        rw [show (⟨#[45]⟩ : ByteArray) = mkB [45] from rfl, mk_append]
        exact ev_now _
      · refine ev_step (fun k => by simp only [dancestudioref06_Print.f] <;> exact rfl) (ev_pos hn (ev_neg h10 ?_))
        rw [hdiv, hmod, w64 (by omega) (by omega), w64 (by omega) (by omega), Int.neg_neg]
        refine Ev.bind (ih _ (by omega) (by omega) (by omega)) (Ev.bind (print_small (by omega)) ?_)
        have e : printV (-((n.natAbs / 10 : Nat) : Int)) = 45 :: dec (n.natAbs / 10) := by
          unfold printV
          rw [if_pos (by omega), Int.natAbs_neg, Int.natAbs_natCast]
        have l1 := (dec_spec (n.natAbs / 10) (n.natAbs / 10) (Nat.le_refl _)).2.2.2.2.1
        have l2 := (dec_spec (n.natAbs % 10) (n.natAbs % 10) (Nat.le_refl _)).2.2.2.2.1
        rw [e]
        refine ev_pos (by rw [size_mk, size_mk]; simp only [List.length_cons]; omega) ?_
        rw [mk_append, dec_big (n := n.natAbs) (by omega), dec_small (n := n.natAbs % 10) (by omega)]
        exact ev_now _
    · have hp : printV n = dec n.natAbs := by unfold printV; rw [if_neg hn]
      obtain ⟨k, rfl⟩ : ∃ k : Nat, n = (k : Int) := ⟨n.natAbs, by omega⟩
      rw [hp, Int.natAbs_natCast]
      by_cases h10 : k < 10
      · exact print_small h10
      · have hdiv : Int.tdiv (k : Int) 10 = ((k / 10 : Nat) : Int) := rfl
        have hmod : Int.tmod (k : Int) 10 = ((k % 10 : Nat) : Int) := rfl
        refine ev_step (fun k => by simp only [dancestudioref06_Print.f] <;> exact rfl) (ev_neg hn (ev_neg (by omega) ?_))
        rw [hdiv, hmod, w64 (by omega) (by omega)]
        refine Ev.bind (ih _ (by omega) (by omega) (by omega)) (Ev.bind (print_small (by omega)) ?_)
        have e : printV ((k / 10 : Nat) : Int) = dec (k / 10) := by
          unfold printV
          rw [if_neg (by omega), Int.natAbs_natCast]
        have l1 := (dec_spec (k / 10) (k / 10) (Nat.le_refl _)).2.2.2.2.1
        have l2 := (dec_spec (k % 10) (k % 10) (Nat.le_refl _)).2.2.2.2.1
        rw [e]
        refine ev_pos (by rw [size_mk, size_mk]; omega) ?_
        rw [mk_append, dec_big (n := k) h10, dec_small (n := k % 10) (by omega)]
        exact ev_now _
end Go.Proofs.YtkcnfbhmjcbgoaaDoor.PAll
