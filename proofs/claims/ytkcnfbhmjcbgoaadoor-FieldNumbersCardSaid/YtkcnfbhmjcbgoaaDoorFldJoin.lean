/- Fields as they are written, and joined: the program's and the reference's. -/
import Derived.Test.YtkcnfbhmjcbgoaaDoorPAllx0
import Derived.Test.YtkcnfbhmjcbgoaaDoorPAllf25
import Derived.Test.YtkcnfbhmjcbgoaaDoorPAllf26
import Derived.Test.YtkcnfbhmjcbgoaaDoorPAllf27
import Derived.Test.YtkcnfbhmjcbgoaaDoorPAllf28
import Derived.Test.YtkcnfbhmjcbgoaaDoorPAllf34
import Derived.Test.YtkcnfbhmjcbgoaaDoorPAllf35
import Derived.Test.YtkcnfbhmjcbgoaaDoorPAllf36
import Derived.Test.YtkcnfbhmjcbgoaaDoorPAllf39
import Derived.Test.YtkcnfbhmjcbgoaaDoorFldBytes
namespace Go.Proofs.YtkcnfbhmjcbgoaaDoor.PAll
set_option linter.unusedVariables false
open Go Go.RowKit Go.Proofs.YtkcnfbhmjcbgoaaDoorW.PrintWords Go.Proofs.YtkcnfbhmjcbgoaaDoorW.PrintLast Go.Proofs.YtkcnfbhmjcbgoaaDoorW.PrintMore Go.Proofs.YtkcnfbhmjcbgoaaDoor.MathNum Go.Proofs.YtkcnfbhmjcbgoaaDoor.EvWords

def okc (c : UInt8) : Bool := decide (32 ≤ c.toNat) && decide (c.toNat ≤ 126)
def plainL (l : Bs) : Bool := l.all okc
def quotedL (l : Bs) : Bool := l.isEmpty || l.head? == some 39 || l.contains 32
def writtenL (l : Bs) : Bs := if quotedL l = true then 39 :: (esc l ++ [39]) else l
def joinL : List Bs → Bs
  | [] => []
  | [x] => writtenL x
  | x :: y :: r => writtenL x ++ 32 :: joinL (y :: r)
/-- The first error of fields; 0 if there is none. -/
def errL : List Bs → Int
  | [] => 0
  | x :: r => if 256 < x.length then 3 else if plainL x = true then errL r else 2
def goodL (x : Bs) : Prop := x.length ≤ 256 ∧ plainL x = true
instance (x : Bs) : Decidable (goodL x) := by unfold goodL; exact inferInstance
theorem errL_zero : ∀ {l : List Bs}, errL l = 0 ↔ ∀ x ∈ l, goodL x
  | [] => by simp [errL]
  | x :: r => by
    rw [errL, List.forall_mem_cons, ← errL_zero (l := r)]
    unfold goodL
    by_cases h1 : 256 < x.length
    · rw [if_pos h1]; constructor
      · intro h; omega
      · intro h; omega
    · rw [if_neg h1]
      by_cases h2 : plainL x = true
      · rw [if_pos h2]; exact ⟨fun h => ⟨⟨by omega, h2⟩, h⟩, fun h => h.2⟩
      · rw [if_neg h2]; constructor
        · intro h; omega
        · intro h; exact absurd h.1.2 h2
def joinV (l : List Bs) : Bs × Int := if errL l ≠ 0 then ([], errL l) else if 1024 < (joinL l).length then ([], 3) else (joinL l, 0)

theorem writtenL_pos (x : Bs) : 1 ≤ (writtenL x).length := by
  unfold writtenL
  split
  · simp
  · rename_i h
    cases x with
    | nil => simp [quotedL] at h
    | cons c l => simp
theorem writtenL_len (x : Bs) : (writtenL x).length ≤ 2 * x.length + 2 := by
  unfold writtenL
  have := esc_len x
  split
  · simp; omega
  · omega
theorem joinL_snoc : ∀ (l : List Bs) (y : Bs), joinL (l ++ [y]) = (if l = [] then [] else joinL l ++ [32]) ++ writtenL y
  | [], y => by simp [joinL]
  | [x], y => by simp [joinL]
  | x :: z :: r, y => by
    have ih := joinL_snoc (z :: r) y
    rw [if_neg (by simp)] at ih
    rw [if_neg (by simp)]
    show writtenL x ++ 32 :: joinL ((z :: r) ++ [y]) = _
    rw [ih]
    simp [joinL]
theorem joinL_take {l : List Bs} {i : Nat} (h : i < l.length) : joinL (l.take (i + 1)) = (if i = 0 then [] else joinL (l.take i) ++ [32]) ++ writtenL l[i] := by
  rw [← List.take_append_getElem h, joinL_snoc]
  by_cases hi : i = 0
  · subst hi; simp
  · rw [if_neg hi, if_neg (by
      intro e
      have := congrArg List.length e
      rw [List.length_take, List.length_nil] at this
      omega)]
theorem joinL_mono {l : List Bs} {i j : Nat} (h : i ≤ j) (hj : j ≤ l.length) : (joinL (l.take i)).length ≤ (joinL (l.take j)).length := by
  induction j with
  | zero => rw [show i = 0 by omega]; exact Nat.le_refl _
  | succ j ih =>
    by_cases e : i = j + 1
    · rw [e]; exact Nat.le_refl _
    · have := ih (by omega) (by omega)
      rw [joinL_take (by omega)]
      split
      · rename_i h0
        rw [h0] at this
        simp only [List.take_zero, joinL, List.length_nil] at this
        omega
      · simp only [List.length_append]
        omega
theorem joinL_bound {l : List Bs} (hl : ∀ x ∈ l, x.length ≤ 256) : ∀ i, i ≤ l.length → (joinL (l.take i)).length ≤ 515 * i := by
  intro i
  induction i with
  | zero => intro _; simp [joinL]
  | succ i ih =>
    intro hi
    have h1 := ih (by omega)
    have h2 := writtenL_len l[i]
    have h3 := hl _ (List.getElem_mem (l := l) (n := i) (by omega))
    rw [joinL_take (by omega), List.length_append]
    split
    · simp only [List.length_nil]; omega
    · simp only [List.length_append, List.length_cons, List.length_nil]; omega

/-! plain -/
theorem plain_step {l : Bs} {i : Nat} (h : i < l.length) : plainL (l.drop i) = (okc l[i] && plainL (l.drop (i + 1))) := by
  unfold plainL
  rw [drop_at h, List.all_cons]
theorem plain_loop {l : Bs} (hl : l.length < 4294967281) (d : Nat) : ∀ i : Nat, i + d = l.length → Ev (fun k => field_plain.l0 k (mkB l) ((mkB l).size : Int) (i : Int)) (plainL (l.drop i)) := by
  induction d with
  | zero =>
    intro i hi
    rw [List.drop_eq_nil_of_le (by omega)]
    exact ev_step (fun k => by simp only [field_plain.l0] <;> exact rfl) (ev_neg (by rw [size_mk]; omega) (ev_now _))
  | succ d ih =>
    intro i hi
    have h : i < l.length := by omega
    rw [plain_step h]
    refine ev_step (fun k => by simp only [field_plain.l0] <;> exact rfl) (ev_pos (by rw [size_mk]; omega) (ev_pos (by omega) (ev_pos (by rw [size_mk]; omega) ?_)))
    rw [bt_mk h]
    unfold okc
    by_cases h1 : (l[i].toNat : Int) < 32
    · rw [decide_eq_false (by omega)]; exact ev_pos h1 (ev_now _)
    · refine ev_neg h1 ?_
      rw [decide_eq_true (by omega)]
      by_cases h2 : (l[i].toNat : Int) > 126
      · rw [decide_eq_false (by omega)]; exact ev_pos h2 (ev_now _)
      · rw [decide_eq_true (by omega)]
        refine ev_neg h2 ?_
        rw [w64 (by omega) (by omega)]
        exact ih (i + 1) (by omega)
theorem plain_ev {l : Bs} (hl : l.length < 4294967281) : Ev (fun k => field_plain.f k (mkB l)) (plainL l) := plain_loop hl l.length 0 (by omega)
theorem rplain_loop {l : Bs} (hl : l.length < 4294967281) (d : Nat) : ∀ i : Nat, i + d = l.length → Ev (fun k => dancestudioref06_plain.l0 k (mkB l) (i : Int)) (plainL (l.drop i)) := by
  induction d with
  | zero =>
    intro i hi
    rw [List.drop_eq_nil_of_le (by omega)]
    exact ev_step (fun k => by simp only [dancestudioref06_plain.l0] <;> exact rfl) (ev_neg (by rw [size_mk]; omega) (ev_now _))
  | succ d ih =>
    intro i hi
    have h : i < l.length := by omega
    rw [plain_step h]
    refine ev_step (fun k => by simp only [dancestudioref06_plain.l0] <;> exact rfl) (ev_pos (by rw [size_mk]; omega) (ev_pos (by omega) ?_))
    rw [bt_mk h]
    unfold okc
    by_cases h1 : (l[i].toNat : Int) < 32
    · rw [decide_eq_false (by omega)]; exact ev_pos h1 (ev_now _)
    · refine ev_neg h1 ?_
      rw [decide_eq_true (by omega)]
      by_cases h2 : (l[i].toNat : Int) > 126
      · rw [decide_eq_false (by omega)]; exact ev_pos h2 (ev_now _)
      · rw [decide_eq_true (by omega)]
        refine ev_neg h2 ?_
        rw [w64 (by omega) (by omega)]
        exact ih (i + 1) (by omega)
theorem rplain_ev {l : Bs} (hl : l.length < 4294967281) : Ev (fun k => dancestudioref06_plain.f k (mkB l)) (plainL l) := rplain_loop hl l.length 0 (by omega)

/-! quoted, written -/
theorem quotedL_cons (c : UInt8) (l : Bs) : quotedL (c :: l) = (c == 39 || (c :: l).contains 32) := by
  unfold quotedL
  simp only [List.isEmpty_cons, List.head?_cons, Bool.false_or]
  rfl
theorem quoted_some {l : Bs} (hl : l.length < 4294967281) : field_quoted.f (mkB l) = some (quotedL l) := by
  unfold field_quoted.f
  cases l with
  | nil => rw [if_pos (mk_nil.2 rfl)]; rfl
  | cons c l =>
    rw [if_neg (by rw [mk_nil]; simp), if_pos (by rw [size_mk]; simp only [List.length_cons]; omega), quotedL_cons]
    have h0 := bt_nat (l := c :: l) (i := 0) (c := 39) (by simp)
    rw [show ((0 : Nat) : Int) = 0 from rfl, show ((39 : UInt8).toNat : Int) = 39 from rfl, List.getElem_cons_zero] at h0
    by_cases h : c = 39
    · rw [if_pos (h0.2 h), h]; rfl
    · rw [if_neg (fun e => h (h0.1 e))]
      have : (c == 39) = false := by simpa using h
      rw [this, Bool.false_or]
      unfold strings_Contains.f
      rw [if_pos (by rw [size_mk]; exact hl)]
      simp only [Option.bind_some]
      rw [show (mkB (c :: l)).data.toList = c :: l from rfl, contains_one]
theorem countB_bound (l : Bs) (hl : l.length < 4294967281) : (mkB l).size + Lib.countB (mkB l) ⟨#[39]⟩ * (⟨#[39, 39]⟩ : ByteArray).size ≤ 140737488355328 := by
  have h := Lib.countB_le ⟨#[39]⟩ (by decide) _ (mkB l) (Nat.le_refl _)
  rw [size_mk] at h ⊢
  rw [show (⟨#[39, 39]⟩ : ByteArray).size = 2 from rfl]
  omega
theorem written_some {l : Bs} (hl : l.length < 4294967281) : field_written.f (mkB l) = some (mkB (writtenL l)) := by
  unfold field_written.f
  rw [quoted_some hl]
  simp only [Option.bind_some]
  unfold writtenL
  by_cases h : quotedL l = true
  · rw [if_pos h, if_pos h]
    unfold strings_ReplaceAll.f
    rw [if_pos (by rw [size_mk]; exact hl), if_pos (by decide), if_pos (countB_bound l hl)]
    simp only [Option.bind_some]
    rw [show (mkB l).data.toList = l from rfl, replace_esc]
    have := esc_len l
    rw [show (⟨(esc l).toArray⟩ : ByteArray) = mkB (esc l) from rfl, show (⟨#[39]⟩ : ByteArray) = mkB [39] from rfl, mk_append, mk_append]
    rw [if_pos (by rw [size_mk]; omega), if_pos (by rw [size_mk]; simp only [List.length_append, List.length_cons, List.length_nil]; omega)]
    rfl
  · rw [if_neg h, if_neg h]
theorem rquoted_loop {l : Bs} (hl : l.length < 4294967281) (d : Nat) : ∀ i : Nat, i + d = l.length → Ev (fun k => dancestudioref06_quoted.l0 k (mkB l) (i : Int)) ((l.drop i).contains 32) := by
  induction d with
  | zero =>
    intro i hi
    rw [List.drop_eq_nil_of_le (by omega)]
    exact ev_step (fun k => by simp only [dancestudioref06_quoted.l0] <;> exact rfl) (ev_neg (by rw [size_mk]; omega) (ev_now _))
  | succ d ih =>
    intro i hi
    have h : i < l.length := by omega
    rw [drop_at h, List.contains_cons]
    refine ev_step (fun k => by simp only [dancestudioref06_quoted.l0] <;> exact rfl) (ev_pos (by rw [size_mk]; omega) (ev_pos (by omega) ?_))
    have hb := bt_nat (c := 32) h
    rw [show ((32 : UInt8).toNat : Int) = 32 from rfl] at hb
    by_cases h1 : l[i] = 32
    · rw [h1]; exact ev_pos (hb.2 h1) (ev_now _)
    · have : ((32 : UInt8) == l[i]) = false := by simpa using fun e => h1 e.symm
      rw [this, Bool.false_or]
      refine ev_neg (fun e => h1 (hb.1 e)) ?_
      rw [w64 (by omega) (by omega)]
      exact ih (i + 1) (by omega)
theorem rquoted_ev {l : Bs} (hl : l.length < 4294967281) : Ev (fun k => dancestudioref06_quoted.f k (mkB l)) (quotedL l) := by
  simp only [dancestudioref06_quoted.f]
  cases l with
  | nil => exact ev_pos (mk_nil.2 rfl) (ev_step (fun k => by simp only [dancestudioref06_quoted.j0] <;> exact rfl) (ev_pos (show true = true from rfl) (ev_now _)))
  | cons c l =>
    refine ev_neg (by rw [mk_nil]; simp) (ev_pos (by rw [size_mk]; simp only [List.length_cons]; omega) ?_)
    rw [quotedL_cons]
    have h0 := bt_nat (l := c :: l) (i := 0) (c := 39) (by simp)
    rw [show ((0 : Nat) : Int) = 0 from rfl, show ((39 : UInt8).toNat : Int) = 39 from rfl, List.getElem_cons_zero] at h0
    refine ev_step (fun k => by simp only [dancestudioref06_quoted.j0] <;> exact rfl) ?_
    by_cases h : c = 39
    · rw [h]; exact ev_pos (by rw [beq_iff_eq]; exact h ▸ h0.2 h) (ev_now _)
    · have : (c == 39) = false := by simpa using h
      rw [this, Bool.false_or]
      exact ev_neg (by rw [beq_iff_eq]; exact fun e => h (h0.1 e)) (rquoted_loop hl _ 0 (Nat.zero_add _))
theorem rwritten_loop {l : Bs} (hl : l.length < 4294967281) (d : Nat) : ∀ (i : Nat) (x : Bs), i + d = l.length → x.length ≤ 2 * i + 1 → Ev (fun k => dancestudioref06_written.l0 k (mkB l) (mkB x) (i : Int)) (mkB (x ++ esc (l.drop i) ++ [39])) := by
  induction d with
  | zero =>
    intro i x hi hx
    rw [List.drop_eq_nil_of_le (by omega), esc_nil, List.append_nil, ← mk_append]
    exact ev_step (fun k => by simp only [dancestudioref06_written.l0] <;> exact rfl) (ev_neg (by rw [size_mk]; omega) (ev_pos (by rw [size_mk]; omega) (ev_now _)))
  | succ d ih =>
    intro i x hi hx
    have h : i < l.length := by omega
    rw [drop_at h, esc_cons]
    refine ev_step (fun k => by simp only [dancestudioref06_written.l0] <;> exact rfl) (ev_pos (by rw [size_mk]; omega) (ev_pos (by omega) ?_))
    have hb := bt_nat (c := 39) h
    rw [show ((39 : UInt8).toNat : Int) = 39 from rfl] at hb
    rw [w64 (by omega) (by omega)]
    have hex : (mkB l).extract (i : Int).toNat ((i : Int) + 1).toNat = mkB [l[i]] := by
      rw [mk_extract, Int.toNat_natCast, show ((i : Int) + 1).toNat - i = 1 by omega, drop_at h]; rfl
    by_cases h1 : l[i] = 39
    · refine ev_pos (hb.2 h1) (ev_pos (by rw [size_mk]; omega) (ev_pos (by omega) (ev_pos (by rw [size_mk]; omega) ?_)))
      rw [hex, show (⟨#[39]⟩ : ByteArray) = mkB [39] from rfl, mk_append, mk_append]
      refine ev_pos (by rw [size_mk, size_mk]; simp only [List.length_append, List.length_cons, List.length_nil]; omega) ?_
      have := ih (i + 1) (x ++ [39] ++ [l[i]]) (by omega) (by simp only [List.length_append, List.length_cons, List.length_nil]; omega)
      rw [if_pos h1]
      rw [h1] at this ⊢
      simpa using this
    · refine ev_neg (fun e => h1 (hb.1 e)) (ev_pos (by omega) (ev_pos (by rw [size_mk]; omega) ?_))
      rw [hex, mk_append]
      refine ev_pos (by rw [size_mk, size_mk]; simp only [List.length_cons, List.length_nil]; omega) ?_
      have := ih (i + 1) (x ++ [l[i]]) (by omega) (by simp only [List.length_append, List.length_cons, List.length_nil]; omega)
      rw [if_neg h1]
      simpa using this
theorem rwritten_ev {l : Bs} (hl : l.length < 4294967281) : Ev (fun k => dancestudioref06_written.f k (mkB l)) (mkB (writtenL l)) := by
  simp only [dancestudioref06_written.f]
  refine Ev.bind (rquoted_ev hl) ?_
  unfold writtenL
  by_cases h : quotedL l = true
  · rw [if_pos h]
    exact ev_pos h (rwritten_loop hl _ 0 [39] (Nat.zero_add _) (by simp))
  · rw [if_neg h]
    exact ev_neg h (ev_now _)
end Go.Proofs.YtkcnfbhmjcbgoaaDoor.PAll
