/- The reference reads a text as its parts are read. -/
import Derived.Test.YtimikhbnihedkaaDoorZLngSuf
import Derived.Test.YtimikhbnihedkaaDoorZPAllf20
namespace Go.Proofs.YtimikhbnihedkaaDoor.PAll
set_option linter.unusedVariables false
set_option linter.unusedSectionVars false
set_option linter.unusedSimpArgs false
open Go Go.RowKit Go.Proofs.YtimikhbnihedkaaDoorW.PrintWords Go.Proofs.YtimikhbnihedkaaDoorW.PrintLast Go.Proofs.YtimikhbnihedkaaDoorW.PrintMore Go.Proofs.YtimikhbnihedkaaDoor.MathNum Go.Proofs.YtimikhbnihedkaaDoor.EvWords

theorem rsmall_ev (c : UInt8) : dancestudioref35_small.f (c.toNat : Int) = some (isL c) := by
  unfold dancestudioref35_small.f isL
  by_cases h : (c.toNat : Int) ≥ 97
  · rw [if_pos h]; simp [h]
  · rw [if_neg h]
    have : ¬ (97 ≤ (c.toNat : Int)) := h
    simp [this]
theorem rdig_ev (c : UInt8) : dancestudioref35_digit.f (c.toNat : Int) = some (isD c) := by
  unfold dancestudioref35_digit.f isD
  by_cases h : (c.toNat : Int) ≥ 48
  · rw [if_pos h]; simp [h]
  · rw [if_neg h]
    have : ¬ (48 ≤ (c.toNat : Int)) := h
    simp [this]
section
variable (l : Bs) (hl : l.length ≤ 100000)
include hl
theorem parts_l1 {acc : List ByteArray} (hacc : acc.length ≤ 100000) {i : Nat} {c : UInt8} (hc : bt (mkB l) (i : Int) = (c.toNat : Int)) (h32 : c ≠ 32) (hi : i < l.length) {v : List ByteArray × Bool} (d : Nat) : ∀ n : Nat, i + n + d = l.length →
    Ev (fun k => dancestudioref35_parts.l0 k (mkB l) (acc ++ [mkB ((l.drop i).take (n + ((l.drop (i + n)).takeWhile isW).length))]) ((i + n + ((l.drop (i + n)).takeWhile isW).length : Nat) : Int)) v → Ev (fun k => dancestudioref35_parts.l1 k (mkB l) acc (i : Int) (n : Int)) v := by
  have fin : ∀ n : Nat, i + n ≤ l.length → Ev (fun k => dancestudioref35_parts.l0 k (mkB l) (acc ++ [mkB ((l.drop i).take n)]) ((i + n : Nat) : Int)) v →
      Ev (fun k => if (0 : Int) ≤ (i : Int) then (if (i : Int) < ((mkB l).size : Int) then (if bt (mkB l) (i : Int) = 32 then dancestudioref35_parts.l0 k (mkB l) acc ((i + n : Nat) : Int) else (if (i : Int) ≤ ((i + n : Nat) : Int) then (if ((i + n : Nat) : Int) ≤ ((mkB l).size : Int) then (if acc.length < 8796093022208 then dancestudioref35_parts.l0 k (mkB l) (acc ++ [(mkB l).extract (i : Int).toNat ((i + n : Nat) : Int).toNat]) ((i + n : Nat) : Int) else none) else none) else none)) else none) else none) v := by
    intro n hn e
    have hs : ((mkB l).size : Int) = (l.length : Int) := by rw [size_mk]
    refine ev_pos (by omega) (ev_pos (by rw [hs]; omega) (ev_neg (by rw [hc]; exact fun q => h32 ((u8_eq (n := 32) (by decide)).1 q)) (ev_pos (by omega) (ev_pos (by rw [hs]; omega) (ev_pos (by omega) ?_)))))
    rw [Int.toNat_natCast, Int.toNat_natCast, mk_extract, show i + n - i = n by omega]; exact e
  have hs : ((mkB l).size : Int) = (l.length : Int) := by rw [size_mk]
  induction d with
  | zero =>
    intro n hn e
    rw [List.drop_eq_nil_of_le (show l.length ≤ i + n by omega)] at e
    refine ev_step (fun k => by simp only [dancestudioref35_parts.l1] <;> exact rfl) ?_
    rw [w64 (n := (i : Int) + (n : Int)) (by omega) (by omega), show (i : Int) + (n : Int) = ((i + n : Nat) : Int) by omega]
    refine ev_neg (by rw [hs]; omega) (fin n (by omega) e)
  | succ d ih =>
    intro n hn e
    have hlt : i + n < l.length := by omega
    have hd : l.drop (i + n) = l[i + n] :: l.drop (i + n + 1) := List.drop_eq_getElem_cons hlt
    obtain ⟨_, hb, _⟩ := drop_lt l hd
    refine ev_step (fun k => by simp only [dancestudioref35_parts.l1] <;> exact rfl) ?_
    rw [w64 (n := (i : Int) + (n : Int)) (by omega) (by omega), show (i : Int) + (n : Int) = ((i + n : Nat) : Int) by omega, w64 (n := (n : Int) + 1) (by omega) (by omega), show (n : Int) + 1 = ((n + 1 : Nat) : Int) by omega, hb, rsmall_ev, rdig_ev]
    simp only [Option.bind_some]
    refine ev_pos (by rw [hs]; omega) (ev_pos (by omega) ?_)
    have more : isW l[i + n] = true → Ev (fun k => dancestudioref35_parts.l1 k (mkB l) acc (i : Int) ((n + 1 : Nat) : Int)) v := fun hw => by
      refine ih (n + 1) (by omega) ?_
      rw [hd, List.takeWhile_cons_of_pos hw, List.length_cons] at e
      rw [show i + (n + 1) = i + n + 1 by omega, show n + 1 + ((l.drop (i + n + 1)).takeWhile isW).length = n + (((l.drop (i + n + 1)).takeWhile isW).length + 1) by omega,
        show i + n + 1 + ((l.drop (i + n + 1)).takeWhile isW).length = i + n + (((l.drop (i + n + 1)).takeWhile isW).length + 1) by omega]
      exact e
    by_cases hL : isL l[i + n] = true
    · exact ev_pos hL (more (by unfold isW; rw [hL]; rfl))
    refine ev_neg hL ?_
    by_cases hD : isD l[i + n] = true
    · exact ev_pos hD (more (by unfold isW; rw [hD]; simp))
    refine ev_neg hD ?_
    by_cases h45 : (l[i + n].toNat : Int) = 45
    · exact ev_pos h45 (more (by unfold isW; rw [decide_eq_true h45]; simp))
    · refine ev_neg h45 ?_
      have hw : ¬ isW l[i + n] = true := by unfold isW; rw [decide_eq_false h45]; simp [hL, hD]
      rw [hd, List.takeWhile_cons_of_neg hw] at e
      exact fin n (by omega) e
theorem parts_l2 {acc : List ByteArray} (hacc : acc.length ≤ 100000) {i : Nat} {c : UInt8} (hc : bt (mkB l) (i : Int) = (c.toNat : Int)) (h32 : c ≠ 32) (hi : i < l.length) {v : List ByteArray × Bool} (d : Nat) : ∀ n : Nat, i + n + d = l.length →
    Ev (fun k => dancestudioref35_parts.l0 k (mkB l) (acc ++ [mkB ((l.drop i).take (n + ((l.drop (i + n)).takeWhile isW).length))]) ((i + n + ((l.drop (i + n)).takeWhile isW).length : Nat) : Int)) v → Ev (fun k => dancestudioref35_parts.l2 k (mkB l) acc (i : Int) (n : Int)) v := by
  have fin : ∀ n : Nat, i + n ≤ l.length → Ev (fun k => dancestudioref35_parts.l0 k (mkB l) (acc ++ [mkB ((l.drop i).take n)]) ((i + n : Nat) : Int)) v →
      Ev (fun k => if (0 : Int) ≤ (i : Int) then (if (i : Int) < ((mkB l).size : Int) then (if bt (mkB l) (i : Int) = 32 then dancestudioref35_parts.l0 k (mkB l) acc ((i + n : Nat) : Int) else (if (i : Int) ≤ ((i + n : Nat) : Int) then (if ((i + n : Nat) : Int) ≤ ((mkB l).size : Int) then (if acc.length < 8796093022208 then dancestudioref35_parts.l0 k (mkB l) (acc ++ [(mkB l).extract (i : Int).toNat ((i + n : Nat) : Int).toNat]) ((i + n : Nat) : Int) else none) else none) else none)) else none) else none) v := by
    intro n hn e
    have hs : ((mkB l).size : Int) = (l.length : Int) := by rw [size_mk]
    refine ev_pos (by omega) (ev_pos (by rw [hs]; omega) (ev_neg (by rw [hc]; exact fun q => h32 ((u8_eq (n := 32) (by decide)).1 q)) (ev_pos (by omega) (ev_pos (by rw [hs]; omega) (ev_pos (by omega) ?_)))))
    rw [Int.toNat_natCast, Int.toNat_natCast, mk_extract, show i + n - i = n by omega]; exact e
  have hs : ((mkB l).size : Int) = (l.length : Int) := by rw [size_mk]
  induction d with
  | zero =>
    intro n hn e
    rw [List.drop_eq_nil_of_le (show l.length ≤ i + n by omega)] at e
    refine ev_step (fun k => by simp only [dancestudioref35_parts.l2] <;> exact rfl) ?_
    rw [w64 (n := (i : Int) + (n : Int)) (by omega) (by omega), show (i : Int) + (n : Int) = ((i + n : Nat) : Int) by omega]
    refine ev_neg (by rw [hs]; omega) (fin n (by omega) e)
  | succ d ih =>
    intro n hn e
    have hlt : i + n < l.length := by omega
    have hd : l.drop (i + n) = l[i + n] :: l.drop (i + n + 1) := List.drop_eq_getElem_cons hlt
    obtain ⟨_, hb, _⟩ := drop_lt l hd
    refine ev_step (fun k => by simp only [dancestudioref35_parts.l2] <;> exact rfl) ?_
    rw [w64 (n := (i : Int) + (n : Int)) (by omega) (by omega), show (i : Int) + (n : Int) = ((i + n : Nat) : Int) by omega, w64 (n := (n : Int) + 1) (by omega) (by omega), show (n : Int) + 1 = ((n + 1 : Nat) : Int) by omega, hb, rsmall_ev, rdig_ev]
    simp only [Option.bind_some]
    refine ev_pos (by rw [hs]; omega) (ev_pos (by omega) ?_)
    have more : isW l[i + n] = true → Ev (fun k => dancestudioref35_parts.l2 k (mkB l) acc (i : Int) ((n + 1 : Nat) : Int)) v := fun hw => by
      refine ih (n + 1) (by omega) ?_
      rw [hd, List.takeWhile_cons_of_pos hw, List.length_cons] at e
      rw [show i + (n + 1) = i + n + 1 by omega, show n + 1 + ((l.drop (i + n + 1)).takeWhile isW).length = n + (((l.drop (i + n + 1)).takeWhile isW).length + 1) by omega,
        show i + n + 1 + ((l.drop (i + n + 1)).takeWhile isW).length = i + n + (((l.drop (i + n + 1)).takeWhile isW).length + 1) by omega]
      exact e
    by_cases hL : isL l[i + n] = true
    · exact ev_pos hL (more (by unfold isW; rw [hL]; rfl))
    refine ev_neg hL ?_
    by_cases hD : isD l[i + n] = true
    · exact ev_pos hD (more (by unfold isW; rw [hD]; simp))
    refine ev_neg hD ?_
    by_cases h45 : (l[i + n].toNat : Int) = 45
    · exact ev_pos h45 (more (by unfold isW; rw [decide_eq_true h45]; simp))
    · refine ev_neg h45 ?_
      have hw : ¬ isW l[i + n] = true := by unfold isW; rw [decide_eq_false h45]; simp [hL, hD]
      rw [hd, List.takeWhile_cons_of_neg hw] at e
      exact fin n (by omega) e
theorem parts_l0 : ∀ (d : Nat) (i : Nat) (acc : List Bs), i + d = l.length → acc.length ≤ i → Ev (fun k => dancestudioref35_parts.l0 k (mkB l) (acc.map mkB) (i : Int)) (if [] ∈ toks (l.drop i) then ([], false) else ((acc ++ toks (l.drop i)).map mkB, true)) := by
  intro d
  induction d using Nat.strongRecOn with
  | ind d ih =>
    intro i acc hi ha
    have hs : ((mkB l).size : Int) = (l.length : Int) := by rw [size_mk]
    by_cases hlt : i < l.length
    · have hd : l.drop i = l[i] :: l.drop (i + 1) := List.drop_eq_getElem_cons hlt
      obtain ⟨_, hb, _⟩ := drop_lt l hd
      generalize hc : l[i] = c at hd hb
      generalize hr : l.drop (i + 1) = r at hd
      refine ev_step (fun k => by simp only [dancestudioref35_parts.l0] <;> exact rfl) (ev_pos (by rw [hs]; omega) (ev_pos (by omega) ?_))
      rw [hb, rsmall_ev, rdig_ev]
      simp only [Option.bind_some]
      have hal : (acc.map mkB).length ≤ 100000 := by rw [List.length_map]; omega
      have htw : (r.takeWhile isW).length ≤ r.length := (List.takeWhile_sublist _).length_le
      have hrl : r.length + (i + 1) = l.length := by rw [← hr, List.length_drop]; omega
      have o1 : l.length - (i + 1) < d := by omega
      have o2 : i + 1 + (l.length - (i + 1)) = l.length := by omega
      have o3 : acc.length + 1 ≤ i + 1 := by omega
      have o4 : acc.length ≤ i + 1 := by omega
      have h0i : (0 : Int) ≤ (i : Int) := by omega
      have hsi : (i : Int) < ((mkB l).size : Int) := by rw [hs]; omega
      have hii : (i : Int) ≤ ((i + 1 : Nat) : Int) := by omega
      have his : ((i + 1 : Nat) : Int) ≤ ((mkB l).size : Int) := by rw [hs]; omega
      have hal2 : (acc.map mkB).length < 8796093022208 := by omega
      have h1i : i + 1 - i = 1 := by omega
      -- a word or a number
      have wrd : (isL c = true ∨ isD c = true) → Ev (fun k => dancestudioref35_parts.l0 k (mkB l) (acc.map mkB ++ [mkB ((l.drop i).take (1 + ((l.drop (i + 1)).takeWhile isW).length))]) ((i + 1 + ((l.drop (i + 1)).takeWhile isW).length : Nat) : Int)) (if [] ∈ toks (l.drop i) then ([], false) else ((acc ++ toks (l.drop i)).map mkB, true)) := by
        intro hLD
        have h32 : c ≠ 32 := by rcases hLD with q | q <;> (intro e; subst e; revert q; decide)
        rw [hr]
        have e1 : (l.drop i).take (1 + (r.takeWhile isW).length) = c :: r.takeWhile isW := by rw [hd, Nat.add_comm, List.take_succ_cons, (take_tw r).1]
        have e2 : l.drop (i + 1 + (r.takeWhile isW).length) = r.dropWhile isW := by rw [← List.drop_drop, hr]; exact (take_tw r).2
        have e3 : toks (l.drop i) = (c :: r.takeWhile isW) :: toks (r.dropWhile isW) := by rw [hd]; exact toks_word (sp_cons h32 r) hLD
        have := ih (l.length - (i + 1 + (r.takeWhile isW).length)) (by omega) (i + 1 + (r.takeWhile isW).length) (acc ++ [c :: r.takeWhile isW]) (by omega) (by rw [List.length_append, List.length_singleton]; omega)
        rw [e2] at this
        rw [e1, e3]
        have em : (([] : Bs) ∈ (c :: r.takeWhile isW) :: toks (r.dropWhile isW)) ↔ [] ∈ toks (r.dropWhile isW) := by simp
        simp only [em]
        rw [show acc.map mkB ++ [mkB (c :: r.takeWhile isW)] = (acc ++ [c :: r.takeWhile isW]).map mkB by simp, show acc ++ (c :: r.takeWhile isW) :: toks (r.dropWhile isW) = acc ++ [c :: r.takeWhile isW] ++ toks (r.dropWhile isW) by simp]
        exact this
      by_cases hL : isL c = true
      · refine ev_pos hL ?_
        have h32 : c ≠ 32 := by intro e; subst e; revert hL; decide
        exact parts_l1 l hl hal hb h32 hlt (l.length - (i + 1)) 1 (by omega) (wrd (.inl hL))
      refine ev_neg hL ?_
      by_cases hD : isD c = true
      · refine ev_pos hD ?_
        have h32 : c ≠ 32 := by intro e; subst e; revert hD; decide
        exact parts_l2 l hl hal hb h32 hlt (l.length - (i + 1)) 1 (by omega) (wrd (.inr hD))
      refine ev_neg hD ?_
      have w1 : wrap64 ((i : Int) + 1) = ((i + 1 : Nat) : Int) := by rw [w64 (by omega) (by omega)]; omega
      have hno : ¬ (isL c = true ∨ isD c = true) := fun q => q.elim hL hD
      have mark : (c = 40 ∨ c = 41 ∨ c = 44) → ∀ b : Bool, b = false → Ev (fun k => dancestudioref35_parts.j3 k (mkB l) (acc.map mkB) (i : Int) 1 b) (if [] ∈ toks (l.drop i) then ([], false) else ((acc ++ toks (l.drop i)).map mkB, true)) := by
        intro hm b hbf
        have h32 : c ≠ 32 := by rcases hm with q | q | q <;> (rw [q]; decide)
        have e3 : toks (l.drop i) = [c] :: toks r := by rw [hd]; exact toks_mark (sp_cons h32 r) hm
        have := ih (l.length - (i + 1)) o1 (i + 1) (acc ++ [[c]]) o2 (by rw [List.length_append, List.length_singleton]; exact o3)
        rw [hr] at this
        refine ev_step (fun k => by simp only [dancestudioref35_parts.j3] <;> exact rfl) (ev_neg (by rw [hbf]; decide) (ev_pos h0i (ev_pos hsi (ev_neg (by rw [hb]; exact fun q => h32 ((u8_eq (n := 32) (by decide)).1 q)) ?_))))
        rw [w1, Int.toNat_natCast, Int.toNat_natCast]
        refine ev_pos hii (ev_pos his (ev_pos hal2 ?_))
        rw [mk_extract, h1i, e3]
        have e1 : (l.drop i).take 1 = [c] := by rw [hd]; rfl
        have em : (([] : Bs) ∈ [c] :: toks r) ↔ [] ∈ toks r := by simp
        simp only [em]
        rw [e1, show acc.map mkB ++ [mkB [c]] = (acc ++ [[c]]).map mkB by simp, show acc ++ [c] :: toks r = acc ++ [[c]] ++ toks r by simp]
        exact this
      by_cases c32 : c = 32
      · subst c32
        refine ev_pos (by decide) ?_
        have e3 : toks (l.drop i) = toks r := by rw [hd, ← toks_sp, sp_cons32, toks_sp]
        have := ih (l.length - (i + 1)) o1 (i + 1) acc o2 o4
        rw [hr, ← e3] at this
        refine ev_step (fun k => by simp only [dancestudioref35_parts.j3] <;> exact rfl) (ev_neg (by decide) (ev_pos h0i (ev_pos hsi (ev_pos (by rw [hb]; decide) ?_))))
        rw [w1]; exact this
      refine ev_neg (fun q => c32 ((u8_eq (n := 32) (by decide)).1 q)) ?_
      by_cases c40 : c = 40
      · exact ev_pos (by rw [c40]; decide) (mark (.inl c40) false rfl)
      refine ev_neg (fun q => c40 ((u8_eq (n := 40) (by decide)).1 q)) ?_
      by_cases c41 : c = 41
      · exact ev_pos (by rw [c41]; decide) (mark (.inr (.inl c41)) false rfl)
      refine ev_neg (fun q => c41 ((u8_eq (n := 41) (by decide)).1 q)) ?_
      by_cases c44 : c = 44
      · exact mark (.inr (.inr c44)) _ (by rw [c44]; decide)
      · have hne : ((c.toNat : Int) != 44) = true := by simpa using fun q => c44 ((u8_eq (n := 44) (by decide)).1 q)
        have e3 : toks (l.drop i) = [[]] := by rw [hd, toks_cons (sp_cons c32 r), if_neg hno, if_neg (fun q => by rcases q with q | q | q; exact c40 q; exact c41 q; exact c44 q)]
        rw [hne, e3]
        exact ev_step (fun k => by simp only [dancestudioref35_parts.j3] <;> exact rfl) (ev_pos (by first | trivial | rfl) (ev_eq (ev_now _) (by simp)))
    · have hd : l.drop i = [] := List.drop_eq_nil_of_le (by omega)
      rw [hd, toks_nil rfl]
      exact ev_step (fun k => by simp only [dancestudioref35_parts.l0] <;> exact rfl) (ev_neg (by rw [hs]; omega) (ev_eq (ev_now _) (by simp)))
end
theorem parts_ev (l : Bs) (hl : l.length ≤ 100000) : Ev (fun k => dancestudioref35_parts.f k (mkB l)) (if [] ∈ toks l then ([], false) else ((toks l).map mkB, true)) := by
  have := parts_l0 l hl l.length 0 [] (by omega) (by simp)
  rw [List.drop_zero] at this
  exact this
/-! ### the tree -/
theorem ris_ev (ts : List Bs) (m : Bs) : dancestudioref35_is.f (ts.map mkB) (mkB m) = some (decide (ts.head? = some m)) := by
  unfold dancestudioref35_is.f
  cases ts with
  | nil => rfl
  | cons t ts =>
    have h0 : (((t :: ts).map mkB).length : Int) > 0 := by simp only [List.map_cons, List.length_cons]; omega
    rw [if_pos h0, if_pos h0]
    have e : rdOf ByteArray.empty ((t :: ts).map mkB) 0 = mkB t := rfl
    rw [e, toList_mk, toList_mk]
    simp only [List.head?_cons, Option.some.injEq]
    rw [Bool.eq_iff_iff]; simp
theorem op_wd : opI (wd 2) = 2 ∧ opI (wd 3) = 3 ∧ opI (wd 4) = 4 ∧ opI (wd 5) = 5 ∧ opI (wd 6) = 6 ∧ opI (wd 7) = 7 := by decide
theorem rop_ev (t : Bs) : Ev (fun k => dancestudioref35_op.f k (mkB t)) (opI t) := by
  unfold dancestudioref35_op.f
  have tl : ∀ b : Bs, (mkB b).toList = b := toList_mk
  have step : ∀ o : Int, 2 ≤ o → o ≤ 7 → (wd o = t → opI t = o) → (wd o ≠ t → Ev (fun k => dancestudioref35_op.l0 k (mkB t) (o + 1)) (opI t)) → Ev (fun k => dancestudioref35_op.l0 k (mkB t) o) (opI t) := by
    intro o h2 h7 hy hn
    refine ev_step (fun k => by simp only [dancestudioref35_op.l0] <;> exact rfl) (ev_pos h7 ?_)
    rw [rword_ev]; simp only [Option.bind_some]
    rw [tl, tl]
    refine ev_ite (fun h => ev_eq (ev_now _) (hy h).symm) (fun h => ?_)
    rw [w64 (by omega) (by omega)]; exact hn h
  refine step 2 (by decide) (by decide) (fun h => h ▸ op_wd.1) (fun n2 => ?_)
  refine step 3 (by decide) (by decide) (fun h => h ▸ op_wd.2.1) (fun n3 => ?_)
  refine step 4 (by decide) (by decide) (fun h => h ▸ op_wd.2.2.1) (fun n4 => ?_)
  refine step 5 (by decide) (by decide) (fun h => h ▸ op_wd.2.2.2.1) (fun n5 => ?_)
  refine step 6 (by decide) (by decide) (fun h => h ▸ op_wd.2.2.2.2.1) (fun n6 => ?_)
  refine step 7 (by decide) (by decide) (fun h => h ▸ op_wd.2.2.2.2.2) (fun n7 => ?_)
  have e : opI t = 0 := by unfold opI; rw [if_neg n7, if_neg n6, if_neg n5, if_neg n4, if_neg n3, if_neg n2]
  rw [e]
  exact ev_step (fun k => by simp only [dancestudioref35_op.l0] <;> exact rfl) (ev_neg (by decide) (ev_now _))
theorem opI_range (t : Bs) : opI t = 0 ∨ (2 ≤ opI t ∧ opI t ≤ 7) := by
  unfold opI
  (repeat' split) <;> omega
theorem isD_range {c : UInt8} (h : isD c = true) : 48 ≤ (c.toNat : Int) ∧ (c.toNat : Int) ≤ 57 := of_decide_eq_true h
theorem rnum_ev (t : Bs) : Ev (fun k => dancestudioref35_number.f k (mkB t)) (if numT t = true then (numV t, true) else (0, false)) := by
  unfold dancestudioref35_number.f
  have hs : ((mkB t).size : Int) = (t.length : Int) := by rw [size_mk]
  have no : ¬ ((mkB t).size : Int) = 2 → Ev (fun k => dancestudioref35_number.j0 k (mkB t) false) (0, false) := fun h =>
    ev_step (fun k => by simp only [dancestudioref35_number.j0] <;> exact rfl) (ev_neg (by simp) (ev_neg h (ev_now _)))
  match t, hs, no with
  | [], hs, no =>
    exact ev_neg (by rw [hs]; simp) (ev_eq (no (by rw [hs]; simp)) (by rw [if_neg (by decide)]))
  | [c], hs, no =>
    have hb : bt (mkB [c]) 0 = (c.toNat : Int) := rfl
    refine ev_pos (by rw [hs]; simp) (ev_pos (by rw [hs]; simp) ?_)
    rw [hb, rdig_ev]; simp only [Option.bind_some]
    have e : numT [c] = isD c := by simp [numT, numOk]
    rw [e]
    by_cases hD : isD c = true
    · have hr := isD_range hD
      rw [if_pos hD, hD]
      refine ev_step (fun k => by simp only [dancestudioref35_number.j0] <;> exact rfl) (ev_pos (by first | trivial | rfl) (ev_pos (by rw [hs]; simp) (ev_eq (ev_now _) ?_)))
      rw [hb]
      show (((c.toNat : Int) - 48) % 256, true) = ((c.toNat : Int) - 48, true)
      congr 1; omega
    · rw [if_neg hD, show isD c = false by simpa using hD]
      exact no (by rw [hs]; simp)
  | [c, d], hs, no =>
    have hb : bt (mkB [c, d]) 0 = (c.toNat : Int) := rfl
    have hb1 : bt (mkB [c, d]) 1 = (d.toNat : Int) := rfl
    refine ev_neg (by rw [hs]; simp) (ev_step (fun k => by simp only [dancestudioref35_number.j0] <;> exact rfl) (ev_neg (by simp) (ev_pos (by rw [hs]; simp) (ev_pos (by rw [hs]; simp) ?_))))
    rw [hb, hb1, rdig_ev, rdig_ev]; simp only [Option.bind_some]
    have e : numT [c, d] = (!(decide (c = 48)) && (isD c && isD d)) := by simp [numT, numOk]
    rw [e]
    by_cases hD : isD c = true
    · refine ev_pos hD (ev_pos (by rw [hs]; simp) ?_)
      by_cases hD2 : isD d = true
      · refine ev_pos hD2 ?_
        have hr := isD_range hD
        have hr2 := isD_range hD2
        by_cases c48 : c = 48
        · have hcnd : ¬ (!(decide (c = 48)) && (isD c && isD d)) = true := by simp [c48]
          rw [if_neg hcnd]
          exact ev_pos (by rw [c48]; decide) (ev_now _)
        · have hcnd : (!(decide (c = 48)) && (isD c && isD d)) = true := by simp [c48, hD, hD2]
          rw [if_pos hcnd]
          refine ev_neg (fun q => c48 ((u8_eq (n := 48) (by decide)).1 q)) (ev_eq (ev_now _) ?_)
          show (10 * (((c.toNat : Int) - 48) % 256) + ((d.toNat : Int) - 48) % 256, true) = (10 * ((c.toNat : Int) - 48) + ((d.toNat : Int) - 48), true)
          congr 1; omega
      · have hcnd : ¬ (!(decide (c = 48)) && (isD c && isD d)) = true := by simp [hD2]
        rw [if_neg hcnd]
        exact ev_neg hD2 (ev_now _)
    · have hcnd : ¬ (!(decide (c = 48)) && (isD c && isD d)) = true := by simp [hD]
      rw [if_neg hcnd]
      exact ev_neg hD (ev_now _)
  | c :: d :: e :: m, hs, no =>
    have hz : numT (c :: d :: e :: m) = false := by simp [numT, numOk]
    rw [if_neg (by rw [hz]; decide)]
    exact ev_neg (by rw [hs]; simp only [List.length_cons]; omega) (no (by rw [hs]; simp only [List.length_cons]; omega))
theorem rnumbered_ev {op : Int} (h : op ≤ 7) : dancestudioref35_numbered.f op = some (decide (op ≥ 5)) := by
  unfold dancestudioref35_numbered.f
  by_cases a5 : op = 5
  · rw [if_pos a5]; simp [a5]
  rw [if_neg a5]
  by_cases a6 : op = 6
  · rw [if_pos a6]; simp [a6]
  rw [if_neg a6]
  congr 1
  by_cases a7 : op = 7
  · simp [a7]
  · have : ¬ op ≥ 5 := by omega
    simp [this, a7]
abbrev noT : List S43 × List ByteArray × Bool := ([], [], false)
/-- The end of a node. -/
theorem rj2_ev {op : Int} (h7 : op ≤ 7) (cnt : Int) (F : List S43) (ts : List Bs) :
    Ev (fun k => dancestudioref35_tree.j2 k ((⟨op, noB, 0, cnt⟩ : S43) :: F) (ts.map mkB) op noB 0 0) (match clN op ts with | some z => ((⟨op, noB, z.1, cnt⟩ : S43) :: F, z.2.map mkB, true) | none => noT) := by
  have hlen : ((ts.map mkB).length : Int) = (ts.length : Int) := by rw [List.length_map]
  have b41 : (⟨#[41]⟩ : ByteArray) = mkB [41] := rfl
  refine ev_step (fun k => by simp only [dancestudioref35_tree.j2] <;> exact rfl) ?_
  rw [rnumbered_ev h7, b41, ris_ev]; simp only [Option.bind_some]
  have j3f : Ev (fun k => dancestudioref35_tree.j3 k ((⟨op, noB, 0, cnt⟩ : S43) :: F) (ts.map mkB) true) noT := ev_step (fun k => by simp only [dancestudioref35_tree.j3] <;> exact rfl) (ev_pos (by first | trivial | rfl) (ev_now _))
  by_cases h5 : op ≥ 5
  · refine ev_pos (decide_eq_true h5) ?_
    match ts, hlen, j3f with
    | [], hlen, j3f =>
      rw [show clN op [] = none by unfold clN; rw [if_pos h5]]
      exact ev_pos (by rw [hlen]; simp) j3f
    | [m], hlen, j3f =>
      rw [show clN op [m] = none by unfold clN; rw [if_pos h5]]
      exact ev_pos (by rw [hlen]; simp) j3f
    | m :: t :: r, hlen, j3f =>
      refine ev_neg (by rw [hlen]; simp only [List.length_cons]; omega) (ev_pos (by rw [hlen]; simp only [List.length_cons]; omega) ?_)
      have e0 : rdOf ByteArray.empty ((m :: t :: r).map mkB) 0 = mkB m := rfl
      have e1 : rdOf ByteArray.empty ((m :: t :: r).map mkB) 1 = mkB t := rfl
      have e2 : ((m :: t :: r).map mkB).drop 2 = r.map mkB := rfl
      rw [e0, toList_mk]
      by_cases hm : m = [44]
      · subst hm
        refine ev_step (fun k => by simp only [dancestudioref35_tree.j3] <;> exact rfl) (ev_neg (by decide) (ev_pos (by rw [hlen]; simp only [List.length_cons]; omega) ?_))
        rw [e1, e2]
        refine Ev.bind (rnum_ev t) ?_
        by_cases hn : numT t = true
        · rw [if_pos hn]
          refine ev_pos (show true = true from rfl) (ev_pos (by simp only [List.length_cons]; omega) (ev_pos (by rw [hlen]; simp only [List.length_cons]; omega) ?_))
          rw [b41]
          simp only [Option.bind_some, ris_ev]
          by_cases h41 : r.head? = some [41]
          · have hr1 : 1 ≤ r.length := by cases r with | nil => cases h41 | cons _ _ => simp
            rw [show clN op ([44] :: t :: r) = some (numV t, r.tail) by unfold clN; rw [if_pos h5]; simp [hn, h41]]
            refine ev_pos (decide_eq_true h41) (ev_pos (by rw [List.length_map]; omega) (ev_eq (ev_now _) ?_))
            show ((⟨op, noB, numV t, cnt⟩ : S43) :: F, (r.map mkB).drop 1, true) = _
            rw [show (r.map mkB).drop 1 = r.tail.map mkB by cases r <;> rfl]
          · rw [show clN op ([44] :: t :: r) = none by unfold clN; rw [if_pos h5]; simp [hn, h41]]
            exact ev_neg (by rw [decide_eq_true_iff]; exact h41) (ev_now _)
        · rw [show clN op ([44] :: t :: r) = none by unfold clN; rw [if_pos h5]; simp [hn], if_neg hn]
          exact ev_neg (by decide) (ev_now _)
      · have hb : (m != [44]) = true := by simpa using hm
        rw [hb, show clN op (m :: t :: r) = none by unfold clN; rw [if_pos h5]; simp [hm]]
        exact j3f
  · refine ev_neg (by rw [decide_eq_true_iff]; exact h5) ?_
    rw [show clN op ts = if ts.head? = some [41] then some (0, ts.tail) else none by unfold clN; rw [if_neg h5]]
    by_cases h41 : ts.head? = some [41]
    · have hr1 : 1 ≤ ts.length := by cases ts with | nil => cases h41 | cons _ _ => simp
      rw [if_pos h41]
      refine ev_pos (decide_eq_true h41) (ev_pos (by rw [List.length_map]; omega) (ev_eq (ev_now _) ?_))
      rw [show (ts.map mkB).drop 1 = ts.tail.map mkB by cases ts <;> rfl]
    · rw [if_neg h41]
      exact ev_neg (by rw [decide_eq_true_iff]; exact h41) (ev_now _)
def resT (n : Nat) (ts : List Bs) : List S43 × List ByteArray × Bool := match pT n ts with
  | some x => (x.1.1 :: x.1.2.flat, x.2.map mkB, true)
  | none => noT
def resL (n : Nat) (op cnt : Int) (F : List S43) (ts : List Bs) : List S43 × List ByteArray × Bool := match resA n op ts with
  | some u => ((⟨op, noB, u.2.1, cnt + (u.1.count : Int)⟩ : S43) :: (F ++ u.1.flat), u.2.2.map mkB, true)
  | none => noT
theorem tree_main (n : Nat) : (∀ ts : List Bs, [] ∉ ts → 2 * ts.length + 1 ≤ n → ts.length ≤ 2000 → Ev (fun k => dancestudioref35_tree.f k (ts.map mkB)) (resT n ts)) ∧
    (∀ (op cnt : Int) (F : List S43) (ts : List Bs), 2 ≤ op → op ≤ 7 → [] ∉ ts → 2 * ts.length + 2 ≤ n → 0 ≤ cnt → cnt + ts.length ≤ 4000 → F.length + ts.length ≤ 4000 → ts.length ≤ 2000 → Ev (fun k => dancestudioref35_tree.l0 k ((⟨op, noB, 0, cnt⟩ : S43) :: F) (ts.map mkB) op noB 0 0) (resL n op cnt F ts)) := by
  induction n with
  | zero => exact ⟨fun ts _ h => by omega, fun op cnt F ts _ _ _ h => by omega⟩
  | succ n ih =>
    constructor
    · intro ts he hn h2k
      have jt : Ev (fun k => dancestudioref35_tree.j0 k (ts.map mkB) true) noT := ev_step (fun k => by simp only [dancestudioref35_tree.j0] <;> exact rfl) (ev_pos (by first | trivial | rfl) (ev_now _))
      cases ts with
      | nil => exact ev_step (fun k => by simp only [dancestudioref35_tree.f] <;> exact rfl) (ev_pos (by rfl) (ev_eq jt (by unfold resT; simp [pT])))
      | cons t ts =>
        have hlen : (((t :: ts).map mkB).length : Int) = (ts.length : Int) + 1 := by simp
        have e0 : rdOf ByteArray.empty ((t :: ts).map mkB) 0 = mkB t := rfl
        have ed1 : ((t :: ts).map mkB).drop 1 = ts.map mkB := rfl
        have ed2 : ((t :: ts).map mkB).drop 2 = ts.tail.map mkB := by cases ts <;> rfl
        cases t with
        | nil => exact absurd (by simp) he
        | cons c t' =>
          have hb : bt (mkB (c :: t')) 0 = (c.toNat : Int) := rfl
          refine ev_step (fun k => by simp only [dancestudioref35_tree.f] <;> exact rfl) (ev_neg (by rw [hlen]; omega) (ev_pos (by rw [hlen]; omega) ?_))
          rw [e0]
          refine ev_pos (by rw [size_mk]; simp only [List.length_cons]; omega) ?_
          rw [hb, rsmall_ev]; simp only [Option.bind_some]
          have ehd : hd1 (c :: t') = isL c := rfl
          unfold resT
          simp only [pT]
          rw [ehd]
          by_cases hL : isL c = true
          · rw [if_pos hL, hL]
            refine ev_step (fun k => by simp only [dancestudioref35_tree.j0] <;> exact rfl) (ev_neg (by decide) (ev_pos (by rw [hlen]; omega) ?_))
            have b40 : (⟨#[40]⟩ : ByteArray) = mkB [40] := rfl
            rw [ed1, e0, ed2, b40, ris_ev]; simp only [Option.bind_some]
            by_cases h40 : ts.head? = some [40]
            · rw [if_pos h40]
              refine ev_pos (decide_eq_true h40) (ev_pos (by rw [hlen]; omega) (Ev.bind (rop_ev _) ?_))
              by_cases h0 : opI (c :: t') = 0
              · rw [if_pos h0]; exact ev_pos h0 (ev_now _)
              · rw [if_neg h0]
                have hne : 1 ≤ ts.length := by cases ts with | nil => cases h40 | cons _ _ => simp
                simp only [List.length_cons] at hn h2k
                refine ev_neg h0 (ev_pos (by rw [hlen]; omega) ?_)
                have hop := (opI_range (c :: t')).resolve_left h0
                have := ih.2 (opI (c :: t')) 0 [] ts.tail hop.1 hop.2 (fun q => he (List.mem_cons_of_mem _ (List.mem_of_mem_tail q))) (by rw [List.length_tail]; omega) (by decide) (by rw [List.length_tail]; omega) (by simp only [List.length_nil, List.length_tail]; omega) (by rw [List.length_tail]; omega)
                refine ev_eq this ?_
                unfold resL resA
                cases pA n (opI (c :: t')) ts.tail with
                | none => rfl
                | some x =>
                  simp only [Option.bind_some]
                  cases clN (opI (c :: t')) x.2 with
                  | none => rfl
                  | some y => simp
            · rw [if_neg h40]
              exact ev_neg (by rw [decide_eq_true_iff]; exact h40) (ev_pos (by rw [hlen]; omega) (ev_now _))
          · rw [if_neg hL, show isL c = false by simpa using hL]
            exact jt
    · intro op cnt F ts h2 h7 he hn hc0 hcn hfn h2k
      have hT := ih.1 ts he (by omega) (by omega)
      unfold resT at hT
      refine ev_step (fun k => by simp only [dancestudioref35_tree.l0] <;> exact rfl) (Ev.bind hT ?_)
      cases hp : pT n ts with
      | none =>
        have hr : resA (n + 1) op ts = none := by unfold resA; simp only [pA, hp, Option.bind_none]
        unfold resL
        rw [hr]
        exact ev_neg (by decide) (ev_now _)
      | some x =>
        obtain ⟨b1, b2, b3⟩ := (pT_len n).1 _ _ hp
        have el : (((⟨op, noB, 0, cnt⟩ : S43) :: F).length + (x.1.1 :: x.1.2.flat).length) < 3518437208883 := by simp only [List.length_cons]; omega
        refine ev_pos (show true = true from rfl) (ev_pos el ?_)
        simp only [Option.bind_some]
        have ea : ((⟨op, noB, 0, cnt⟩ : S43) :: F) ++ (x.1.1 :: x.1.2.flat) = (⟨op, noB, 0, cnt⟩ : S43) :: (F ++ (x.1.1 :: x.1.2.flat)) := rfl
        rw [ea]
        have er : ∀ M : List S43, rd_T43 ((⟨op, noB, 0, cnt⟩ : S43) :: M) 0 = ⟨op, noB, 0, cnt⟩ := fun M => rfl
        have es : ∀ M : List S43, ((⟨op, noB, 0, cnt⟩ : S43) :: M).set (0 : Int).toNat ⟨op, noB, 0, cnt + 1⟩ = (⟨op, noB, 0, cnt + 1⟩ : S43) :: M := fun M => rfl
        rw [er]
        have ew : wrap64 (cnt + 1) = cnt + 1 := w64 (by omega) (by omega)
        refine ev_pos (by simp only [List.length_cons]; omega) ?_
        simp only [ew, es]
        have b44 : (⟨#[44]⟩ : ByteArray) = mkB [44] := rfl
        rw [b44, ris_ev]; simp only [Option.bind_some]
        unfold resL resA
        simp only [pA, hp, Option.bind_some]
        -- the end of the node
        have fin : ¬ (op = 2 ∧ x.2.head? = some [44]) → Ev (fun k => dancestudioref35_tree.j2 k ((⟨op, noB, 0, cnt + 1⟩ : S43) :: (F ++ (x.1.1 :: x.1.2.flat))) (x.2.map mkB) op noB 0 0) (match (if op = 2 ∧ x.2.head? = some [44] then (pA n op x.2.tail).bind fun y => some (Fo.cons x.1.1 x.1.2 y.1, y.2) else some (Fo.cons x.1.1 x.1.2 .nil, x.2)).bind (fun y => (clN op y.2).bind fun z => some (y.1, z)) with
            | some u => ((⟨op, noB, u.2.1, cnt + (u.1.count : Int)⟩ : S43) :: (F ++ u.1.flat), u.2.2.map mkB, true)
            | none => noT) := by
          intro hc
          rw [if_neg hc]
          refine ev_eq (rj2_ev h7 (cnt + 1) _ x.2) ?_
          simp only [Option.bind_some]
          cases clN op x.2 with
          | none => rfl
          | some z => simp [Fo.flat, Fo.count]
        by_cases ho : op = 2
        · refine ev_pos ho ?_
          by_cases h44 : x.2.head? = some [44]
          · rw [if_pos ⟨ho, h44⟩]
            have hne : 1 ≤ x.2.length := by
              cases hx2 : x.2 with
              | nil => rw [hx2] at h44; cases h44
              | cons _ _ => simp
            refine ev_pos (decide_eq_true h44) (ev_pos (by rw [List.length_map]; omega) ?_)
            rw [show (x.2.map mkB).drop 1 = x.2.tail.map mkB by cases x.2 <;> rfl]
            have hsub : [] ∉ x.2.tail := fun q => pT_sub n ts x hp he (List.mem_of_mem_tail q)
            have := ih.2 op (cnt + 1) (F ++ (x.1.1 :: x.1.2.flat)) x.2.tail h2 h7 hsub (by rw [List.length_tail]; omega) (by omega) (by rw [List.length_tail]; omega) (by simp only [List.length_append, List.length_cons, List.length_tail]; omega) (by rw [List.length_tail]; omega)
            refine ev_eq this ?_
            unfold resL resA
            cases pA n op x.2.tail with
            | none => rfl
            | some y =>
              simp only [Option.bind_some]
              cases clN op y.2 with
              | none => rfl
              | some z => simp [Fo.flat, Fo.count]; omega
          · exact ev_neg (by rw [decide_eq_true_iff]; exact h44) (fin (fun q => h44 q.2))
        · exact ev_neg ho (fin (fun q => ho q.1))
theorem rparse_ev (l : Bs) : Ev (fun k => dancestudioref35_Parse.f k (mkB l)) (parseV l) := by
  unfold dancestudioref35_Parse.f parseV
  have hs : ((mkB l).size : Int) = (l.length : Int) := by rw [size_mk]
  rw [hs]
  refine ev_ite (fun h => ev_eq (ev_now _) (by rw [if_pos (by omega)])) (fun h => ?_)
  rw [if_neg (by omega)]
  have hl : l.length ≤ 1024 := by omega
  have htl := toks_len _ l (Nat.le_refl _)
  refine Ev.bind (parts_ev l (by omega)) ?_
  by_cases he : [] ∈ toks l
  · rw [if_pos he]
    have hr : readV l = ([], 2) := by
      unfold readV pAll
      cases hp : pT (2 * (toks l).length + 1) (toks l) with
      | none => rfl
      | some x =>
        obtain ⟨p, hp2, hpe⟩ := (pT_suf _).1 _ _ hp
        have : x.2 ≠ [] := fun q => by rw [q, List.append_nil] at hp2; exact hpe (by rw [← hp2]; exact he)
        simp only [if_neg this]
    rw [hr]
    exact ev_neg (by decide) (ev_eq (ev_now _) (by rw [if_neg (show ¬ (2 : Int) = 0 by decide)]))
  · rw [if_neg he]
    refine ev_pos (show true = true from rfl) ?_
    have ht := (tree_main (2 * (toks l).length + 1)).1 (toks l) he (Nat.le_refl _) (by omega)
    unfold resT at ht
    refine Ev.bind ht ?_
    have bad : ∀ e : List S43, Ev (fun k => dancestudioref35_Parse.j0 k e true) ([], 2) := fun e => ev_step (fun k => by simp only [dancestudioref35_Parse.j0] <;> exact rfl) (ev_pos (by first | trivial | rfl) (ev_now _))
    unfold readV pAll
    cases hp : pT (2 * (toks l).length + 1) (toks l) with
    | none => exact ev_neg (by decide) (ev_eq (bad _) (by rw [if_neg (show ¬ (2 : Int) = 0 by decide)]))
    | some x =>
      refine ev_pos (show true = true from rfl) ?_
      by_cases hx : x.2 = []
      · simp only [hx, if_true]
        refine ev_step (fun k => by simp only [dancestudioref35_Parse.j0] <;> exact rfl) (ev_neg (by simp) (Ev.bind (rchk_ev _) ?_))
        exact ev_ite (fun h3 => ev_eq (ev_now _) (by rw [if_pos h3])) (fun h3 => ev_eq (ev_now _) (by rw [if_neg h3]))
      · have hpos : 1 ≤ x.2.length := by cases hx2 : x.2 with | nil => exact absurd hx2 hx | cons _ _ => simp
        rw [show decide (((x.2.map mkB).length : Int) > 0) = true from decide_eq_true (by rw [List.length_map]; omega)]
        refine ev_eq (bad _) ?_
        simp only [if_neg hx]
        rw [if_neg (show ¬ (2 : Int) = 0 by decide)]
theorem readV_len (l : Bs) : (readV l).1.length ≤ (toks l).length := by
  unfold readV pAll
  cases hp : pT (2 * (toks l).length + 1) (toks l) with
  | none => simp
  | some x =>
    obtain ⟨b1, _, _⟩ := (pT_len _).1 _ _ hp
    by_cases hx : x.2 = []
    · simp only [hx, if_true, List.length_cons]; omega
    · simp only [if_neg hx, List.length_nil]; omega
theorem parseV_len (l : Bs) : (parseV l).1.length ≤ 5000 := by
  unfold parseV
  have h1 := readV_len l
  have h2 := toks_len _ l (Nat.le_refl _)
  (repeat' split) <;> first | (simp only [List.length_nil]; omega) | (show (readV l).1.length ≤ 5000; omega)
end Go.Proofs.YtimikhbnihedkaaDoor.PAll
