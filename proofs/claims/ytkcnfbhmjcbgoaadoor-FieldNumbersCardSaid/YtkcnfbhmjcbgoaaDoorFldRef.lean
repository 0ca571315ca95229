/- The reference's Split answers splitV; the comparison of lists; few. -/
import Derived.Test.YtkcnfbhmjcbgoaaDoorPAllx0
import Derived.Test.YtkcnfbhmjcbgoaaDoorPAllf10
import Derived.Test.YtkcnfbhmjcbgoaaDoorPAllf15
import Derived.Test.YtkcnfbhmjcbgoaaDoorPAllf16
import Derived.Test.YtkcnfbhmjcbgoaaDoorPAllf31
import Derived.Test.YtkcnfbhmjcbgoaaDoorFldSplit
namespace Go.Proofs.YtkcnfbhmjcbgoaaDoor.PAll
set_option linter.unusedVariables false
open Go Go.RowKit Go.Proofs.YtkcnfbhmjcbgoaaDoorW.PrintWords Go.Proofs.YtkcnfbhmjcbgoaaDoorW.PrintLast Go.Proofs.YtkcnfbhmjcbgoaaDoorW.PrintMore Go.Proofs.YtkcnfbhmjcbgoaaDoor.MathNum Go.Proofs.YtkcnfbhmjcbgoaaDoor.EvWords

def takeV (l acc : Bs) (p : Option (Bs × Bs)) : ByteArray × Int := match p with
  | some (t, r) => (mkB (acc ++ t), ((l.length - r.length : Nat) : Int))
  | none => (mkB [], 0)
theorem take_map {l acc : Bs} {c : UInt8} (p : Option (Bs × Bs)) : takeV l (acc ++ [c]) p = takeV l acc (p.map fun q => (c :: q.1, q.2)) := by
  cases p with
  | none => rfl
  | some q => simp [takeV]
section
variable {l : Bs}
theorem take_l1 (hl : l.length ≤ 1024) : ∀ (n i : Nat) (acc : Bs), l.length - i ≤ n → i ≤ l.length → acc.length ≤ i →
    Ev (fun k => dancestudioref06_take.l1 k (mkB l) (mkB acc) (i : Int)) (takeV l acc (uq (l.drop i))) := by
  intro n
  induction n with
  | zero =>
    intro i acc h1 h2 h3
    rw [List.drop_eq_nil_of_le (by omega)]
    exact ev_step (fun k => by simp only [dancestudioref06_take.l1] <;> exact rfl) (ev_neg (by rw [size_mk]; omega) (ev_now _))
  | succ n ih =>
    intro i acc h1 h2 h3
    by_cases he : i = l.length
    · rw [List.drop_eq_nil_of_le (by omega)]
      exact ev_step (fun k => by simp only [dancestudioref06_take.l1] <;> exact rfl) (ev_neg (by rw [size_mk]; omega) (ev_now _))
    · have h : i < l.length := by omega
      refine ev_step (fun k => by simp only [dancestudioref06_take.l1] <;> exact rfl) (ev_pos (by rw [size_mk]; omega) (ev_pos (by omega) ?_))
      rw [w64 (n := (i : Int) + 1) (by omega) (by omega), w64 (n := (i : Int) + 1 + 1) (by omega) (by omega), drop_at h]
      by_cases hc : l[i] = 39
      · refine ev_pos ((bt39 h).2 hc) ?_
        rw [hc]
        by_cases hn : i + 1 < l.length
        · refine ev_pos (by rw [size_mk]; omega) (ev_pos (by omega) ?_)
          rw [show (i : Int) + 1 = ((i + 1 : Nat) : Int) by omega]
          by_cases hd : l[i + 1] = 39
          · refine ev_pos ((bt39 hn).2 hd) (ev_pos (by rw [size_mk]; omega) ?_)
            rw [drop_at hn, hd, uq_two, ← take_map, show (⟨#[39]⟩ : ByteArray) = mkB [39] from rfl, mk_append]
            exact ih (i + 2) (acc ++ [39]) (by omega) (by omega) (by simp only [List.length_append, List.length_cons, List.length_nil]; omega)
          · refine ev_neg (fun e => hd ((bt39 hn).1 e)) ?_
            rw [uq_end (by rw [drop_at hn]; exact fun e => hd (Option.some.inj e))]
            refine ev_eq (ev_now _) ?_
            unfold takeV
            simp only [List.append_nil, List.length_drop]
            rw [show l.length - (l.length - (i + 1)) = i + 1 by omega]
        · refine ev_neg (by rw [size_mk]; omega) ?_
          rw [List.drop_eq_nil_of_le (by omega), uq_end (by simp)]
          refine ev_eq (ev_now _) ?_
          unfold takeV
          simp only [List.append_nil, List.length_nil, Nat.sub_zero]
          rw [show (i : Int) + 1 = (l.length : Int) by omega]
      · have hex : (mkB l).extract (i : Int).toNat ((i : Int) + 1).toNat = mkB [l[i]] := by
          rw [mk_extract, Int.toNat_natCast, show ((i : Int) + 1).toNat - i = 1 by omega, drop_at h]; rfl
        refine ev_neg (fun e => hc ((bt39 h).1 e)) (ev_pos (by omega) (ev_pos (by rw [size_mk]; omega) ?_))
        rw [hex, mk_append]
        refine ev_pos (by rw [size_mk, size_mk]; simp only [List.length_cons, List.length_nil]; omega) ?_
        rw [uq_other hc, ← take_map]
        exact ih (i + 1) (acc ++ [l[i]]) (by omega) (by omega) (by simp only [List.length_append, List.length_cons, List.length_nil]; omega)
theorem take_l0 (hl : l.length ≤ 1024) (d : Nat) : ∀ j : Nat, j + d = l.length → (l.take j).contains 32 = false → Ev (fun k => dancestudioref06_take.l0 k (mkB l) (j : Int)) (mkB (word l), ((word l).length : Int)) := by
  have fin : ∀ j : Nat, j ≤ l.length → (l.take j).contains 32 = false → (l.drop j = [] ∨ (l.drop j).head? = some 32) → word l = l.take j ∧ (word l).length = j := by
    intro j hj hn hr
    have e : word l = l.take j := by
      have := word_app hn hr
      rwa [List.take_append_drop] at this
    refine ⟨e, ?_⟩
    rw [e, List.length_take]; omega
  have ex : ∀ j : Nat, (mkB l).extract 0 ((j : Nat) : Int).toNat = mkB (l.take j) := by
    intro j
    rw [mk_extract, Int.toNat_natCast]; rfl
  induction d with
  | zero =>
    intro j hj hn
    obtain ⟨e, el⟩ := fin j (by omega) hn (Or.inl (List.drop_eq_nil_of_le (by omega)))
    refine ev_step (fun k => by simp only [dancestudioref06_take.l0] <;> exact rfl) (ev_neg (by rw [size_mk]; omega) (ev_pos (by omega) (ev_pos (by rw [size_mk]; omega) ?_)))
    rw [ex, el, e]
    exact ev_now _
  | succ d ih =>
    intro j hj hn
    have h : j < l.length := by omega
    refine ev_step (fun k => by simp only [dancestudioref06_take.l0] <;> exact rfl) (ev_pos (by rw [size_mk]; omega) (ev_pos (by omega) ?_))
    by_cases h32 : l[j] = 32
    · obtain ⟨e, el⟩ := fin j (by omega) hn (Or.inr (by rw [drop_at h, h32]; rfl))
      refine ev_pos ((bt32 h).2 h32) (ev_pos (by rw [size_mk]; omega) ?_)
      rw [ex, el, e]
      exact ev_now _
    · refine ev_neg (fun e => h32 ((bt32 h).1 e)) ?_
      rw [w64 (by omega) (by omega)]
      refine ih (j + 1) (by omega) ?_
      rw [← List.take_append_getElem h, List.contains_append, hn, Bool.false_or]
      simpa using fun e => h32 e.symm
theorem take_ev (hl : l.length ≤ 1024) (h0 : l ≠ []) : Ev (fun k => dancestudioref06_take.f k (mkB l)) (takeV l [] (tok l)) := by
  simp only [dancestudioref06_take.f]
  refine ev_neg (fun e => h0 (mk_nil.1 e)) (ev_pos (by rw [size_mk]; have := List.length_pos_iff.2 h0; omega) ?_)
  have hp : 0 < l.length := List.length_pos_iff.2 h0
  have hh : l.head? = some l[0] := by cases l with | nil => exact absurd rfl h0 | cons c l => rfl
  have hb := bt39 hp
  rw [show ((0 : Nat) : Int) = 0 from rfl] at hb
  refine ev_step (fun k => by simp only [dancestudioref06_take.j0] <;> exact rfl) ?_
  unfold tok
  by_cases hc : l[0] = 39
  · rw [if_pos (by rw [hh, hc])]
    refine ev_neg (by rw [bne_iff_ne]; exact fun e => e (hb.2 hc)) ?_
    have := take_l1 hl l.length 1 [] (by omega) (by omega) (by simp)
    rw [List.drop_one] at this
    exact this
  · rw [if_neg (by rw [hh]; exact fun e => hc (Option.some.inj e))]
    refine ev_pos (by rw [bne_iff_ne]; exact fun e => hc (hb.1 e)) ?_
    refine ev_eq (take_l0 hl l.length 0 (by omega) (by simp)) ?_
    by_cases hw : word l = []
    · rw [if_pos hw, hw]; rfl
    · rw [if_neg hw]
      unfold takeV
      have := congrArg List.length (word_split l)
      rw [List.length_append] at this
      simp only [List.nil_append]
      rw [show l.length - (l.drop (word l).length).length = (word l).length by omega]
def finV (l : Bs) (gs : List Bs) : List ByteArray × Int := if joinB gs = (mkB l, 0) then (mks gs, 0) else ([], 2)
def refV (l : Bs) (out : List Bs) (p : Option (List Bs)) : List ByteArray × Int := match p with
  | some fs => finV l (out ++ fs)
  | none => ([], 2)
theorem rsplit_end (hl : l.length ≤ 1024) {out : List Bs} (ho : out.length ≤ 1024) (hs : ∀ x ∈ out, x.length ≤ 1024) : Ev (fun k => dancestudioref06_Split.l0 k (mkB l) (mks out) (mkB [])) (finV l out) := by
  refine ev_step (fun k => by simp only [dancestudioref06_Split.l0] <;> exact rfl) (ev_pos (mk_nil.2 rfl) (Ev.bind (rjoin_ev (l := out) (by omega) (fun x hx => by have := hs x hx; omega)) ?_))
  unfold finV
  by_cases h0 : (joinB out).2 = 0
  · refine ev_pos h0 ?_
    by_cases h1 : (joinB out).1.toList = (mkB l).toList
    · rw [if_pos (Prod.ext (by
        obtain ⟨s, hs⟩ := ex_mk (joinB out).1
        rw [hs, toList_mk, toList_mk] at h1
        rw [hs, h1]) h0)]
      exact ev_pos h1 (ev_now _)
    · have hne : ¬ joinB out = (mkB l, 0) := fun e => h1 (by rw [e])
      refine ev_neg h1 ?_
      rw [if_neg hne]
      exact ev_now _
  · have hne : ¬ joinB out = (mkB l, 0) := fun e => h0 (by rw [e])
    refine ev_neg h0 ?_
    rw [if_neg hne]
    exact ev_now _
theorem rsplit_loop (hl : l.length ≤ 1024) : ∀ (n : Nat) (rest : Bs) (out : List Bs), rest.length ≤ n → out.length + rest.length ≤ 1024 → (∀ x ∈ out, x.length ≤ 1024) →
    Ev (fun k => dancestudioref06_Split.l0 k (mkB l) (mks out) (mkB rest)) (refV l out (toks n rest)) := by
  intro n
  induction n with
  | zero =>
    intro rest out h1 h2 h3
    have e : rest = [] := List.eq_nil_of_length_eq_zero (by omega)
    subst e
    have := rsplit_end hl (out := out) (by omega) h3
    rw [toks, if_pos rfl]
    simpa [refV] using this
  | succ n ih =>
    intro rest out h1 h2 h3
    by_cases h0 : rest = []
    · subst h0
      have := rsplit_end hl (out := out) (by omega) h3
      rw [toks, if_pos rfl]
      simpa [refV] using this
    · rw [toks, if_neg h0]
      refine ev_step (fun k => by simp only [dancestudioref06_Split.l0] <;> exact rfl) (ev_neg (fun e => h0 (mk_nil.1 e)) (Ev.bind (take_ev (l := rest) (by omega) h0) ?_))
      cases ht : tok rest with
      | none => exact ev_pos rfl (ev_now _)
      | some p =>
        obtain ⟨t, r⟩ := p
        have hlen := tok_len ht
        have hdr : rest.drop (rest.length - r.length) = r := by
          unfold tok at ht
          by_cases hh : rest.head? = some 39
          · rw [if_pos hh] at ht
            have hs := (uq_spec _ _ (Nat.le_refl _) ht).1
            cases rest with
            | nil => cases hh
            | cons c rest =>
              rw [List.tail_cons] at hs
              have h4 : c :: rest = (c :: (esc t ++ [39])) ++ r := by rw [hs]; simp
              have h6 : ((c :: (esc t ++ [39])) ++ r).drop (c :: (esc t ++ [39])).length = r := List.drop_left
              have h7 := congrArg List.length h4
              rw [List.length_append] at h7
              have h5 : (c :: (esc t ++ [39])).length = (c :: rest).length - r.length := by omega
              rw [← h4, h5] at h6
              exact h6
          · rw [if_neg hh] at ht
            by_cases hw : word rest = []
            · rw [if_pos hw] at ht; cases ht
            · rw [if_neg hw] at ht
              obtain ⟨rfl, rfl⟩ := Prod.mk.inj (Option.some.inj ht)
              have h7 := congrArg List.length (word_split rest)
              rw [List.length_append] at h7
              rw [show rest.length - (rest.drop (word rest).length).length = (word rest).length by omega]
        have htv : takeV rest [] (some (t, r)) = (mkB t, ((rest.length - r.length : Nat) : Int)) := rfl
        rw [htv]
        have hex : (mkB rest).extract ((rest.length - r.length : Nat) : Int).toNat (mkB rest).size = mkB r := by
          rw [mk_extract, Int.toNat_natCast, hdr, size_mk, List.take_of_length_le (by omega)]
        dsimp only
        refine ev_neg (by omega) (ev_pos (by rw [mks_len]; omega) (ev_let ?_))
        refine ev_pos (by omega) (ev_pos (by rw [size_mk]; omega) ?_)
        rw [hex, mks_app]
        have go := ih r.tail (out ++ [t]) (by rw [List.length_tail]; omega) (by rw [List.length_append, List.length_tail, List.length_cons, List.length_nil]; omega) (fun x hx => by
          rcases List.mem_append.1 hx with hx | hx
          · exact h3 x hx
          · rw [List.mem_singleton.1 hx]; omega)
        have hrv : refV l (out ++ [t]) (toks n r.tail) = refV l out ((toks n r.tail).map (t :: ·)) := by
          cases toks n r.tail with
          | none => rfl
          | some fs => simp [refV]
        rw [hrv] at go
        by_cases hr : r = []
        · subst hr
          exact ev_pos (mk_nil.2 rfl) go
        · have hp := List.length_pos_iff.2 hr
          refine ev_neg (fun e => hr (mk_nil.1 e)) (ev_pos (by rw [size_mk]; omega) ?_)
          rw [mk_extract, size_mk, List.take_of_length_le (by rw [List.length_drop]; omega), List.drop_one]
          exact go
theorem rsplit_ev (l : Bs) : Ev (fun k => dancestudioref06_Split.f k (mkB l)) (splitB l) := by
  simp only [dancestudioref06_Split.f]
  by_cases h1 : 1024 < l.length
  · have : splitB l = ([], 3) := by unfold splitB splitV; rw [if_pos h1]; rfl
    rw [this]
    exact ev_pos (by rw [size_mk]; omega) (ev_now _)
  · refine ev_neg (by rw [size_mk]; omega) ?_
    refine ev_eq (rsplit_loop (l := l) (by omega) l.length l [] (Nat.le_refl _) (by simp; omega) (by simp)) ?_
    by_cases h0 : (splitV l).2 = 0
    · have hok : splitV l = ((splitV l).1, 0) := Prod.ext rfl h0
      obtain ⟨g1, g2, g3⟩ := splitV_ok.1 hok
      have ht := toks_of (splitV l).1 l.length (by rw [g2]; exact Nat.le_refl _)
      rw [g2] at ht
      rw [ht]
      show finV l ([] ++ (splitV l).1) = _
      unfold finV
      rw [List.nil_append, if_pos (joinB_ok.2 ⟨g1, g2, g3⟩)]
      unfold splitB
      rw [h0]
    · have hb := splitV_bad h0
      have h2 : (splitV l).2 = 2 := by
        unfold splitV at h0 ⊢
        rw [if_neg h1] at h0 ⊢
        by_cases hn : l = []
        · rw [if_pos hn] at h0; exact absurd rfl h0
        · rw [if_neg hn] at h0 ⊢
          cases hp : pars l.length l with
          | none => rfl
          | some fs => rw [hp] at h0; exact absurd rfl h0
      have hsp : splitB l = ([], 2) := by unfold splitB; rw [hb, h2]; rfl
      rw [hsp]
      cases toks l.length l with
      | none => rfl
      | some gs =>
        show finV l ([] ++ gs) = _
        unfold finV
        rw [List.nil_append, if_neg (fun e => h0 (by
          obtain ⟨a1, a2, a3⟩ := joinB_ok.1 e
          rw [splitV_ok.2 ⟨a1, a2, a3⟩]))]
end
/-! Comparison. -/
theorem same_loop {a : List ByteArray} (ha : a.length ≤ 4611686018427387904) (d : Nat) : ∀ i : Nat, i + d = a.length → Ev (fun k => dancestudioref06_Same.l0 k a a (i : Int)) true := by
  induction d with
  | zero =>
    intro i hi
    exact ev_step (fun k => by simp only [dancestudioref06_Same.l0] <;> exact rfl) (ev_neg (by omega) (ev_now _))
  | succ d ih =>
    intro i hi
    refine ev_step (fun k => by simp only [dancestudioref06_Same.l0] <;> exact rfl) (ev_pos (by omega) (ev_pos (by omega) (ev_pos (by omega) (ev_pos (show (rdOf ByteArray.empty a (i : Int)).toList = _ from rfl) ?_))))
    rw [w64 (by omega) (by omega)]
    exact ih (i + 1) (by omega)
theorem same_ev {a : List ByteArray} (ha : a.length ≤ 4611686018427387904) : Ev (fun k => dancestudioref06_Same.f k a a) true := by
  simp only [dancestudioref06_Same.f]
  exact ev_pos True.intro (same_loop ha a.length 0 (by omega))
theorem few_loop {l : List Bs} (hl : l.length ≤ 4611686018427387904) (d : Nat) : ∀ i : Nat, i + d = l.length → (∀ r (h : r < l.length), r < i → l[r].length ≤ 300) → ∃ b, Ev (fun k => dancestudiolaw06_few.l0 k (mks l) (i : Int)) b ∧ (b = true → l.length ≤ 16 ∧ ∀ x ∈ l, x.length ≤ 300) := by
  have stop : ∀ i : Nat, i = l.length ∨ 16 ≤ i → i ≤ l.length → (∀ r (h : r < l.length), r < i → l[r].length ≤ 300) → ∃ b, Ev (fun k => dancestudiolaw06_few.j1 k (mks l) (i : Int) false) b ∧ (b = true → l.length ≤ 16 ∧ ∀ x ∈ l, x.length ≤ 300) := by
    intro i hi hi2 g
    refine ⟨_, ev_step (fun k => by simp only [dancestudiolaw06_few.j1] <;> exact rfl) (ev_neg (by simp) (ev_now _)), fun hb => ?_⟩
    have h16 : l.length ≤ 16 := by rw [mks_len] at hb; have := of_decide_eq_true hb; omega
    refine ⟨h16, fun x hx => ?_⟩
    obtain ⟨r, hr, rfl⟩ := List.mem_iff_getElem.1 hx
    exact g r hr (by omega)
  induction d with
  | zero =>
    intro i hi g
    obtain ⟨b, h1, h2⟩ := stop i (Or.inl (by omega)) (by omega) g
    exact ⟨b, ev_step (fun k => by simp only [dancestudiolaw06_few.l0] <;> exact rfl) (ev_neg (by rw [mks_len]; omega) h1), h2⟩
  | succ d ih =>
    intro i hi g
    have h : i < l.length := by omega
    by_cases h16 : (i : Int) < 16
    · by_cases hs : 300 < l[i].length
      · refine ⟨false, ev_step (fun k => by simp only [dancestudiolaw06_few.l0] <;> exact rfl) (ev_pos (by rw [mks_len]; omega) ?_), by simp⟩
        rw [decide_eq_true h16]
        refine ev_step (fun k => by simp only [dancestudiolaw06_few.j1] <;> exact rfl) (ev_pos (show true = true from rfl) (ev_pos (by omega) (ev_pos (by rw [mks_len]; omega) ?_)))
        rw [rd_mks h, size_mk]
        exact ev_pos (by omega) (ev_now _)
      · obtain ⟨b, h1, h2⟩ := ih (i + 1) (by omega) (fun r hr hlt => by
          by_cases e : r = i
          · subst e; omega
          · exact g r hr (by omega))
        refine ⟨b, ev_step (fun k => by simp only [dancestudiolaw06_few.l0] <;> exact rfl) (ev_pos (by rw [mks_len]; omega) ?_), h2⟩
        rw [decide_eq_true h16]
        refine ev_step (fun k => by simp only [dancestudiolaw06_few.j1] <;> exact rfl) (ev_pos (show true = true from rfl) (ev_pos (by omega) (ev_pos (by rw [mks_len]; omega) ?_)))
        rw [rd_mks h, size_mk, w64 (by omega) (by omega)]
        exact ev_neg (by omega) h1
    · obtain ⟨b, h1, h2⟩ := stop i (Or.inr (by omega)) (by omega) g
      refine ⟨b, ev_step (fun k => by simp only [dancestudiolaw06_few.l0] <;> exact rfl) (ev_pos (by rw [mks_len]; omega) ?_), h2⟩
      rw [decide_eq_false h16]
      exact h1
theorem few_ev {l : List Bs} (hl : l.length ≤ 4611686018427387904) : ∃ b, Ev (fun k => dancestudiolaw06_few.f k (mks l)) b ∧ (b = true → l.length ≤ 16 ∧ ∀ x ∈ l, x.length ≤ 300) := few_loop hl l.length 0 (by omega) (fun r h hlt => by omega)
end Go.Proofs.YtkcnfbhmjcbgoaaDoor.PAll
