/- Texts and parts: what is printed is read again, and what is read is printed as it was. -/
import Derived.Test.YtimikhbnihedkaaDoorLngSuf
namespace Go.Proofs.YtimikhbnihedkaaDoor.PAll
set_option linter.unusedVariables false
set_option linter.unusedSectionVars false
set_option linter.unusedSimpArgs false
open Go Go.RowKit Go.Proofs.YtimikhbnihedkaaDoorW.PrintWords Go.Proofs.YtimikhbnihedkaaDoorW.PrintLast Go.Proofs.YtimikhbnihedkaaDoorW.PrintMore Go.Proofs.YtimikhbnihedkaaDoor.MathNum Go.Proofs.YtimikhbnihedkaaDoor.EvWords

def jt : List (List Bs) → List Bs
  | [] => []
  | [x] => x
  | x :: y :: l => x ++ [44] :: jt (y :: l)
def numK (s : S43) : List Bs := if s.f0 ≥ 5 then [[44], dg s.f2] else []
def tokN (s : S43) (L : List (List Bs)) : List Bs := if s.f0 = 1 then [s.f1.data.toList] else wd s.f0 :: [40] :: (jt L ++ (numK s ++ [[41]]))
def Fo.tokL : Fo → List (List Bs)
  | .nil => []
  | .cons s k r => tokN s k.tokL :: r.tokL
theorem jt_cons {x : List Bs} {l : List (List Bs)} (h : l ≠ []) : jt (x :: l) = x ++ [44] :: jt l := by
  cases l with
  | nil => exact absurd rfl h
  | cons y l => rfl
/-! ### words and numbers as parts -/
theorem wd_word {op : Int} (h2 : 2 ≤ op) (h7 : op ≤ 7) : ∃ c r, wd op = c :: r ∧ isL c = true ∧ r.all isW = true := by
  have : op = 2 ∨ op = 3 ∨ op = 4 ∨ op = 5 ∨ op = 6 ∨ op = 7 := by omega
  rcases this with rfl | rfl | rfl | rfl | rfl | rfl
  · exact ⟨115, [101, 113], rfl, by decide, by decide⟩
  · exact ⟨109, [105, 114, 114, 111, 114], rfl, by decide, by decide⟩
  · exact ⟨114, [101, 116, 114, 111], rfl, by decide, by decide⟩
  · exact ⟨114, [111, 116, 97, 116, 101], rfl, by decide, by decide⟩
  · exact ⟨115, [116, 114, 101, 116, 99, 104], rfl, by decide, by decide⟩
  · exact ⟨114, [101, 112, 101, 97, 116], rfl, by decide, by decide⟩
theorem opI_wd {op : Int} (h2 : 2 ≤ op) (h7 : op ≤ 7) : opI (wd op) = op := by
  have : op = 2 ∨ op = 3 ∨ op = 4 ∨ op = 5 ∨ op = 6 ∨ op = 7 := by omega
  rcases this with rfl | rfl | rfl | rfl | rfl | rfl <;> decide
theorem wd_opI {t : Bs} (h : opI t ≠ 0) : wd (opI t) = t := by
  unfold opI at h ⊢
  by_cases h7 : wd 7 = t
  · rw [if_pos h7]; exact h7
  rw [if_neg h7] at h ⊢
  by_cases h6 : wd 6 = t
  · rw [if_pos h6]; exact h6
  rw [if_neg h6] at h ⊢
  by_cases h5 : wd 5 = t
  · rw [if_pos h5]; exact h5
  rw [if_neg h5] at h ⊢
  by_cases h4 : wd 4 = t
  · rw [if_pos h4]; exact h4
  rw [if_neg h4] at h ⊢
  by_cases h3 : wd 3 = t
  · rw [if_pos h3]; exact h3
  rw [if_neg h3] at h ⊢
  by_cases h2 : wd 2 = t
  · rw [if_pos h2]; exact h2
  · rw [if_neg h2] at h; exact absurd rfl h
theorem opI_range' (t : Bs) : opI t = 0 ∨ (2 ≤ opI t ∧ opI t ≤ 7) := by
  unfold opI
  (repeat' split) <;> omega
theorem dg_num : ∀ n : Nat, n < 17 → numT (dg (n : Int)) = true ∧ numV (dg (n : Int)) = (n : Int) ∧ (dg (n : Int)).all isW = true ∧ ∃ c r, dg (n : Int) = c :: r ∧ isD c = true ∧ r.all isW = true := by
  intro n hn
  have : n = 0 ∨ n = 1 ∨ n = 2 ∨ n = 3 ∨ n = 4 ∨ n = 5 ∨ n = 6 ∨ n = 7 ∨ n = 8 ∨ n = 9 ∨ n = 10 ∨ n = 11 ∨ n = 12 ∨ n = 13 ∨ n = 14 ∨ n = 15 ∨ n = 16 := by omega
  rcases this with rfl | rfl | rfl | rfl | rfl | rfl | rfl | rfl | rfl | rfl | rfl | rfl | rfl | rfl | rfl | rfl | rfl <;> exact ⟨by decide, by decide, by decide, _, _, rfl, by decide, by decide⟩
theorem num_dg {t : Bs} (h : numT t = true) (h0 : 0 ≤ numV t) (h16 : numV t ≤ 16) : dg (numV t) = t := by
  have rng : ∀ c : UInt8, isD c = true → 48 ≤ (c.toNat : Int) ∧ (c.toNat : Int) ≤ 57 := fun c h => of_decide_eq_true h
  have back : ∀ (c : UInt8) (m : Nat), m < 256 → m = c.toNat → UInt8.ofNat m = c := fun c m _ e => by rw [e, UInt8.ofNat_toNat]
  match t, h, h0, h16 with
  | [c], h, h0, h16 =>
    have hd : isD c = true := by simpa [numT, numOk] using h
    have r := rng c hd
    have e : numV [c] = (c.toNat : Int) - 48 := rfl
    rw [e]
    unfold dg
    rw [if_pos (by omega), back c _ (by omega) (by omega)]
  | [c, d], h, h0, h16 =>
    have hd : c ≠ 48 ∧ isD c = true ∧ isD d = true := by simpa [numT, numOk] using h
    have r := rng c hd.2.1
    have r2 := rng d hd.2.2
    have c48 : ¬ (c.toNat : Int) = 48 := fun q => hd.1 ((u8_eq (n := 48) (by decide)).1 q)
    have e : numV [c, d] = 10 * ((c.toNat : Int) - 48) + ((d.toNat : Int) - 48) := rfl
    rw [e] at h16 ⊢
    unfold dg
    rw [if_neg (by omega), back d _ (by omega) (by omega)]
    have : c = 49 := (u8_eq (n := 49) (by decide)).1 (by omega)
    rw [this]
theorem name_word {b : ByteArray} (h : nameB b = true) : ∃ c r, b.data.toList = c :: r ∧ isL c = true ∧ r.all isW = true := by
  obtain ⟨n1, n2, n3, n4⟩ := (nameB_iff b).1 h
  generalize b.data.toList = l at n1 n2 n3 n4
  cases l with
  | nil => simp at n1
  | cons c r =>
    have hb : ∀ j, (hj : j < (c :: r).length) → bt (mkB (c :: r)) (j : Int) = (((c :: r)[j]).toNat : Int) := fun j hj => bt_mk hj
    refine ⟨c, r, rfl, ?_, ?_⟩
    · have := hb 0 (by simp)
      rw [this] at n3
      exact decide_eq_true n3
    · rw [List.all_eq_true]
      intro x hx
      obtain ⟨i, hi, rfl⟩ := List.getElem_of_mem hx
      have h1 := (n4 (i + 1) (by simp only [List.length_cons]; omega)).1
      have e : (c :: r)[i + 1]'(by simp only [List.length_cons]; omega) = r[i] := rfl
      rw [hb (i + 1) (by simp only [List.length_cons]; omega), e] at h1
      unfold okc at h1
      unfold isW isL isD
      rcases h1 with q | q | q
      · rw [decide_eq_true q]; rfl
      · rw [decide_eq_true q]; simp
      · rw [decide_eq_true q]; simp
/-! ### what is printed, read -/
def noW (b : Bs) : Prop := ∀ c r, b = c :: r → isW c = false
theorem tw_app : ∀ {r b : Bs}, r.all isW = true → noW b → (r ++ b).takeWhile isW = r ∧ (r ++ b).dropWhile isW = b
  | [], b, _, hb => by
    cases b with
    | nil => exact ⟨rfl, rfl⟩
    | cons c m =>
      have := hb c m rfl
      rw [List.nil_append, List.takeWhile_cons_of_neg (by rw [this]; decide), List.dropWhile_cons_of_neg (by rw [this]; decide)]
      exact ⟨rfl, rfl⟩
  | x :: r, b, h, hb => by
    rw [List.all_cons, Bool.and_eq_true] at h
    obtain ⟨i1, i2⟩ := tw_app h.2 hb
    rw [List.cons_append, List.takeWhile_cons_of_pos h.1, List.dropWhile_cons_of_pos h.1, i1, i2]
    exact ⟨rfl, rfl⟩
theorem toks_wordapp {c : UInt8} {r b : Bs} (hc : isL c = true ∨ isD c = true) (hr : r.all isW = true) (hb : noW b) : toks (c :: r ++ b) = (c :: r) :: toks b := by
  obtain ⟨i1, i2⟩ := tw_app hr hb
  have h32 : c ≠ 32 := by rcases hc with q | q <;> (intro e; subst e; revert q; decide)
  have := toks_word (b := c :: (r ++ b)) (sp_cons h32 _) hc
  rw [i1, i2] at this
  exact this
theorem toks_sep (b : Bs) : toks (sepB ++ b) = [44] :: toks b := by
  have h1 : toks (44 :: 32 :: b) = [44] :: toks (32 :: b) := toks_mark (sp_cons (by decide) _) (.inr (.inr rfl))
  have h2 : toks (32 :: b) = toks b := by rw [← toks_sp, sp_cons32, toks_sp]
  show toks (44 :: 32 :: b) = _
  rw [h1, h2]
theorem noW_sep (b : Bs) : noW (sepB ++ b) := by
  intro c r h
  injection h with h _
  subst h; decide
theorem noW_cl (b : Bs) : noW ([41] ++ b) := by
  intro c r h
  injection h with h _
  subst h; decide
theorem noW_nil : noW [] := fun c r h => by cases h
theorem toks_inner {s : S43} (h0 : 0 ≤ s.f2) (h16 : s.f2 ≤ 16) (tail : Bs) : ∀ (T : List Bs) (L : List (List Bs)), All2 (fun t k => ∀ b, noW b → toks (t ++ b) = k ++ toks b) T L → T ≠ [] →
    toks (jn (inner s T) ++ ([41] ++ tail)) = jt L ++ (numK s ++ [[41]] ++ toks tail) := by
  have hcl : toks ([41] ++ tail) = [41] :: toks tail := toks_mark (sp_cons (by decide) _) (.inr (.inl rfl))
  -- the number and the bracket
  have hnum : ∀ b, b = (if s.f0 ≥ 5 then sepB ++ dg s.f2 else []) ++ ([41] ++ tail) → toks b = numK s ++ [[41]] ++ toks tail ∧ noW b := by
    intro b hb
    unfold numK
    by_cases h5 : s.f0 ≥ 5
    · rw [if_pos h5] at hb ⊢
      obtain ⟨m, hm⟩ := Int.eq_ofNat_of_zero_le h0
      obtain ⟨_, _, _, c, r, e1, e2, e3⟩ := dg_num m (by omega)
      rw [hb, List.append_assoc, toks_sep, hm]
      have : toks (dg (m : Int) ++ ([41] ++ tail)) = dg (m : Int) :: toks ([41] ++ tail) := by
        rw [e1]; exact toks_wordapp (.inr e2) e3 (noW_cl tail)
      have hm' : ((Int.ofNat m) : Int) = (m : Int) := rfl
      refine ⟨?_, noW_sep _⟩
      rw [this, hcl]; rfl
    · rw [if_neg h5] at hb ⊢
      rw [hb, List.nil_append]
      exact ⟨hcl, noW_cl tail⟩
  intro T L h hne
  have hin : jn (inner s T) ++ ([41] ++ tail) = jn T ++ ((if s.f0 ≥ 5 then sepB ++ dg s.f2 else []) ++ ([41] ++ tail)) := by
    unfold inner
    by_cases h5 : s.f0 ≥ 5
    · rw [if_pos h5, if_pos h5, jn_snoc _ _ hne]; simp only [List.append_assoc]
    · rw [if_neg h5, if_neg h5, List.nil_append]
  rw [hin]
  obtain ⟨n1, n2⟩ := hnum _ rfl
  rw [← n1]
  generalize (if s.f0 ≥ 5 then sepB ++ dg s.f2 else []) ++ ([41] ++ tail) = b at n2
  -- the arguments
  have args : ∀ (T : List Bs) (L : List (List Bs)), All2 (fun t k => ∀ b, noW b → toks (t ++ b) = k ++ toks b) T L → T ≠ [] → toks (jn T ++ b) = jt L ++ toks b := by
    intro T
    induction T with
    | nil => intro L _ hne; exact absurd rfl hne
    | cons t T ih =>
      intro L h _
      cases L with
      | nil => exact h.elim
      | cons k L =>
        cases T with
        | nil =>
          cases L with
          | nil => exact h.1 b n2
          | cons _ _ => exact h.2.elim
        | cons t2 T =>
          cases L with
          | nil => exact h.2.elim
          | cons k2 L =>
            have := ih (k2 :: L) h.2 (by simp)
            rw [jn_cons (by simp), jt_cons (by simp), List.append_assoc, List.append_assoc, h.1 _ (noW_sep _), toks_sep, this]
            simp
  exact args T L h hne
theorem toks_node {s : S43} {k : Fo} (hs : ndE s = 0) (h3 : s.f3 = (k.count : Int)) (ih : All2 (fun t q => ∀ b, noW b → toks (t ++ b) = q ++ toks b) k.texts k.tokL) : ∀ b, noW b → toks (nodeT s k.texts ++ b) = tokN s k.tokL ++ toks b := by
  intro b hb
  unfold nodeT tokN
  rcases ndE_iff.1 hs with h | h
  · rw [if_pos h.1, if_pos h.1]
    obtain ⟨c, r, e1, e2, e3⟩ := name_word h.2.1
    rw [e1]
    exact toks_wordapp (.inl e2) e3 hb
  · have h1 : ¬ s.f0 = 1 := by have := h.1; omega
    rw [if_neg h1, if_neg h1]
    obtain ⟨c, r, e1, e2, e3⟩ := wd_word h.1 h.2.1
    have hne : k.texts ≠ [] := fun q => by
      have := Fo.texts_length k
      have := h.2.2.2.2.1
      rw [q] at *; simp only [List.length_nil] at *; omega
    have hr : 0 ≤ s.f2 ∧ s.f2 ≤ 16 := by
      have := h.2.2.2.1; unfold rOk at this; have := h.2.1; have := h.1; omega
    have e40 : ∀ m : Bs, toks (40 :: m) = [40] :: toks m := fun m => toks_mark (sp_cons (by decide) _) (.inl rfl)
    have nw : ∀ m : Bs, noW (40 :: m) := fun m c r q => by injection q with q _; subst q; decide
    have := toks_inner hr.1 hr.2 b k.texts k.tokL ih hne
    rw [show wd s.f0 ++ [40] ++ jn (inner s k.texts) ++ [41] ++ b = wd s.f0 ++ (40 :: (jn (inner s k.texts) ++ ([41] ++ b))) by simp, e1, toks_wordapp (.inl e2) e3 (nw _), e40, this]
    simp only [List.cons_append, List.append_assoc]
theorem toks_all : ∀ f : Fo, f.ok → f.nds → All2 (fun t q => ∀ b, noW b → toks (t ++ b) = q ++ toks b) f.texts f.tokL
  | .nil, _, _ => trivial
  | .cons s k r, ho, hn => by
    obtain ⟨h3, hk, hr⟩ := ho
    obtain ⟨hs, hkn, hrn⟩ := Fo.nds_cons hn
    exact ⟨toks_node hs h3 (toks_all k hk hkn), toks_all r hr hrn⟩
theorem toks_tree {s : S43} {k : Fo} (hk : k.ok) (h3 : s.f3 = (k.count : Int)) (hs : ndE s = 0) (hkn : k.nds) : toks (nodeT s k.texts) = tokN s k.tokL := by
  have := toks_node hs h3 (toks_all k hk hkn) [] noW_nil
  rw [List.append_nil, toks_nil (b := []) rfl, List.append_nil] at this
  exact this
/-! ### parts of an expression, read -/
theorem op_eq {s : S43} {k : Fo} (h : isOp s) (h3 : s.f3 = (k.count : Int)) : (⟨s.f0, noB, s.f2, (k.count : Int)⟩ : S43) = s := by
  have e : s.f1 = noB := by
    have := h.2.2.1
    rw [ex_data s.f1]
    rw [ByteArray.toList_eq] at this
    rw [this]; rfl
  cases s
  simp only at e h3
  subst e h3; rfl
theorem nm_eq {s : S43} (h : isName s) : nmT s.f1.data.toList = s := by
  obtain ⟨a, b, c, d⟩ := h
  unfold nmT
  rw [← ex_data]
  cases s
  simp only at a c d
  subst a c d; rfl
theorem pT_node (n : Nat) {s : S43} {k : Fo} (hs : ndE s = 0) (h3 : s.f3 = (k.count : Int)) (hnil : s.f0 = 1 → k = .nil)
    (ih : isOp s → ∀ rest : List Bs, rest.head? ≠ some [40] → (s.f0 = 2 → rest.head? ≠ some [44]) → pA n s.f0 (jt k.tokL ++ rest) = some (k, rest)) (rest : List Bs) (hr : rest.head? ≠ some [40]) : pT (n + 1) (tokN s k.tokL ++ rest) = some ((s, k), rest) := by
  unfold tokN
  rcases ndE_iff.1 hs with h | h
  · rw [if_pos h.1]
    obtain ⟨c, r, e1, e2, e3⟩ := name_word h.2.1
    have hh : hd1 s.f1.data.toList = true := by rw [e1]; exact e2
    simp only [List.singleton_append, pT]
    rw [if_pos hh, if_neg hr, nm_eq h, hnil h.1]
  · have h1 : ¬ s.f0 = 1 := by have := h.1; omega
    rw [if_neg h1]
    obtain ⟨c, r, e1, e2, e3⟩ := wd_word h.1 h.2.1
    have hh : hd1 (wd s.f0) = true := by rw [e1]; exact e2
    have ho := opI_wd h.1 h.2.1
    have h0 : ¬ s.f0 = 0 := by have := h.1; omega
    simp only [List.cons_append, pT, List.head?_cons, List.tail_cons]
    rw [if_pos hh, if_pos trivial, ho, if_neg h0, List.append_assoc, List.append_assoc]
    have hrange := h.2.2.2.1
    unfold rOk at hrange
    by_cases h5 : s.f0 ≥ 5
    · have en : numK s = [[44], dg s.f2] := if_pos h5
      have hn : 0 ≤ s.f2 ∧ s.f2 ≤ 16 := by have := h.2.1; omega
      obtain ⟨m, hm⟩ := Int.eq_ofNat_of_zero_le hn.1
      have hm' : s.f2 = (m : Int) := hm
      obtain ⟨d1, d2, _, _⟩ := dg_num m (by omega)
      rw [← hm'] at d1 d2
      rw [ih h _ (by rw [en]; simp) (fun q => absurd q (by omega)), en]
      simp only [Option.bind_some]
      have ec : clN s.f0 ([[44], dg s.f2] ++ ([[41]] ++ rest)) = some (s.f2, rest) := by
        unfold clN
        rw [if_pos h5]
        simp [d1, d2]
      rw [ec]
      simp only [Option.bind_some]
      rw [op_eq h h3]
    · have en : numK s = [] := if_neg h5
      have hn : s.f2 = 0 := hrange.2.2 (by omega)
      rw [ih h _ (by rw [en]; simp) (fun _ => by rw [en]; simp), en]
      simp only [Option.bind_some]
      have ec : clN s.f0 ([] ++ ([[41]] ++ rest)) = some (s.f2, rest) := by
        unfold clN
        rw [if_neg h5, hn]; simp
      rw [ec]
      simp only [Option.bind_some]
      rw [op_eq h h3]
theorem name_nil {s : S43} {k : Fo} (hs : ndE s = 0) (h3 : s.f3 = (k.count : Int)) (h1 : s.f0 = 1) : k = .nil := by
  have hc : k.count = 0 := by
    rcases ndE_iff.1 hs with h | h
    · have := h.2.2.2; omega
    · have := h.1; omega
  cases k with
  | nil => rfl
  | cons _ _ _ => simp only [Fo.count] at hc; omega
theorem pA_succ (n : Nat) (op : Int) (ts : List Bs) : pA (n + 1) op ts = (pT n ts).bind fun x => if op = 2 ∧ x.2.head? = some [44] then (pA n op x.2.tail).bind fun y => some (.cons x.1.1 x.1.2 y.1, y.2) else some (.cons x.1.1 x.1.2 .nil, x.2) := by simp only [pA]
theorem pA_tok : ∀ (f : Fo), f.ok → f.nds → 1 ≤ f.count → ∀ (n : Nat), 2 * f.flat.length + 2 ≤ n → ∀ (op : Int) (rest : List Bs), (op = 2 ∨ f.count = 1) → rest.head? ≠ some [40] → (op = 2 → rest.head? ≠ some [44]) → pA n op (jt f.tokL ++ rest) = some (f, rest)
  | .nil, _, _, hc, n, _, _, _, _, _, _ => by simp only [Fo.count] at hc; omega
  | .cons s k r, ho, hd, _, n, hn, op, rest, hop, hr, h44 => by
    obtain ⟨h3, hk, hrk⟩ := ho
    obtain ⟨hs, hkn, hrn⟩ := Fo.nds_cons hd
    simp only [Fo.flat, List.length_cons, List.length_append] at hn
    obtain ⟨m, rfl⟩ : ∃ m, n = m + 2 := ⟨n - 2, by omega⟩
    have ihk : isOp s → ∀ rest : List Bs, rest.head? ≠ some [40] → (s.f0 = 2 → rest.head? ≠ some [44]) → pA m s.f0 (jt k.tokL ++ rest) = some (k, rest) := fun hso rest q1 q2 =>
      pA_tok k hk hkn (by have := hso.2.2.2.2.1; omega) m (by omega) s.f0 rest (by
        by_cases h2 : s.f0 = 2
        · exact .inl h2
        · have := hso.2.2.2.2.2.2 h2; exact .inr (by omega)) q1 q2
    have hp := fun rest q => pT_node m hs h3 (name_nil hs h3) ihk rest q
    cases r with
    | nil =>
      have e : jt (Fo.cons s k .nil).tokL = tokN s k.tokL := rfl
      rw [e]
      simp only [pA]
      rw [hp rest hr]
      simp only [Option.bind_some]
      rw [if_neg (fun q => h44 q.1 q.2)]
    | cons s2 k2 r2 =>
      have h2 : op = 2 := hop.resolve_right (by simp only [Fo.count]; omega)
      have e : jt (Fo.cons s k (.cons s2 k2 r2)).tokL = tokN s k.tokL ++ [44] :: jt (Fo.cons s2 k2 r2).tokL := rfl
      rw [e, List.append_assoc, List.cons_append]
      rw [show m + 2 = (m + 1) + 1 by omega, pA_succ, hp _ (by simp)]
      simp only [Option.bind_some, List.head?_cons, List.tail_cons]
      rw [if_pos ⟨h2, trivial⟩, pA_tok (.cons s2 k2 r2) hrk hrn (by simp only [Fo.count]; omega) (m + 1) (by omega) op rest (.inl h2) hr h44]
      rfl
theorem tokN_pos (s : S43) (L : List (List Bs)) : 1 ≤ (tokN s L).length := by
  unfold tokN
  split <;> simp
theorem tokN_len {s : S43} {k : Fo} (hs : ndE s = 0) (h3 : s.f3 = (k.count : Int)) (ik : k.flat.length ≤ (jt k.tokL).length) : 1 + k.flat.length ≤ (tokN s k.tokL).length := by
  unfold tokN
  by_cases h1 : s.f0 = 1
  · rw [if_pos h1, name_nil hs h3 h1]; simp [Fo.flat]
  · rw [if_neg h1]
    simp only [List.length_cons, List.length_append]; omega
theorem tok_flat : ∀ f : Fo, f.ok → f.nds → f.flat.length ≤ (jt f.tokL).length
  | .nil, _, _ => Nat.le_refl _
  | .cons s k r, ho, hn => by
    obtain ⟨h3, hk, hr⟩ := ho
    obtain ⟨hs, hkn, hrn⟩ := Fo.nds_cons hn
    have h := tokN_len hs h3 (tok_flat k hk hkn)
    have ir := tok_flat r hr hrn
    simp only [Fo.flat, List.length_cons, List.length_append]
    cases r with
    | nil =>
      have e : jt (Fo.cons s k .nil).tokL = tokN s k.tokL := rfl
      rw [e]; simp only [Fo.flat, List.length_nil]; omega
    | cons s2 k2 r2 =>
      have e : jt (Fo.cons s k (.cons s2 k2 r2)).tokL = tokN s k.tokL ++ [44] :: jt (Fo.cons s2 k2 r2).tokL := rfl
      rw [e, List.length_append, List.length_cons]; omega
/-- What is printed is read as it was. -/
theorem pAll_text {s : S43} {k : Fo} (hk : k.ok) (h3 : s.f3 = (k.count : Int)) (hs : ndE s = 0) (hkn : k.nds) : pAll (nodeT s k.texts) = some ((s, k), []) := by
  unfold pAll
  rw [toks_tree hk h3 hs hkn]
  have hl := tokN_len hs h3 (tok_flat k hk hkn)
  have := pT_node (2 * (tokN s k.tokL).length) hs h3 (name_nil hs h3) (fun hso rest q1 q2 => pA_tok k hk hkn (by have := hso.2.2.2.2.1; omega) _ (by omega) s.f0 rest (by
    by_cases h2 : s.f0 = 2
    · exact .inl h2
    · have := hso.2.2.2.2.2.2 h2; exact .inr (by omega)) q1 q2) [] (by simp)
  rw [List.append_nil] at this
  exact this
/-! ### what is read, printed -/
theorem clN_tok {s : S43} (h : isOp s) {ts : List Bs} {y : Int × List Bs} (hc : clN s.f0 ts = some y) (hy : y.1 = s.f2) : ts = numK s ++ [[41]] ++ y.2 := by
  have hrange := h.2.2.2.1
  unfold rOk at hrange
  unfold clN at hc
  unfold numK
  by_cases h5 : s.f0 ≥ 5
  · rw [if_pos h5] at hc ⊢
    match ts, hc with
    | m :: t :: r, hc =>
      simp only at hc
      split at hc
      · rename_i q
        obtain ⟨c1, c2, c3⟩ := q
        injection hc with hc; subst hc
        have e := num_dg c2 (by have := h.2.1; show 0 ≤ numV t; omega) (by have := h.2.1; show numV t ≤ 16; omega)
        have hy' : numV t = s.f2 := hy
        rw [hy'] at e
        cases r with
        | nil => cases c3
        | cons a r =>
          injection c3 with c3
          rw [c1, c3, e]; rfl
      · cases hc
  · rw [if_neg h5] at hc ⊢
    split at hc
    · rename_i q
      injection hc with hc; subst hc
      cases ts with
      | nil => cases q
      | cons a r => injection q with q; rw [q]; rfl
    · cases hc
theorem pT_back (n : Nat) : (∀ ts x, pT n ts = some x → (∀ t, t ∈ x.1.1 :: x.1.2.flat → ndE t = 0) → ts = tokN x.1.1 x.1.2.tokL ++ x.2) ∧ (∀ op ts x, pA n op ts = some x → x.1.nds → ts = jt x.1.tokL ++ x.2) := by
  induction n with
  | zero => exact ⟨fun ts x h => by simp [pT] at h, fun op ts x h => by simp [pA] at h⟩
  | succ n ih =>
    constructor
    · intro ts x h hv
      cases ts with
      | nil => simp [pT] at h
      | cons t ts =>
        simp only [pT] at h
        split at h
        · split at h
          · rename_i h40
            split at h
            · cases h
            · rename_i h0
              obtain ⟨u, hu, h⟩ := Option.bind_eq_some_iff.1 h
              obtain ⟨y, hy, h⟩ := Option.bind_eq_some_iff.1 h
              injection h with h; subst h
              have hv1 := hv _ (List.mem_cons_self)
              have h2 := ih.2 _ _ _ hu (fun t ht => hv t (List.mem_cons_of_mem _ ht))
              have hop : isOp (⟨opI t, noB, y.1, (u.1.count : Int)⟩ : S43) := by
                rcases ndE_iff.1 hv1 with q | q
                · have q1 : opI t = 1 := q.1
                  rcases opI_range' t with w | w <;> omega
                · exact q
              have h3 := clN_tok hop hy rfl
              cases ts with
              | nil => cases h40
              | cons a r =>
                injection h40 with h40
                simp only [List.tail_cons] at h2
                have n1 : ¬ (⟨opI t, noB, y.1, (u.1.count : Int)⟩ : S43).f0 = 1 := by have := hop.1; omega
                show t :: a :: r = tokN (⟨opI t, noB, y.1, (u.1.count : Int)⟩ : S43) u.1.tokL ++ y.2
                unfold tokN
                rw [if_neg n1, h40, h2, h3]
                have e : wd (opI t) = t := wd_opI h0
                show t :: [40] :: _ = wd (opI t) :: [40] :: _ ++ _
                rw [e]
                simp only [List.append_assoc, List.cons_append]
          · injection h with h; subst h
            show t :: ts = tokN (nmT t) _ ++ ts
            unfold tokN
            rw [if_pos (show (nmT t).f0 = 1 from rfl)]; rfl
        · cases h
    · intro op ts x h hv
      rw [pA_succ] at h
      obtain ⟨u, hu, h⟩ := Option.bind_eq_some_iff.1 h
      split at h
      · rename_i hc
        obtain ⟨y, hy, h⟩ := Option.bind_eq_some_iff.1 h
        injection h with h; subst h
        obtain ⟨v1, v2, v3⟩ := Fo.nds_cons hv
        have h1 := ih.1 _ _ hu (fun t ht => by
          rcases List.mem_cons.1 ht with rfl | ht
          · exact v1
          · exact v2 t ht)
        have h2 := ih.2 _ _ _ hy v3
        have hcnt := ((pT_len n).2 _ _ _ hy).2.2
        cases hu2 : u.2 with
        | nil => rw [hu2] at hc; exact absurd hc.2 (by decide)
        | cons m r =>
          rw [hu2] at hc h1 h2
          obtain ⟨_, hc2⟩ := hc
          injection hc2 with hc2
          simp only [List.tail_cons] at h2
          have hne : y.1.tokL ≠ [] := by
            cases hy1 : y.1 with
            | nil => rw [hy1] at hcnt; simp only [Fo.count] at hcnt; omega
            | cons _ _ _ => simp [Fo.tokL]
          show ts = jt (tokN u.1.1 u.1.2.tokL :: y.1.tokL) ++ y.2
          rw [jt_cons hne, h1, h2, hc2]
          simp only [List.append_assoc, List.cons_append]
      · injection h with h; subst h
        obtain ⟨v1, v2, v3⟩ := Fo.nds_cons hv
        have h1 := ih.1 _ _ hu (fun t ht => by
          rcases List.mem_cons.1 ht with rfl | ht
          · exact v1
          · exact v2 t ht)
        exact h1
/-! ### texts without spaces -/
def dn (b : Bs) : Bs := b.filter (fun c => !(decide (c = 32)))
theorem dn_sp : ∀ b : Bs, dn (sp b) = dn b
  | [] => rfl
  | c :: b => by
    by_cases h : c = 32
    · subst h; rw [sp_cons32, dn_sp b]; rfl
    · rw [sp_cons h]
theorem dn_word {r : Bs} (h : r.all isW = true) : dn r = r := by
  unfold dn
  rw [List.filter_eq_self]
  intro c hc
  have := isW_not (List.all_eq_true.1 h c hc)
  simpa using this.1
theorem toks_dn : ∀ (n : Nat) (b : Bs), b.length ≤ n → [] ∉ toks b → (toks b).flatten = dn b := by
  intro n
  induction n with
  | zero =>
    intro b hb _
    have : b = [] := List.length_eq_zero_iff.1 (by omega)
    subst this
    rw [toks_nil rfl]; rfl
  | succ n ih =>
    intro b hb he
    have hs := sp_len b
    rw [← dn_sp b]
    cases h : sp b with
    | nil => rw [toks_nil h]; rfl
    | cons c r =>
      rw [h, List.length_cons] at hs
      have hc32 := sp_head b h
      have hdn : ∀ m, dn (c :: m) = c :: dn m := fun m => by unfold dn; rw [List.filter_cons_of_pos (by simpa using hc32)]
      rw [toks_cons h] at he ⊢
      have hd := dw_len isW r
      split
      · rename_i hw
        rw [if_pos hw] at he
        have := ih (r.dropWhile isW) (by omega) (fun q => he (List.mem_cons_of_mem _ q))
        rw [List.flatten_cons, this, hdn]
        have e := List.takeWhile_append_dropWhile (p := isW) (l := r)
        have e2 : dn r = r.takeWhile isW ++ dn (r.dropWhile isW) := by
          conv => lhs; rw [← e]
          unfold dn
          rw [List.filter_append]
          congr 1
          exact dn_word (List.all_eq_true.2 (tw_all r))
        rw [e2]; rfl
      · rename_i hw
        rw [if_neg hw] at he
        split
        · rename_i hm
          rw [if_pos hm] at he
          have := ih r (by omega) (fun q => he (List.mem_cons_of_mem _ q))
          rw [List.flatten_cons, this, hdn]; rfl
        · rename_i hm
          rw [if_neg hm] at he
          exact absurd (by simp) he
/-- What is read, if it is right, prints as it was but for spaces. -/
theorem back_dn {l : Bs} {s : S43} {k : Fo} (h : pAll l = some ((s, k), [])) (hv : ∀ t, t ∈ s :: k.flat → ndE t = 0) : k.ok ∧ s.f3 = (k.count : Int) ∧ dn (nodeT s k.texts) = dn l := by
  unfold pAll at h
  obtain ⟨b1, b2, b3⟩ := (pT_len _).1 _ _ h
  have e1 := (pT_back _).1 _ _ h hv
  obtain ⟨p, e2, e3⟩ := (pT_suf _).1 _ _ h
  rw [List.append_nil] at e1 e2
  have ht := toks_tree b2 b3 (hv s (by simp)) (fun t ht => hv t (by simp [ht]))
  refine ⟨b2, b3, ?_⟩
  have he : [] ∉ toks l := by rw [e2]; exact e3
  have f1 := toks_dn _ l (Nat.le_refl _) he
  have f2 := toks_dn _ (nodeT s k.texts) (Nat.le_refl _) (by rw [ht, ← e1]; exact he)
  rw [← f1, ← f2, ht, e1]
end Go.Proofs.YtimikhbnihedkaaDoor.PAll
