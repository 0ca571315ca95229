/- Split: the program's and the reference's answer splitV. -/
import Derived.Test.YtkcnfbhmjcbgoaaDoorPAllx0
import Derived.Test.YtkcnfbhmjcbgoaaDoorPAllf14
import Derived.Test.YtkcnfbhmjcbgoaaDoorPAllf29
import Derived.Test.YtkcnfbhmjcbgoaaDoorPAllf30
import Derived.Test.YtkcnfbhmjcbgoaaDoorFldParse
namespace Go.Proofs.YtkcnfbhmjcbgoaaDoor.PAll
set_option linter.unusedVariables false
open Go Go.RowKit Go.Proofs.YtkcnfbhmjcbgoaaDoorW.PrintWords Go.Proofs.YtkcnfbhmjcbgoaaDoorW.PrintLast Go.Proofs.YtkcnfbhmjcbgoaaDoorW.PrintMore Go.Proofs.YtkcnfbhmjcbgoaaDoor.MathNum Go.Proofs.YtkcnfbhmjcbgoaaDoor.EvWords

theorem bt39 {l : Bs} {i : Nat} (h : i < l.length) : bt (mkB l) (i : Int) = 39 ↔ l[i] = 39 := bt_nat (c := 39) h
theorem bt32 {l : Bs} {i : Nat} (h : i < l.length) : bt (mkB l) (i : Int) = 32 ↔ l[i] = 32 := bt_nat (c := 32) h
def unqV (line acc : Bs) (p : Option (Bs × Bs)) : ByteArray × Int × Bool := match p with
  | some (t, r) => (mkB (acc ++ t), ((line.length - r.length : Nat) : Int), quotedL (acc ++ t))
  | none => (mkB [], (line.length : Int), false)
theorem unq_map {line acc : Bs} {c : UInt8} (p : Option (Bs × Bs)) : unqV line (acc ++ [c]) p = unqV line acc (p.map fun q => (c :: q.1, q.2)) := by
  cases p with
  | none => rfl
  | some q => simp [unqV]
section
variable {line : Bs}
theorem unq_loop (hl : line.length ≤ 1024) : ∀ (n at_ : Nat) (acc : Bs), line.length - at_ ≤ n → at_ ≤ line.length → acc.length ≤ at_ →
    Ev (fun k => field_unquote.l0 k (mkB line) (at_ : Int) (nums8 acc)) (unqV line acc (uq (line.drop at_))) := by
  intro n
  induction n with
  | zero =>
    intro i acc h1 h2 h3
    rw [List.drop_eq_nil_of_le (by omega)]
    have e : i = line.length := by omega
    refine ev_step (fun k => by simp only [field_unquote.l0] <;> exact rfl) (ev_neg (by rw [size_mk]; omega) ?_)
    rw [e]
    exact ev_now _
  | succ n ih =>
    intro i acc h1 h2 h3
    by_cases he : i = line.length
    · rw [List.drop_eq_nil_of_le (by omega)]
      refine ev_step (fun k => by simp only [field_unquote.l0] <;> exact rfl) (ev_neg (by rw [size_mk]; omega) ?_)
      rw [he]
      exact ev_now _
    · have h : i < line.length := by omega
      refine ev_step (fun k => by simp only [field_unquote.l0] <;> exact rfl) (ev_pos (by rw [size_mk]; omega) (ev_pos (by omega) ?_))
      rw [w64 (n := (i : Int) + 1) (by omega) (by omega), w64 (n := (i : Int) + 2) (by omega) (by omega), strOf_nums8, quoted_some (by omega)]
      rw [drop_at h]
      by_cases hc : line[i] = 39
      · refine ev_pos ((bt39 h).2 hc) ?_
        rw [hc]
        by_cases hn : i + 1 < line.length
        · refine ev_pos (by rw [size_mk]; omega) (ev_pos (by omega) ?_)
          rw [show (i : Int) + 1 = ((i + 1 : Nat) : Int) by omega]
          by_cases hd : line[i + 1] = 39
          · refine ev_pos ((bt39 hn).2 hd) (ev_pos (by rw [nums8_len]; omega) ?_)
            rw [drop_at hn, hd, uq_two, ← unq_map, show ([39] : List Int) = [((39 : UInt8).toNat : Int)] from rfl, nums8_app]
            exact ih (i + 2) (acc ++ [39]) (by omega) (by omega) (by simp only [List.length_append, List.length_cons, List.length_nil]; omega)
          · refine ev_neg (fun e => hd ((bt39 hn).1 e)) ?_
            rw [uq_end (by rw [drop_at hn]; exact fun e => hd (Option.some.inj e))]
            simp only [Option.bind_some]
            refine ev_eq (ev_now _) ?_
            unfold unqV
            simp only [List.append_nil, List.length_drop]
            rw [show line.length - (line.length - (i + 1)) = i + 1 by omega]
        · refine ev_neg (by rw [size_mk]; omega) ?_
          rw [List.drop_eq_nil_of_le (by omega), uq_end (by simp)]
          simp only [Option.bind_some]
          refine ev_eq (ev_now _) ?_
          unfold unqV
          simp only [List.append_nil, List.length_nil, Nat.sub_zero]
          rw [show (i : Int) + 1 = (line.length : Int) by omega]
      · refine ev_neg (fun e => hc ((bt39 h).1 e)) (ev_pos (by rw [nums8_len]; omega) ?_)
        rw [uq_other hc, ← unq_map, bt_mk h, nums8_app]
        exact ih (i + 1) (acc ++ [line[i]]) (by omega) (by omega) (by simp only [List.length_append, List.length_cons, List.length_nil]; omega)
theorem fn1_ev {t : Bs} (ht : t.length ≤ 1024) : Ev (fun k => field_Split_fn1.f k (mkB t)) (decide (goodL t)) := by
  simp only [field_Split_fn1.f]
  by_cases h : t.length ≤ 256
  · refine ev_pos (by rw [size_mk]; omega) (Ev.bind (plain_ev (by omega)) (ev_eq (ev_now _) ?_))
    by_cases h2 : plainL t = true
    · rw [h2, decide_eq_true (show goodL t from ⟨h, h2⟩)]
    · rw [Bool.eq_false_iff.2 h2, decide_eq_false (fun g : goodL t => h2 g.2)]
  · exact ev_neg (by rw [size_mk]; omega) (ev_eq (ev_now _) (decide_eq_false (fun g : goodL t => h g.1)).symm)
/-- Behind a field. -/
def behind (t r : Bs) (b : Bool) (one rec : List ByteArray × Int) : List ByteArray × Int := if b = true ∧ goodL t then (if r = [] then one else if r.head? = some 32 then rec else ([], 2)) else ([], 2)
theorem j3_ev (hl : line.length ≤ 1024) {i : Nat} (hi : i ≤ line.length) {t : Bs} (ht : t.length ≤ 1024) {out : List Bs} (ho : out.length ≤ 1024) {b : Bool} {rec : List ByteArray × Int}
    (hrec : (line.drop i).head? = some 32 → Ev (fun k => field_Split.l0 k (mkB line) (mks (out ++ [t])) ((i + 1 : Nat) : Int)) rec) :
    Ev (fun k => field_Split.j3 k (mkB line) (mks out) (i : Int) (mkB t) b) (behind t (line.drop i) b (mks (out ++ [t]), 0) rec) := by
  have bad : Ev (fun k => field_Split.j4 k (mkB line) (mks out) (i : Int) (mkB t) true) ([], 2) := ev_step (fun k => by simp only [field_Split.j4] <;> exact rfl) (ev_pos (show true = true from rfl) (ev_now _))
  refine ev_step (fun k => by simp only [field_Split.j3] <;> exact rfl) ?_
  unfold behind
  cases b with
  | false =>
    rw [if_neg (by simp)]
    exact ev_neg (by simp) bad
  | true =>
    refine ev_pos (show true = true from rfl) (Ev.bind (fn1_ev ht) ?_)
    by_cases hg : goodL t
    · rw [decide_eq_true hg, if_pos ⟨rfl, hg⟩]
      refine ev_step (fun k => by simp only [field_Split.j4] <;> exact rfl) (ev_neg (by simp) (ev_pos (by rw [mks_len]; omega) (ev_let ?_)))
      rw [mks_app]
      by_cases he : i = line.length
      · rw [List.drop_eq_nil_of_le (by omega), if_pos rfl]
        exact ev_pos (by rw [size_mk]; omega) (ev_now _)
      · have h : i < line.length := by omega
        rw [if_neg (by rw [drop_at h]; exact List.cons_ne_nil _ _)]
        refine ev_neg (by rw [size_mk]; omega) (ev_pos (by omega) (ev_pos (by rw [size_mk]; omega) ?_))
        have hh : (line.drop i).head? = some line[i] := by rw [drop_at h]; rfl
        by_cases h32 : line[i] = 32
        · refine ev_pos ((bt32 h).2 h32) ?_
          rw [if_pos (by rw [hh, h32]), w64 (by omega) (by omega)]
          exact hrec (by rw [hh, h32])
        · rw [if_neg (by rw [hh]; simpa using h32)]
          exact ev_neg (fun e => h32 ((bt32 h).1 e)) (ev_now _)
    · rw [decide_eq_false hg, if_neg (by simp [hg])]
      exact bad
theorem word_loop (hl : line.length ≤ 1024) {i : Nat} (hi : i ≤ line.length) {out : List ByteArray} {R : List ByteArray × Int}
    (h : Ev (fun k => field_Split.j3 k (mkB line) out ((i + (word (line.drop i)).length : Nat) : Int) (mkB (word (line.drop i))) (word (line.drop i) != [])) R) (d : Nat) :
    ∀ j : Nat, i + j + d = line.length → ((line.drop i).take j).contains 32 = false → Ev (fun k => field_Split.l1 k (mkB line) out ((i + j : Nat) : Int) (i : Int)) R := by
  have fin : ∀ j : Nat, i + j ≤ line.length → ((line.drop i).take j).contains 32 = false → ((line.drop i).drop j = [] ∨ ((line.drop i).drop j).head? = some 32) →
      word (line.drop i) = (line.drop i).take j ∧ (word (line.drop i)).length = j := by
    intro j hj hn hr
    have e : word (line.drop i) = (line.drop i).take j := by
      have := word_app hn hr
      rwa [List.take_append_drop] at this
    refine ⟨e, ?_⟩
    rw [e, List.length_take, List.length_drop]; omega
  have ex : ∀ j : Nat, (mkB line).extract (i : Int).toNat ((i + j : Nat) : Int).toNat = mkB ((line.drop i).take j) := by
    intro j
    rw [mk_extract, Int.toNat_natCast, Int.toNat_natCast, show i + j - i = j by omega]
  induction d with
  | zero =>
    intro j hj hn
    obtain ⟨e, el⟩ := fin j (by omega) hn (Or.inl (by rw [List.drop_drop]; exact List.drop_eq_nil_of_le (by omega)))
    refine ev_step (fun k => by simp only [field_Split.l1] <;> exact rfl) (ev_neg (by rw [size_mk]; omega) (ev_pos (by omega) (ev_pos (by omega) (ev_pos (by rw [size_mk]; omega) ?_))))
    rw [ex, toList_mk, ← e]
    rwa [el] at h
  | succ d ih =>
    intro j hj hn
    have hlt : i + j < line.length := by omega
    have hat : (line.drop i).drop j = line[i + j] :: line.drop (i + j + 1) := by rw [List.drop_drop, drop_at hlt]
    refine ev_step (fun k => by simp only [field_Split.l1] <;> exact rfl) (ev_pos (by rw [size_mk]; omega) (ev_pos (by omega) ?_))
    by_cases h32 : line[i + j] = 32
    · obtain ⟨e, el⟩ := fin j (by omega) hn (Or.inr (by rw [hat, h32]; rfl))
      refine ev_pos ((bt32 hlt).2 h32) (ev_pos (by omega) (ev_pos (by omega) (ev_pos (by rw [size_mk]; omega) ?_)))
      rw [ex, toList_mk, ← e]
      rwa [el] at h
    · refine ev_neg (fun e => h32 ((bt32 hlt).1 e)) ?_
      rw [w64 (by omega) (by omega), show ((i + j : Nat) : Int) + 1 = ((i + (j + 1) : Nat) : Int) by omega]
      refine ih (j + 1) (by omega) ?_
      have hj' : j < (line.drop i).length := by rw [List.length_drop]; omega
      rw [← List.take_append_getElem hj', List.contains_append, hn, Bool.false_or, List.getElem_drop]
      simpa using fun e => h32 e.symm
def outV (out : List Bs) (p : Option (List Bs)) : List ByteArray × Int := match p with
  | some fs => (mks (out ++ fs), 0)
  | none => ([], 2)
theorem split_loop (hl : line.length ≤ 1024) : ∀ (n i : Nat) (out : List Bs), i ≤ line.length → line.length - i < n → out.length ≤ i →
    Ev (fun k => field_Split.l0 k (mkB line) (mks out) (i : Int)) (outV out (pars n (line.drop i))) := by
  intro n
  induction n with
  | zero => intro i out _ h; omega
  | succ n ih =>
    intro i out hi hn ho
    -- behind a field t that ends at e
    have go : ∀ (t : Bs) (e : Nat) (b : Bool), i < e → e ≤ line.length → t.length ≤ 1024 →
        Ev (fun k => field_Split.j3 k (mkB line) (mks out) (e : Int) (mkB t) b) (if b = true ∧ goodL t then (if line.drop e = [] then outV out (some [t]) else if (line.drop e).head? = some 32 then outV out ((pars n (line.drop e).tail).map (t :: ·)) else ([], 2)) else ([], 2)) := by
      intro t e b h1 h2 h3
      have := j3_ev hl h2 h3 (out := out) (by omega) (b := b) (rec := outV out ((pars n (line.drop e).tail).map (t :: ·))) (fun h32 => by
        have hlt : e < line.length := Classical.byContradiction fun h => by
          rw [List.drop_eq_nil_of_le (by omega)] at h32; cases h32
        have := ih (e + 1) (out ++ [t]) (by omega) (by omega) (by simp only [List.length_append, List.length_cons, List.length_nil]; omega)
        rw [List.tail_drop]
        refine ev_eq this ?_
        cases pars n (line.drop (e + 1)) with
        | none => rfl
        | some fs => simp [outV])
      exact this
    refine ev_step (fun k => by simp only [field_Split.l0] <;> exact rfl) ?_
    rw [pars]
    by_cases hh : (line.drop i).head? = some 39
    · have hlt : i < line.length := Classical.byContradiction fun h => by
        rw [List.drop_eq_nil_of_le (by omega)] at hh; cases hh
      have h39 : line[i] = 39 := by
        rw [drop_at hlt] at hh
        exact Option.some.inj hh
      refine ev_pos (by rw [size_mk]; omega) (ev_pos (by omega) ?_)
      have e1 : (bt (mkB line) (i : Int) == 39) = true := by rw [beq_iff_eq]; exact (bt39 hlt).2 h39
      rw [e1]
      refine ev_step (fun k => by simp only [field_Split.j1] <;> exact rfl) (ev_pos (show true = true from rfl) ?_)
      rw [w64 (by omega) (by omega), show (i : Int) + 1 = ((i + 1 : Nat) : Int) by omega]
      have hu := unq_loop hl line.length (i + 1) [] (by omega) (by omega) (by simp)
      have htok : tok (line.drop i) = uq (line.drop (i + 1)) := by
        unfold tok
        rw [if_pos hh, List.tail_drop]
      rw [htok]
      refine Ev.bind (show Ev (fun k => field_unquote.f k (mkB line) ((i + 1 : Nat) : Int)) _ from hu) ?_
      cases hq : uq (line.drop (i + 1)) with
      | none =>
        show Ev (fun k => field_Split.j3 k (mkB line) (mks out) (line.length : Int) (mkB []) false) _
        have := go [] line.length false (by omega) (by omega) (by simp)
        rwa [if_neg (by simp)] at this
      | some p =>
        obtain ⟨t, r⟩ := p
        have hs := uq_spec _ _ (Nat.le_refl _) hq
        have hlen := congrArg List.length hs.1
        rw [List.length_drop, List.length_append, List.length_cons] at hlen
        have ht := (tok_len (htok.trans hq)).2
        rw [List.length_drop] at ht
        have hdr : line.drop (line.length - r.length) = r := by
          have h1 : line = line.take (i + 1) ++ (esc t ++ [39]) ++ r := by
            conv => lhs; rw [← List.take_append_drop (i + 1) line, hs.1]
            simp
          have h2 := congrArg List.length h1
          rw [List.length_append] at h2
          have h3 : ((line.take (i + 1) ++ (esc t ++ [39])) ++ r).drop (line.take (i + 1) ++ (esc t ++ [39])).length = r := List.drop_left
          have h4 : (line.take (i + 1) ++ (esc t ++ [39])).length = line.length - r.length := by omega
          rw [← h1, h4] at h3
          exact h3
        show Ev (fun k => field_Split.j3 k (mkB line) (mks out) ((line.length - r.length : Nat) : Int) (mkB ([] ++ t)) (quotedL ([] ++ t))) _
        rw [List.nil_append]
        have := go t (line.length - r.length) (quotedL t) (by omega) (by omega) (by omega)
        rw [hdr] at this
        refine ev_eq this ?_
        have hc : (quotedL t = true ∧ goodL t) ↔ (((line.drop i).head? = some 39 → quotedL t = true) ∧ goodL t) := by
          rw [hh]; simp
        simp only
        by_cases hg : quotedL t = true ∧ goodL t
        · rw [if_pos hg, if_pos (hc.1 hg)]
          split
          · rfl
          · split
            · rfl
            · rfl
        · rw [if_neg hg, if_neg (fun e => hg (hc.2 e))]; rfl
    · -- a field without quotes
      have hw : Ev (fun k => field_Split.l1 k (mkB line) (mks out) (i : Int) (i : Int)) (outV out (pars (n + 1) (line.drop i))) := by
        have hwl : i + (word (line.drop i)).length ≤ line.length := by
          have := congrArg List.length (word_split (line.drop i))
          rw [List.length_append, List.length_drop] at this
          omega
        have hd : line.drop (i + (word (line.drop i)).length) = (line.drop i).drop (word (line.drop i)).length := by rw [List.drop_drop]
        refine word_loop hl hi (out := mks out) ?_ (line.length - i) 0 (by omega) (by simp)
        rw [pars]
        unfold tok
        rw [if_neg hh]
        by_cases hw0 : word (line.drop i) = []
        · rw [if_pos hw0, hw0]
          exact ev_step (fun k => by simp only [field_Split.j3] <;> exact rfl) (ev_neg (by simp) (ev_step (fun k => by simp only [field_Split.j4] <;> exact rfl) (ev_pos (show true = true from rfl) (ev_now _))))
        · have hp : 0 < (word (line.drop i)).length := List.length_pos_iff.2 hw0
          have := go (word (line.drop i)) (i + (word (line.drop i)).length) (word (line.drop i) != []) (by omega) hwl (by omega)
          refine ev_eq this ?_
          rw [if_neg hw0, hd]
          have hb : (word (line.drop i) != []) = true := by simpa using hw0
          dsimp only
          by_cases hg : goodL (word (line.drop i))
          · rw [if_pos (show (word (line.drop i) != []) = true ∧ goodL (word (line.drop i)) from ⟨hb, hg⟩)]
            rw [if_pos (show ((line.drop i).head? = some 39 → quotedL (word (line.drop i)) = true) ∧ goodL (word (line.drop i)) from ⟨fun e => absurd e hh, hg⟩)]
            split
            · rfl
            · split
              · rfl
              · rfl
          · rw [if_neg (fun e => hg e.2), if_neg (fun e => hg e.2)]; rfl
      rw [pars] at hw
      have fin : Ev (fun k => field_Split.j1 k (mkB line) (mks out) (i : Int) false) _ := ev_step (fun k => by simp only [field_Split.j1] <;> exact rfl) (ev_neg (by simp) hw)
      by_cases hlt : i < line.length
      · have h39 : line[i] ≠ 39 := fun e => hh (by rw [drop_at hlt, e]; rfl)
        have e1 : (bt (mkB line) (i : Int) == 39) = false := by
          rw [beq_eq_false_iff_ne]; exact fun e => h39 ((bt39 hlt).1 e)
        refine ev_pos (by rw [size_mk]; omega) (ev_pos (by omega) ?_)
        rw [e1]
        exact fin
      · exact ev_neg (by rw [size_mk]; omega) fin
def splitB (l : Bs) : List ByteArray × Int := (mks (splitV l).1, (splitV l).2)
theorem split_ev (l : Bs) : Ev (fun k => field_Split.f k (mkB l)) (splitB l) := by
  simp only [field_Split.f]
  unfold splitB splitV
  by_cases h1 : 1024 < l.length
  · rw [if_pos h1]
    exact ev_pos (by rw [size_mk]; omega) (ev_now _)
  · rw [if_neg h1]
    refine ev_neg (by rw [size_mk]; omega) ?_
    by_cases h2 : l = []
    · rw [if_pos h2]
      exact ev_pos (mk_nil.2 h2) (ev_now _)
    · rw [if_neg h2]
      refine ev_neg (fun e => h2 (mk_nil.1 e)) ?_
      have := split_loop (line := l) (by omega) (l.length + 1) 0 [] (by omega) (by omega) (by simp)
      refine ev_eq this ?_
      rw [List.drop_zero]
      have hmore : pars (l.length + 1) l = pars l.length l := by
        cases hp : pars l.length l with
        | some fs =>
          have := pars_spec _ _ hp
          have h3 := pars_of fs (l.length + 1) this.1 this.2.1 (by rw [this.2.2]; omega)
          rwa [this.2.2] at h3
        | none =>
          cases hp2 : pars (l.length + 1) l with
          | none => rfl
          | some fs =>
            have := pars_spec _ _ hp2
            have h3 := pars_of fs l.length this.1 this.2.1 (by rw [this.2.2]; omega)
            rw [this.2.2, hp] at h3
            cases h3
      rw [hmore]
      cases pars l.length l with
      | none => rfl
      | some fs => rfl
end
end Go.Proofs.YtkcnfbhmjcbgoaaDoor.PAll
