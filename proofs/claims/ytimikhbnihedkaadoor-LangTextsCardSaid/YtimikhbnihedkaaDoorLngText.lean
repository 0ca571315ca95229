/- The program's texts. -/
import Derived.Test.YtimikhbnihedkaaDoorMC3
import Derived.Test.YtimikhbnihedkaaDoorMC0
namespace Go.Proofs.YtimikhbnihedkaaDoor.PAll
set_option linter.unusedVariables false
set_option linter.unusedSectionVars false
set_option linter.unusedSimpArgs false
open Go Go.RowKit Go.Proofs.YtimikhbnihedkaaDoorW.PrintWords Go.Proofs.YtimikhbnihedkaaDoorW.PrintLast Go.Proofs.YtimikhbnihedkaaDoorW.PrintMore Go.Proofs.YtimikhbnihedkaaDoor.MathNum Go.Proofs.YtimikhbnihedkaaDoor.EvWords

theorem dec_dg {n : Int} (h0 : 0 ≤ n) (h1 : n ≤ 16) : Lib.decDigits n.toNat = dg n := by
  unfold dg
  rw [Lib.decDigits]
  by_cases h : n < 10
  · rw [if_pos h, dif_pos (by omega)]
  · rw [if_neg h, dif_neg (by omega), Lib.decDigits, dif_pos (by omega)]
    have e1 : n.toNat / 10 = 1 := by omega
    have e2 : n.toNat % 10 = n.toNat - 10 := by omega
    rw [e1, e2]; rfl
theorem itoa_ev {n : Int} (h0 : 0 ≤ n) (h1 : n ≤ 16) : strconv_Itoa.f n = some (mkB (dg n)) := by
  unfold strconv_Itoa.f
  rw [if_pos h0, if_pos (by omega), dec_dg h0 h1]; rfl
abbrev PT (t : List S43) (b : Bs) : Prop := Ev (fun n => lang_text.f n t) (mkB b)
theorem ptext_loop {x0 : List S43} {L : List (List S43)} {v : ByteArray} (hL : L.length ≤ 1000) : ∀ (l : List (List S43)) (vs : List Bs), All2 PT l vs → ∀ (acc : List Bs) (i : Nat), L.drop i = l → i + l.length = L.length → acc.length ≤ i →
    Ev (fun k => lang_text.l0 k x0 ((acc ++ vs).map mkB) L (L.length : Int) (L.length : Int)) v → Ev (fun k => lang_text.l0 k x0 (acc.map mkB) L (L.length : Int) (i : Int)) v
 | [], [], _, acc, i, hd, hi, ha, e => by
  simp only [List.length_nil, Nat.add_zero] at hi
  rw [List.append_nil] at e
  rw [hi]; exact e
 | t :: l, b :: vs, h, acc, i, hd, hi, ha, e => by
  obtain ⟨hp, h1, h2⟩ := rdL3_drop hd
  refine ev_step (fun k => by simp only [lang_text.l0] <;> exact rfl) (ev_pos (by omega) (ev_pos (by omega) (ev_pos (by omega) ?_)))
  rw [h1]
  refine Ev.bind h.1 (ev_pos (by rw [List.length_map]; omega) ?_)
  rw [w64 (by omega) (by omega), show (i : Int) + 1 = ((i + 1 : Nat) : Int) by omega, show acc.map mkB ++ [mkB b] = (acc ++ [b]).map mkB by simp]
  exact ptext_loop hL l vs h.2 (acc ++ [b]) (i + 1) h2 (by simp only [List.length_cons] at hi; omega) (by rw [List.length_append, List.length_singleton]; omega) (by rw [List.append_assoc]; exact e)
theorem map_mk (l : List Bs) : (l.map mkB).map (·.data.toList) = l := by
  rw [List.map_map]
  have : ((fun x : ByteArray => x.data.toList) ∘ mkB) = id := by funext l; rfl
  rw [this, List.map_id]
theorem pjoin_ev (l : List Bs) (h : l.length ≤ 1000) (hj : jl l ≤ 100000) : strings_Join.f (l.map mkB) (⟨#[44, 32]⟩ : ByteArray) = some (mkB (jn l)) := by
  unfold strings_Join.f
  have e : Lib.join ((l.map mkB).map (·.data.toList)) (⟨#[44, 32]⟩ : ByteArray).data.toList = jn l := by rw [map_mk]; exact join_jn l
  have := jn_len l
  rw [if_pos (by rw [List.length_map]; omega), e, if_pos (by omega)]; rfl
theorem ptext_node {s : S43} {k : Fo} (hk : k.ok) (h3 : s.f3 = (k.count : Int)) (hs : ndE s = 0) (hkn : k.nds) (hl : k.flat.length < 100) (ih : All2 PT k.trees k.texts) : PT (s :: k.flat) (nodeT s k.texts) := by
  have hrd : rd_T43 (s :: k.flat) 0 = s := rfl
  refine ev_step (fun k => by simp only [lang_text.f] <;> exact rfl) (ev_pos (by simp only [List.length_cons]; omega) ?_)
  rw [hrd]
  unfold nodeT
  by_cases h : s.f0 = 1
  · rw [if_pos h]
    exact ev_pos h (ev_eq (ev_now _) (ex_data _))
  rw [if_neg h]
  refine ev_neg h (Ev.bind (parg_ev s k hk h3 (by omega)) ?_)
  have hc := Fo.count_le k
  have hj := Fo.jl_texts k hkn
  have hin := inner_len s k.texts
  have hjn := jn_len (inner s k.texts)
  have hwd := wd_len s.f0
  have htl := Fo.trees_length k
  have htx := Fo.texts_length k
  have hr : 0 ≤ s.f2 ∧ s.f2 ≤ 16 := by
    rcases ndE_iff.1 hs with h2 | h2
    · exact absurd h2.1 h
    · have := h2.2.2.2.1; unfold rOk at this; have := h2.2.1; have := h2.1; omega
  refine ptext_loop (acc := []) (by omega) k.trees k.texts ih 0 rfl (by omega) (by simp) ?_
  rw [List.nil_append]
  refine ev_step (fun k => by simp only [lang_text.l0] <;> exact rfl) (ev_neg (by omega) (ev_pos (by simp only [List.length_cons]; omega) ?_))
  rw [hrd]
  simp only [lang_numbered.f, Option.bind_some, pword_ev, itoa_ev hr.1 hr.2]
  have e40 : mkB (wd s.f0) ++ (⟨#[40]⟩ : ByteArray) = mkB (wd s.f0 ++ [40]) := mkB_app _ [40]
  have sz : ∀ b : Bs, (mkB b).size = b.length := fun _ => rfl
  have fin : ∀ J : Bs, J.length ≤ 10000 → Ev (fun _ => if (mkB (wd s.f0)).size + 1 ≤ 9223372036854775807 then (if (mkB (wd s.f0) ++ (⟨#[40]⟩ : ByteArray)).size + (mkB J).size ≤ 9223372036854775807 then (if ((mkB (wd s.f0) ++ (⟨#[40]⟩ : ByteArray)) ++ mkB J).size + 1 ≤ 9223372036854775807 then (some (((mkB (wd s.f0) ++ (⟨#[40]⟩ : ByteArray)) ++ mkB J) ++ (⟨#[41]⟩ : ByteArray))) else (none)) else none) else none) (mkB (wd s.f0 ++ [40] ++ J ++ [41])) := by
    intro J hJ
    rw [e40, mkB_app, show mkB (wd s.f0 ++ [40] ++ J) ++ (⟨#[41]⟩ : ByteArray) = mkB (wd s.f0 ++ [40] ++ J ++ [41]) from mkB_app _ [41]]
    refine ev_pos (by rw [sz]; omega) (ev_pos (by rw [sz, sz]; simp only [List.length_append, List.length_singleton]; omega) (ev_pos (by rw [sz]; simp only [List.length_append, List.length_singleton]; omega) (ev_now _)))
  by_cases h5 : s.f0 ≥ 5
  · refine ev_pos (by rw [decide_eq_true_iff]; exact h5) (ev_pos (by rw [List.length_map]; omega) ?_)
    have ei : inner s k.texts = k.texts ++ [dg s.f2] := if_pos h5
    rw [ei] at hin hjn ⊢
    rw [show k.texts.map mkB ++ [mkB (dg s.f2)] = (k.texts ++ [dg s.f2]).map mkB by simp, pjoin_ev _ (by rw [List.length_append, List.length_singleton]; omega) (by omega)]
    simp only [Option.bind_some]
    exact fin _ (by omega)
  · refine ev_neg (by rw [decide_eq_true_iff]; exact h5) ?_
    have ei : inner s k.texts = k.texts := if_neg h5
    rw [ei] at hin hjn ⊢
    rw [pjoin_ev _ (by omega) (by omega)]
    simp only [Option.bind_some]
    exact fin _ (by omega)
theorem ptext_all : ∀ f : Fo, f.ok → f.nds → f.flat.length < 100 → All2 PT f.trees f.texts
 | .nil, _, _, _ => trivial
 | .cons s k r, ho, hn, hl => by
  obtain ⟨h3, hk, hr⟩ := ho
  obtain ⟨hs, hkn, hrn⟩ := Fo.nds_cons hn
  simp only [Fo.flat, List.length_cons, List.length_append] at hl
  exact ⟨ptext_node hk h3 hs hkn (by omega) (ptext_all k hk hkn (by omega)), ptext_all r hr hrn (by omega)⟩
end Go.Proofs.YtimikhbnihedkaaDoor.PAll
