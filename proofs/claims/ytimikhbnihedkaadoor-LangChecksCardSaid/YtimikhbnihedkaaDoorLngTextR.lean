/- Texts: the program's and the reference's Print answer alike. -/
import Derived.Test.YtimikhbnihedkaaDoorLngText
import Derived.Test.YtimikhbnihedkaaDoorLngTreeR
import Derived.Test.YtimikhbnihedkaaDoorPAllf13
namespace Go.Proofs.YtimikhbnihedkaaDoor.PAll
set_option linter.unusedVariables false
set_option linter.unusedSectionVars false
set_option linter.unusedSimpArgs false
open Go Go.RowKit Go.Proofs.YtimikhbnihedkaaDoorW.PrintWords Go.Proofs.YtimikhbnihedkaaDoorW.PrintLast Go.Proofs.YtimikhbnihedkaaDoorW.PrintMore Go.Proofs.YtimikhbnihedkaaDoor.MathNum Go.Proofs.YtimikhbnihedkaaDoor.EvWords

theorem dig_one {n : Nat} (h : n < 10) : Ev (fun k => dancestudioref35_digits.f k (n : Int)) (mkB [UInt8.ofNat (48 + n)]) := by
  refine ev_step (fun k => by simp only [dancestudioref35_digits.f] <;> exact rfl) (ev_neg (by omega) (ev_pos (by omega) ?_))
  rw [w64 (by omega) (by omega)]
  refine ev_pos (by omega) (ev_pos (by omega) (ev_eq (ev_now _) ?_))
  rw [Int.toNat_natCast, show ((n : Int) + 1).toNat = n + 1 by omega]
  have : ∀ m, m < 10 → ((⟨#[48, 49, 50, 51, 52, 53, 54, 55, 56, 57]⟩ : ByteArray).extract m (m + 1)).data.toList = [UInt8.ofNat (48 + m)] := by decide
  have e := ex_data ((⟨#[48, 49, 50, 51, 52, 53, 54, 55, 56, 57]⟩ : ByteArray).extract n (n + 1))
  rw [this n h] at e
  exact e
theorem dig_ev {n : Int} (h0 : 0 ≤ n) (h1 : n ≤ 16) : Ev (fun k => dancestudioref35_digits.f k n) (mkB (dg n)) := by
  obtain ⟨m, rfl⟩ := Int.eq_ofNat_of_zero_le h0
  unfold dg
  by_cases h : m < 10
  · rw [if_pos (by omega)]; exact dig_one h
  · rw [if_neg (by omega)]
    have e1 : Int.tdiv (m : Int) 10 = 1 := by rw [Int.tdiv_eq_ediv_of_nonneg h0]; omega
    have e2 : Int.tmod (m : Int) 10 = ((m - 10 : Nat) : Int) := by rw [Int.tmod_eq_emod_of_nonneg h0]; omega
    refine ev_step (fun k => by simp only [dancestudioref35_digits.f] <;> exact rfl) (ev_pos (by omega) ?_)
    rw [e1, e2, w64 (n := 1) (by decide) (by decide), w64 (n := 1 + 1) (by decide) (by decide)]
    refine ev_pos (by decide) (ev_pos (by decide) (ev_pos (by decide) ?_))
    have e3 : (⟨#[48, 49, 50, 51, 52, 53, 54, 55, 56, 57]⟩ : ByteArray).extract (1 : Int).toNat (1 + 1 : Int).toNat = mkB [49] := by
      rw [ex_data ((⟨#[48, 49, 50, 51, 52, 53, 54, 55, 56, 57]⟩ : ByteArray).extract (1 : Int).toNat (1 + 1 : Int).toNat)]
      have : ((⟨#[48, 49, 50, 51, 52, 53, 54, 55, 56, 57]⟩ : ByteArray).extract (1 : Int).toNat (1 + 1 : Int).toNat).data.toList = [49] := by decide
      rw [this]
    rw [e3]
    refine Ev.bind (dig_one (show m - 10 < 10 by omega)) (ev_pos (by rw [size_mk, size_mk]; simp) (ev_eq (ev_now _) ?_))
    rw [mkB_app, show (m : Int).toNat = m from Int.toNat_natCast m]; rfl

abbrev RT (t : List S43) (b : Bs) : Prop := Ev (fun n => dancestudioref35_printed.f n t) (mkB b)
theorem jl_snoc (a : List Bs) (b : Bs) (c : List Bs) : jl (a ++ b :: c) = jl a + (b.length + 2 + jl c) := by rw [jl_app, jl]
theorem rtext_loop {x0 : List S43} {L : List (List S43)} {v : ByteArray} {pre : Bs} (hL : L.length ≤ 1000) (hp : pre.length ≤ 100) : ∀ (l : List (List S43)) (vs : List Bs), All2 RT l vs → ∀ (acc : List Bs) (i : Nat), L.drop i = l → i + l.length = L.length → acc.length = i → jl (acc ++ vs) ≤ 10000 →
    Ev (fun k => dancestudioref35_printed.l0 k x0 (mkB (pre ++ jn (acc ++ vs))) L (L.length : Int)) v → Ev (fun k => dancestudioref35_printed.l0 k x0 (mkB (pre ++ jn acc)) L (i : Int)) v
 | [], [], _, acc, i, hd, hi, ha, hj, e => by
  simp only [List.length_nil, Nat.add_zero] at hi
  rw [List.append_nil] at e
  rw [hi]; exact e
 | t :: l, b :: vs, h, acc, i, hd, hi, ha, hj, e => by
  obtain ⟨hp', h1, h2⟩ := rdL3_drop hd
  have hj2 := hj
  rw [jl_snoc] at hj2
  have hja := jn_len acc
  have sz : ∀ b : Bs, (mkB b).size = b.length := fun _ => rfl
  have next : Ev (fun k => dancestudioref35_printed.l0 k x0 (mkB (pre ++ jn (acc ++ [b]))) L ((i + 1 : Nat) : Int)) v :=
    rtext_loop hL hp l vs h.2 (acc ++ [b]) (i + 1) h2 (by simp only [List.length_cons] at hi; omega) (by rw [List.length_append, List.length_singleton]; omega) (by rw [List.append_assoc]; exact hj) (by rw [List.append_assoc]; exact e)
  refine ev_step (fun k => by simp only [dancestudioref35_printed.l0] <;> exact rfl) (ev_pos (by omega) ?_)
  rw [h1, w64 (n := (i : Int) + 1) (by omega) (by omega), show (i : Int) + 1 = ((i + 1 : Nat) : Int) by omega]
  by_cases h0 : i = 0
  · have ea : acc = [] := List.length_eq_zero_iff.1 (by omega)
    subst ea
    have ej : jn ([] ++ [b]) = b := rfl
    rw [ej] at next
    refine ev_neg (by omega) (ev_pos (by omega) (Ev.bind h.1 (ev_pos ?_ ?_)))
    · rw [sz, sz]; simp only [jn, List.append_nil]; omega
    · rw [mkB_app]; simp only [jn, List.append_nil]; exact next
  · have ea : acc ≠ [] := fun q => h0 (by rw [q] at ha; exact ha.symm)
    rw [jn_snoc acc b ea] at next
    have e2 : mkB (pre ++ jn acc) ++ (⟨#[44, 32]⟩ : ByteArray) = mkB (pre ++ jn acc ++ sepB) := mkB_app _ [44, 32]
    refine ev_pos (by omega) (ev_pos ?_ (ev_pos (by omega) (Ev.bind h.1 (ev_pos ?_ ?_))))
    · rw [sz]; simp only [List.length_append]; omega
    · rw [e2, sz, sz]; simp only [List.length_append, sepB, List.length_cons, List.length_nil]; omega
    · rw [e2, mkB_app]
      simp only [List.append_assoc] at next ⊢
      exact next
theorem rtext_node {s : S43} {k : Fo} (hk : k.ok) (h3 : s.f3 = (k.count : Int)) (hs : ndE s = 0) (hkn : k.nds) (hl : k.flat.length < 64) (ih : All2 RT k.trees k.texts) : RT (s :: k.flat) (nodeT s k.texts) := by
  have hrd : rd_T43 (s :: k.flat) 0 = s := rfl
  refine ev_step (fun k => by simp only [dancestudioref35_printed.f] <;> exact rfl) (ev_pos (by simp only [List.length_cons]; omega) ?_)
  rw [hrd]
  unfold nodeT
  by_cases h : s.f0 = 1
  · rw [if_pos h]
    exact ev_pos h (ev_eq (ev_now _) (ex_data _))
  rw [if_neg h]
  have hc := Fo.count_le k
  have hj := Fo.jl_texts k hkn
  have hin := inner_len s k.texts
  have hjn := jn_len (inner s k.texts)
  have hjk := jn_len k.texts
  have hwd := wd_len s.f0
  have hdl := dg_len s.f2
  have htl := Fo.trees_length k
  have htx := Fo.texts_length k
  have hop : isOp s := (ndE_iff.1 hs).resolve_left (fun h2 => h h2.1)
  have hr : 0 ≤ s.f2 ∧ s.f2 ≤ 16 := by
    have := hop.2.2.2.1; unfold rOk at this; have := hop.2.1; have := hop.1; omega
  have hne : k.texts ≠ [] := fun q => by
    have := hop.2.2.2.2.1
    rw [q] at htx; simp only [List.length_nil] at htx; omega
  have sz : ∀ b : Bs, (mkB b).size = b.length := fun _ => rfl
  simp only [rword_ev, Option.bind_some]
  have e40 : mkB (wd s.f0) ++ (⟨#[40]⟩ : ByteArray) = mkB (wd s.f0 ++ [40]) := mkB_app _ [40]
  refine ev_neg h (ev_pos (by rw [sz]; omega) (ev_pos (by simp only [List.length_cons]; omega) ?_))
  rw [e40, List.drop_succ_cons, List.drop_zero]
  refine Ev.bind (rarg_ev k hk (Fo.nds8 hkn) (by omega)) ?_
  have base : wd s.f0 ++ [40] = (wd s.f0 ++ [40]) ++ jn [] := by simp [jn]
  generalize hV : mkB (wd s.f0 ++ [40] ++ jn (inner s k.texts) ++ [41]) = V
  rw [base]
  refine rtext_loop (acc := []) (i := 0) (by omega) (by rw [List.length_append, List.length_singleton]; omega) k.trees k.texts ih rfl (by omega) rfl (by rw [List.nil_append]; omega) ?_
  rw [List.nil_append]
  refine ev_step (fun k => by simp only [dancestudioref35_printed.l0] <;> exact rfl) (ev_neg (by omega) (ev_pos (by simp only [List.length_cons]; omega) ?_))
  rw [hrd]
  have hnum : dancestudioref35_numbered.f s.f0 = some (decide (s.f0 ≥ 5)) := by
    unfold dancestudioref35_numbered.f
    have := hop.2.1
    by_cases a5 : s.f0 = 5
    · rw [if_pos a5]; simp [a5]
    rw [if_neg a5]
    by_cases a6 : s.f0 = 6
    · rw [if_pos a6]; simp [a6]
    rw [if_neg a6]
    congr 1
    by_cases a7 : s.f0 = 7
    · simp [a7]
    · have : ¬ s.f0 ≥ 5 := by omega
      simp [this, a7]
  simp only [hnum, Option.bind_some]
  have e2 : mkB (wd s.f0 ++ [40] ++ jn k.texts) ++ (⟨#[44, 32]⟩ : ByteArray) = mkB (wd s.f0 ++ [40] ++ jn k.texts ++ sepB) := mkB_app _ [44, 32]
  by_cases h5 : s.f0 ≥ 5
  · refine ev_pos (by rw [decide_eq_true_iff]; exact h5) (ev_pos (by rw [sz]; simp only [List.length_append, List.length_singleton]; omega) ?_)
    have ei : inner s k.texts = k.texts ++ [dg s.f2] := if_pos h5
    rw [ei, jn_snoc _ _ hne] at hV
    rw [e2, ← hV]
    refine Ev.bind (dig_ev hr.1 hr.2) (ev_pos (by rw [sz, sz]; simp only [List.length_append, sepB, List.length_cons, List.length_nil]; omega) ?_)
    rw [mkB_app]
    refine ev_pos (by rw [sz]; simp only [List.length_append, sepB, List.length_cons, List.length_nil]; omega) (ev_eq (ev_now _) ?_)
    rw [show mkB (wd s.f0 ++ [40] ++ jn k.texts ++ sepB ++ dg s.f2) ++ (⟨#[41]⟩ : ByteArray) = mkB (wd s.f0 ++ [40] ++ jn k.texts ++ sepB ++ dg s.f2 ++ [41]) from mkB_app _ [41]]
    simp only [List.append_assoc]
  · refine ev_neg (by rw [decide_eq_true_iff]; exact h5) (ev_pos (by rw [sz]; simp only [List.length_append, List.length_singleton]; omega) (ev_eq (ev_now _) ?_))
    have ei : inner s k.texts = k.texts := if_neg h5
    rw [ei] at hV
    rw [← hV]
    exact mkB_app _ [41]
theorem rtext_all : ∀ f : Fo, f.ok → f.nds → f.flat.length < 64 → All2 RT f.trees f.texts
 | .nil, _, _, _ => trivial
 | .cons s k r, ho, hn, hl => by
  obtain ⟨h3, hk, hr⟩ := ho
  obtain ⟨hs, hkn, hrn⟩ := Fo.nds_cons hn
  simp only [Fo.flat, List.length_cons, List.length_append] at hl
  exact ⟨rtext_node hk h3 hs hkn (by omega) (rtext_all k hk hkn (by omega)), rtext_all r hr hrn (by omega)⟩
/-- Both texts of a valid expression. -/
theorem text_ev {s : S43} {k : Fo} (hk : k.ok) (h3 : s.f3 = (k.count : Int)) (hs : ndE s = 0) (hkn : k.nds) (hl : k.flat.length < 64) : PT (s :: k.flat) (nodeT s k.texts) ∧ RT (s :: k.flat) (nodeT s k.texts) :=
  ⟨ptext_node hk h3 hs hkn (by omega) (ptext_all k hk hkn (by omega)), rtext_node hk h3 hs hkn hl (rtext_all k hk hkn hl)⟩
theorem print_ev (l : List S43) : ∃ v : ByteArray × Int, Ev (fun k => lang_Print.f k l) v ∧ Ev (fun k => dancestudioref35_Print.f k l) v := by
  unfold lang_Print.f dancestudioref35_Print.f
  by_cases h : chkE l = 0
  · obtain ⟨s, k, rfl, hk, h3, hs, hkn, hl⟩ := tree_of h
    obtain ⟨p, r⟩ := text_ev hk h3 hs hkn hl
    exact ⟨(mkB (nodeT s k.texts), 0), Ev.bind (pchk_ev _) (ev_pos h (Ev.bind p (ev_now _))), Ev.bind (rchk_ev _) (ev_pos h (Ev.bind r (ev_now _)))⟩
  · exact ⟨((⟨#[]⟩ : ByteArray), chkE l), Ev.bind (pchk_ev _) (ev_neg h (ev_now _)), Ev.bind (rchk_ev _) (ev_neg h (ev_now _))⟩
end Go.Proofs.YtimikhbnihedkaaDoor.PAll
