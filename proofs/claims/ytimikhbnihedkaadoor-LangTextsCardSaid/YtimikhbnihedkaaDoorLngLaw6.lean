/- Texts and expressions are inverse (plain). -/
import Derived.Test.YtimikhbnihedkaaDoorLngTok
import Derived.Test.YtimikhbnihedkaaDoorLngText
import Derived.Test.YtimikhbnihedkaaDoorLngSame
import Derived.Test.YtimikhbnihedkaaDoorPAllf8
namespace Go.Proofs.YtimikhbnihedkaaDoor.PAll
set_option linter.unusedVariables false
open Go Go.RowKit Go.Proofs.YtimikhbnihedkaaDoorW.PrintWords Go.Proofs.YtimikhbnihedkaaDoorW.PrintLast Go.Proofs.YtimikhbnihedkaaDoorW.PrintMore Go.Proofs.YtimikhbnihedkaaDoor.MathNum Go.Proofs.YtimikhbnihedkaaDoor.EvWords
theorem dense_l0 (l : Bs) (hl : l.length ≤ 100000) (d : Nat) : ∀ (i : Nat) (acc : Bs), i + d = l.length → acc.length ≤ i → Ev (fun k => dancestudiolaw35_dense.l0 k (mkB l) (mkB acc) (i : Int)) (mkB (acc ++ dn (l.drop i))) := by
  induction d with
  | zero =>
    intro i acc hi ha
    rw [List.drop_eq_nil_of_le (by omega), show dn [] = [] from rfl, List.append_nil]
    exact ev_step (fun k => by simp only [dancestudiolaw35_dense.l0] <;> exact rfl) (ev_neg (by rw [size_mk]; omega) (ev_now _))
  | succ d ih =>
    intro i acc hi ha
    have hlt : i < l.length := by omega
    have hd : l.drop i = l[i] :: l.drop (i + 1) := List.drop_eq_getElem_cons hlt
    obtain ⟨_, hb, _⟩ := drop_lt l hd
    have ew : wrap64 ((i : Int) + 1) = ((i + 1 : Nat) : Int) := by rw [w64 (by omega) (by omega)]; omega
    have hs : ((mkB l).size : Int) = (l.length : Int) := by rw [size_mk]
    refine ev_step (fun k => by simp only [dancestudiolaw35_dense.l0] <;> exact rfl) (ev_pos (by rw [hs]; omega) (ev_pos (by omega) ?_))
    rw [hb, ew, hd]
    by_cases h32 : l[i] = 32
    · have e : dn (l[i] :: l.drop (i + 1)) = dn (l.drop (i + 1)) := by rw [h32]; rfl
      rw [e]
      exact ev_pos (by rw [h32]; decide) (ih (i + 1) acc (by omega) (by omega))
    · have e : dn (l[i] :: l.drop (i + 1)) = l[i] :: dn (l.drop (i + 1)) := by unfold dn; rw [List.filter_cons_of_pos (by simpa using h32)]
      have ex : (mkB l).extract (i : Int).toNat ((i + 1 : Nat) : Int).toNat = mkB [l[i]] := by
        rw [Int.toNat_natCast, Int.toNat_natCast, mk_extract, hd, show i + 1 - i = 1 by omega]; rfl
      refine ev_neg (fun q => h32 ((u8_eq (n := 32) (by decide)).1 q)) (ev_pos (by omega) (ev_pos (by rw [hs]; omega) ?_))
      rw [ex]
      refine ev_pos (by rw [size_mk, size_mk]; simp only [List.length_singleton]; omega) ?_
      rw [mkB_app, e, show acc ++ l[i] :: dn (l.drop (i + 1)) = (acc ++ [l[i]]) ++ dn (l.drop (i + 1)) by simp]
      exact ih (i + 1) (acc ++ [l[i]]) (by omega) (by rw [List.length_append, List.length_singleton]; omega)
theorem dense_ev (l : Bs) (hl : l.length ≤ 100000) : Ev (fun k => dancestudiolaw35_dense.f k (mkB l)) (mkB (dn l)) := by
  have := dense_l0 l hl l.length 0 [] (by omega) (by simp)
  rw [List.drop_zero, List.nil_append] at this
  exact this
theorem print_tree {s : S43} {k : Fo} (hk : k.ok) (h3 : s.f3 = (k.count : Int)) (hs : ndE s = 0) (hkn : k.nds) (hl : k.flat.length < 64) : Ev (fun n => lang_Print.f n (s :: k.flat)) (mkB (nodeT s k.texts), 0) := by
  unfold lang_Print.f
  exact Ev.bind (pchk_ev _) (ev_pos (chk_tree s k hk h3 hs hkn hl) (Ev.bind (ptext_node hk h3 hs hkn (by omega) (ptext_all k hk hkn (by omega))) (ev_now _)))
theorem print_bad {l : List S43} (h : chkE l ≠ 0) : Ev (fun n => lang_Print.f n l) ((⟨#[]⟩ : ByteArray), chkE l) := by
  unfold lang_Print.f
  exact Ev.bind (pchk_ev _) (ev_neg h (ev_now _))
theorem text_j2 (a : Bs) : Ev (fun k => dancestudiolaw35_LangTexts.j2 k (mkB a)) true := by
  refine ev_step (fun k => by simp only [dancestudiolaw35_LangTexts.j2] <;> exact rfl) (Ev.bind (parse_ev a) ?_)
  by_cases h : (parseV a).2 = 0
  · refine ev_pos h ?_
    have hv := h
    unfold parseV at hv
    by_cases hl : a.length > 1024
    · rw [if_pos hl] at hv; exact absurd hv (by decide)
    rw [if_neg hl] at hv
    by_cases h2 : (readV a).2 = 0
    · rw [if_pos h2] at hv
      by_cases hc : chkE (readV a).1 = 0
      · have ep : parseV a = ((readV a).1, 0) := by unfold parseV; rw [if_neg hl, if_pos h2, if_pos hc]
        rw [ep]
        unfold readV at h2 hc ⊢
        cases hp : pAll a with
        | none => rw [hp] at h2; exact absurd h2 (by decide)
        | some x =>
          rw [hp] at h2 hc
          by_cases hx : x.2 = []
          · simp only [hx, if_true] at hc ⊢
            obtain ⟨⟨s, k⟩, r⟩ := x
            simp only at hx hc ⊢
            subst hx
            obtain ⟨c1, c2, c3, c4⟩ := chkE_split.1 hc
            obtain ⟨hk, h3, hdn⟩ := back_dn hp c3
            have hs := c3 s (by simp)
            have hkn : k.nds := fun t ht => c3 t (by simp [ht])
            have hkl : k.flat.length < 64 := by simp only [List.length_cons] at c2; omega
            have htl : (nodeT s k.texts).length ≤ 100000 := by
              have := nodeT_len hs k.texts
              have := Fo.jl_texts k hkn
              omega
            refine Ev.bind (print_tree hk h3 hs hkn hkl) (ev_pos (show (0 : Int) = 0 from rfl) ?_)
            refine Ev.bind (dense_ev _ htl) (Ev.bind (dense_ev _ (by omega)) ?_)
            exact ev_pos (by rw [hdn]) awake_out
          · simp only [if_neg hx] at h2; exact absurd h2 (by decide)
      · rw [if_neg hc] at hv; exact absurd hv hc
    · rw [if_neg h2] at hv; exact absurd hv h2
  · refine ev_neg h ?_
    have e : (parseV a).1 = [] := by
      unfold parseV at h ⊢
      by_cases hl : a.length > 1024
      · rw [if_pos hl]
      rw [if_neg hl] at h ⊢
      by_cases h2 : (readV a).2 = 0
      · rw [if_pos h2] at h ⊢
        by_cases hc : chkE (readV a).1 = 0
        · rw [if_pos hc] at h; exact absurd rfl h
        · rw [if_neg hc]
      · rw [if_neg h2]
    rw [e]
    exact ev_pos (show (([] : List S43).length : Int) = 0 from rfl) awake_out
theorem pure_LangTexts (l : List S43) (_ : l.length ≤ maxLen) (_ : ∀ a ∈ l, True) (a : ByteArray) : ∃ k, dancestudiolaw35_LangTexts.f k l a = some true := by
  apply Ev.rounds
  unfold dancestudiolaw35_LangTexts.f
  have out : ∀ b : Bool, b = true → Ev (fun k => dancestudiolaw35_LangTexts.j0 k l a b) true := fun b hb =>
    ev_step (fun k => by simp only [dancestudiolaw35_LangTexts.j0] <;> exact rfl) (ev_pos hb awake_out)
  obtain ⟨b, _, hb⟩ := short_ev l
  refine Ev.bind hb (ev_ite (fun h => ?_) (fun h => out true rfl))
  by_cases hsz : (a.size : Int) > 1100
  · exact out _ (decide_eq_true hsz)
  rw [decide_eq_false hsz]
  have j2 := text_j2 a.data.toList
  rw [← ex_data a] at j2
  refine ev_step (fun k => by simp only [dancestudiolaw35_LangTexts.j0] <;> exact rfl) (ev_neg (by simp) ?_)
  have j1f : ∀ (t : ByteArray) (b : Bool), b = false → Ev (fun k => dancestudiolaw35_LangTexts.j1 k l a t b) true := fun t b hb =>
    ev_step (fun k => by simp only [dancestudiolaw35_LangTexts.j1] <;> exact rfl) (ev_neg (by rw [hb]; decide) j2)
  by_cases hc : chkE l = 0
  · obtain ⟨s, k, rfl, hk, h3, hs, hkn, hlen⟩ := tree_of hc
    refine Ev.bind (print_tree hk h3 hs hkn hlen) (ev_pos (show (0 : Int) = 0 from rfl) ?_)
    have hsz2 : ((mkB (nodeT s k.texts)).size : Int) = ((nodeT s k.texts).length : Int) := by rw [size_mk]
    by_cases h1024 : ((mkB (nodeT s k.texts)).size : Int) ≤ 1024
    · rw [decide_eq_true h1024]
      have hr : readV (nodeT s k.texts) = (s :: k.flat, 0) := by
        unfold readV
        rw [pAll_text hk h3 hs hkn]; rfl
      have ep : parseV (nodeT s k.texts) = (s :: k.flat, 0) := by
        unfold parseV
        rw [if_neg (by rw [hsz2] at h1024; omega), hr, if_pos rfl, if_pos hc]
      have pe := parse_ev (nodeT s k.texts)
      rw [ep] at pe
      refine ev_step (fun k => by simp only [dancestudiolaw35_LangTexts.j1] <;> exact rfl) (ev_pos (by first | trivial | rfl) (Ev.bind pe (ev_pos (show (0 : Int) = 0 from rfl) ?_)))
      exact Ev.bind (same_ev (s :: k.flat) (by simp only [List.length_cons]; omega)) (ev_pos (show true = true from rfl) j2)
    · exact j1f _ _ (decide_eq_false h1024)
  · exact Ev.bind (print_bad hc) (ev_neg hc (j1f _ _ rfl))
end Go.Proofs.YtimikhbnihedkaaDoor.PAll
