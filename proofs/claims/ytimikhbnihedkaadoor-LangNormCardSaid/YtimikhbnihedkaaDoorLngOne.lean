/- The normal form, as the program answers it. -/
import Derived.Test.YtimikhbnihedkaaDoorLngWrit
import Derived.Test.YtimikhbnihedkaaDoorMC3
namespace Go.Proofs.YtimikhbnihedkaaDoor.PAll
set_option linter.unusedVariables false
set_option linter.unusedSectionVars false
set_option linter.unusedSimpArgs false
open Go Go.RowKit Go.Proofs.YtimikhbnihedkaaDoorW.PrintWords Go.Proofs.YtimikhbnihedkaaDoorW.PrintLast Go.Proofs.YtimikhbnihedkaaDoorW.PrintMore Go.Proofs.YtimikhbnihedkaaDoor.MathNum Go.Proofs.YtimikhbnihedkaaDoor.EvWords

def seq1 : List (List S43) → List S43
  | [e] => e
  | c => (⟨2, noB, 0, (c.length : Int)⟩ : S43) :: c.flatten
theorem seq1_big {c : List (List S43)} (h : c.length ≠ 1) : seq1 c = (⟨2, noB, 0, (c.length : Int)⟩ : S43) :: c.flatten := by
  match c, h with
  | [], _ => rfl
  | [e], h => exact absurd rfl h
  | a :: b :: l, _ => rfl
def grp : Nat → List (List S43) → List (List S43)
  | 0, _ => []
  | n + 1, l => if l.length = 0 then [] else seq1 (l.take 8) :: grp n (l.drop 8)
def oneV (l : List (List S43)) : List S43 := if l.length ≤ 8 then seq1 l else seq1 (grp 8 l)
theorem flat_take {α : Type} (l : List (List α)) (n : Nat) : (l.take n).flatten.length ≤ l.flatten.length := by
  have : l.flatten = (l.take n).flatten ++ (l.drop n).flatten := by rw [← List.flatten_append, List.take_append_drop]
  rw [this, List.length_append]; omega
theorem flat_drop {α : Type} (l : List (List α)) (n : Nat) : (l.drop n).flatten.length ≤ l.flatten.length := by
  have : l.flatten = (l.take n).flatten ++ (l.drop n).flatten := by rw [← List.flatten_append, List.take_append_drop]
  rw [this, List.length_append]; omega
theorem one_l1 {l : List (List S43)} (hl : l.length ≤ 64) (hf : l.flatten.length ≤ 90000) {v : List S43} : ∀ (n i : Nat) (acc : List (List S43)), l.length ≤ i + 8 * n → i ≤ 100 → acc.length ≤ i → Ev (fun k => lang_one.l0 k (acc ++ grp n (l.drop i))) v → Ev (fun k => lang_one.l1 k l acc (i : Int)) v
  | 0, i, acc, hi, hb, ha, e => by
    rw [grp, List.append_nil] at e
    exact ev_step (fun k => by simp only [lang_one.l1] <;> exact rfl) (ev_neg (by omega) e)
  | n + 1, i, acc, hi, hb, ha, e => by
    by_cases h : i < l.length
    · have hdl : (l.drop i).length = l.length - i := List.length_drop
      rw [grp, if_neg (by rw [hdl]; omega), List.drop_drop] at e
      have hm : mn ((i : Int) + 8) (l.length : Int) = ((min (i + 8) l.length : Nat) : Int) := by unfold mn; split <;> omega
      refine ev_step (fun k => by simp only [lang_one.l1] <;> exact rfl) (ev_pos (by omega) (ev_pos (by omega) ?_))
      rw [w64 (n := (i : Int) + 8) (by omega) (by omega), hm]
      refine ev_pos (by omega) (ev_pos (by omega) ?_)
      simp only [Option.bind_some, Int.toNat_natCast]
      have et : (l.take (min (i + 8) l.length)).drop i = (l.drop i).take 8 := by
        rw [List.drop_take]
        by_cases h8 : i + 8 ≤ l.length
        · rw [show min (i + 8) l.length - i = 8 by omega]
        · rw [List.take_of_length_le (by omega), List.take_of_length_le (by omega)]
      rw [et, show (i : Int) + 8 = ((i + 8 : Nat) : Int) by omega]
      have hcl : ((l.drop i).take 8).length = min 8 (l.length - i) := by rw [List.length_take, hdl]
      have ecs : ∀ c, (acc ++ [c]) ++ grp n (l.drop (i + 8)) = acc ++ c :: grp n (l.drop (i + 8)) := fun c => by simp
      by_cases h1 : ((l.drop i).take 8).length = 1
      · obtain ⟨c, hc⟩ := List.length_eq_one_iff.1 h1
        rw [hc] at e ⊢
        refine ev_pos (by simp) (ev_pos (by simp) (ev_pos (by omega) ?_))
        exact one_l1 hl hf n (i + 8) (acc ++ [c]) (by omega) (by omega) (by rw [List.length_append, List.length_singleton]; omega) (by rw [ecs]; exact e)
      · have h1' : ¬ (((l.drop i).take 8).length : Int) = 1 := by omega
        have hfl : ((l.drop i).take 8).flatten.length ≤ 90000 := Nat.le_trans (flat_take _ _) (Nat.le_trans (flat_drop _ _) hf)
        refine ev_neg h1' (Ev.bind (tree_ev 2 (⟨#[]⟩ : ByteArray) 0 0 ((l.drop i).take 8) (by omega) (by omega)) (ev_pos (by omega) ?_))
        rw [seq1_big h1] at e
        exact one_l1 hl hf n (i + 8) (acc ++ [_]) (by omega) (by omega) (by rw [List.length_append, List.length_singleton]; omega) (by rw [ecs]; exact e)
    · have hd : l.drop i = [] := List.drop_eq_nil_of_le (by omega)
      rw [hd, grp, if_pos (show ([] : List (List S43)).length = 0 from rfl), List.append_nil] at e
      exact ev_step (fun k => by simp only [lang_one.l1] <;> exact rfl) (ev_neg (by omega) e)
theorem grp_len : ∀ (n : Nat) (l : List (List S43)), (grp n l).length ≤ n ∧ (l.length ≤ 8 * n → 8 * (grp n l).length ≤ l.length + 7 ∧ l.length ≤ 8 * (grp n l).length)
  | 0, l => ⟨by simp [grp], fun h => by simp only [grp, List.length_nil]; omega⟩
  | n + 1, l => by
    unfold grp
    by_cases h : l.length = 0
    · rw [if_pos h]; simp only [List.length_nil]; omega
    · rw [if_neg h]
      obtain ⟨g1, g2⟩ := grp_len n (l.drop 8)
      rw [List.length_drop] at g2
      simp only [List.length_cons]
      refine ⟨by omega, fun h2 => ?_⟩
      have := g2 (by omega)
      omega
theorem grp_flat : ∀ (n : Nat) (l : List (List S43)), (grp n l).flatten.length ≤ l.flatten.length + n
  | 0, l => by simp [grp]
  | n + 1, l => by
    unfold grp
    by_cases h : l.length = 0
    · rw [if_pos h]; simp
    · rw [if_neg h, List.flatten_cons, List.length_append]
      have h1 := grp_flat n (l.drop 8)
      have h2 : (seq1 (l.take 8)).length ≤ (l.take 8).flatten.length + 1 := by
        by_cases q : (l.take 8).length = 1
        · obtain ⟨c, hc⟩ := List.length_eq_one_iff.1 q
          rw [hc]; simp [seq1]
        · rw [seq1_big q]; simp
      have h3 : l.flatten = (l.take 8).flatten ++ (l.drop 8).flatten := by rw [← List.flatten_append, List.take_append_drop]
      rw [h3, List.length_append]; omega
theorem one_one {c : List S43} : Ev (fun k => lang_one.l0 k [c]) c :=
  ev_step (fun k => by simp only [lang_one.l0] <;> exact rfl) (ev_neg (by simp) (ev_pos (by simp) (ev_now _)))
theorem one_small {l : List (List S43)} (h1 : 1 ≤ l.length) (h8 : l.length ≤ 8) (hf : l.flatten.length ≤ 90000) : Ev (fun k => lang_one.l0 k l) (seq1 l) := by
  by_cases h : l.length = 1
  · obtain ⟨c, rfl⟩ := List.length_eq_one_iff.1 h
    exact one_one
  · refine ev_step (fun k => by simp only [lang_one.l0] <;> exact rfl) (ev_pos (by omega) ?_)
    refine one_l1 (by omega) hf 1 0 [] (by omega) (by omega) (by simp) ?_
    rw [List.drop_zero, grp, if_neg (by omega), grp, List.take_of_length_le (by omega), List.nil_append]
    exact one_one
theorem one_ev {l : List (List S43)} (h1 : 1 ≤ l.length) (h64 : l.length ≤ 64) (hf : l.flatten.length ≤ 80000) : Ev (fun k => lang_one.f k l) (oneV l) := by
  unfold lang_one.f oneV
  by_cases h8 : l.length ≤ 8
  · rw [if_pos h8]; exact one_small h1 h8 (by omega)
  · rw [if_neg h8]
    have g := grp_len 8 l
    have g2 := g.2 (by omega)
    have gf := grp_flat 8 l
    refine ev_step (fun k => by simp only [lang_one.l0] <;> exact rfl) (ev_pos (by omega) ?_)
    refine one_l1 h64 (by omega) 8 0 [] (by omega) (by omega) (by simp) ?_
    rw [List.drop_zero, List.nil_append]
    exact one_small (by omega) g.1 (by omega)
/-! ### Norm -/
def endV (o : List S43) : List S43 × Int := if (o.length : Int) > 64 then ([], 3) else (o, 0)
def nrmV (v : List S63 × Bool) : List S43 × Int := if v.2 = true then endV (oneV (v.1.map wrN)) else ([], 3)
theorem wrN_len (x : S63) (hx : Inv x) : (wrN x).length ≤ 1000 := by
  have := facs_len x hx
  unfold wrN opsN hdN
  simp only [List.length_append, List.length_map, List.length_singleton]
  have h1 : (if x.f1 > 0 then [un 5 x.f1] else ([] : List S43)).length ≤ 1 := by split <;> simp
  have h2 : (if x.f2 = true then [un 3 0] else ([] : List S43)).length ≤ 1 := by split <;> simp
  have h3 : (if x.f3 = true then [un 4 0] else ([] : List S43)).length ≤ 1 := by split <;> simp
  omega
theorem parts_flat : ∀ (l : List S63), (∀ x, x ∈ l → Inv x) → (l.map wrN).flatten.length ≤ 1000 * l.length
  | [], _ => by simp
  | x :: l, h => by
    have h1 := wrN_len x (h x (by simp))
    have h2 := parts_flat l (fun y hy => h y (by simp [hy]))
    simp only [List.map_cons, List.flatten_cons, List.length_append, List.length_cons]; omega
theorem norm_l0 {lv : List S63} (h64 : lv.length ≤ 64) (h1 : 1 ≤ lv.length) (hi : ∀ x, x ∈ lv → Inv x) : ∀ (d i : Nat) (acc : List (List S43)), i + d = lv.length → acc = (lv.take i).map wrN →
    Ev (fun k => lang_Norm.l0 k acc lv (lv.length : Int) (i : Int)) (endV (oneV (lv.map wrN)))
  | 0, i, acc, h, ha => by
    have e : acc = lv.map wrN := by rw [ha, List.take_of_length_le (by omega)]
    subst e
    have := parts_flat lv hi
    refine ev_step (fun k => by simp only [lang_Norm.l0] <;> exact rfl) (ev_neg (by omega) (Ev.bind (one_ev (by rw [List.length_map]; omega) (by rw [List.length_map]; omega) (by omega)) ?_))
    unfold endV
    exact ev_ite (fun h => ev_eq (ev_now _) (by rw [if_pos h])) (fun h => ev_eq (ev_now _) (by rw [if_neg h]))
  | d + 1, i, acc, h, ha => by
    have hlt : i < lv.length := by omega
    have hal : acc.length ≤ 64 := by rw [ha, List.length_map, List.length_take]; omega
    refine ev_step (fun k => by simp only [lang_Norm.l0] <;> exact rfl) (ev_pos (by omega) (ev_pos (by omega) (ev_pos (by omega) ?_)))
    rw [rd63 lv hlt, w64 (by omega) (by omega), show (i : Int) + 1 = ((i + 1 : Nat) : Int) by omega]
    refine Ev.bind (written_ev lv[i] (hi _ (List.getElem_mem hlt))) (ev_pos rfl (ev_pos (by omega) ?_))
    refine norm_l0 h64 h1 hi d (i + 1) _ (by omega) ?_
    rw [List.take_succ_eq_append_getElem hlt, List.map_append, ha]; rfl
theorem norm_tree {s : S43} {k : Fo} (hk : k.ok) (h3 : s.f3 = (k.count : Int)) (hs : ndE s = 0) (hkn : k.nds) (hl : k.flat.length < 64) : Ev (fun n => lang_Norm.f n (s :: k.flat)) (nrmV (nodeL s k.lvs)) := by
  obtain ⟨e, g⟩ := leaves_ev hk h3 hs hkn (by omega)
  unfold lang_Norm.f nrmV
  refine Ev.bind (pchk_ev _) (ev_pos (chk_tree s k hk h3 hs hkn hl) (Ev.bind e ?_))
  by_cases h : (nodeL s k.lvs).2 = true
  · obtain ⟨g1, g2, g3⟩ := g h
    rw [if_pos h]
    exact ev_pos h (norm_l0 g2 g3 g1 _ 0 [] (Nat.zero_add _) rfl)
  · rw [if_neg h]
    exact ev_neg h (ev_now _)
theorem norm_bad {l : List S43} (h : chkE l ≠ 0) : Ev (fun n => lang_Norm.f n l) ([], chkE l) := by
  unfold lang_Norm.f
  exact Ev.bind (pchk_ev _) (ev_neg h (ev_now _))
end Go.Proofs.YtimikhbnihedkaaDoor.PAll
