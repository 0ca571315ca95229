/- Mirror images and rotations. -/
import Derived.Test.YtaggccbndmmbhaaDoorBase
import Derived.Test.YtaggccbndmmbhaaDoorPAllf23
import Derived.Test.YtaggccbndmmbhaaDoorPAllf24
import Derived.Test.YtaggccbndmmbhaaDoorPAllf25
import Derived.Test.YtaggccbndmmbhaaDoorPAllf26
import Derived.Test.YtaggccbndmmbhaaDoorPAllf41
import Derived.Test.YtaggccbndmmbhaaDoorPAllf43
import Derived.Test.YtaggccbndmmbhaaDoorPAllf44
import Derived.Test.YtaggccbndmmbhaaDoorPAllf65
import Derived.Test.YtaggccbndmmbhaaDoorPAllf114
import Derived.Test.YtaggccbndmmbhaaDoorChk
namespace Go.Proofs.YtaggccbndmmbhaaDoor.PAll
set_option linter.unusedVariables false
open Go Go.RowKit Go.Proofs.YtaggccbndmmbhaaDoorW.PrintWords Go.Proofs.YtaggccbndmmbhaaDoorW.PrintLast Go.Proofs.YtaggccbndmmbhaaDoorW.PrintMore Go.Proofs.YtaggccbndmmbhaaDoor.MathNum Go.Proofs.YtaggccbndmmbhaaDoor.EvWords

def mirP (p : S52) : S52 := ⟨-p.f0, p.f1⟩
/-- Quarters, clockwise. -/
def rotP (m : Int) (p : S52) : S52 := if m % 4 = 0 then p else if m % 4 = 1 then ⟨p.f1, -p.f0⟩ else if m % 4 = 2 then ⟨-p.f0, -p.f1⟩ else ⟨-p.f1, p.f0⟩
theorem round_exact (k : Nat) (v : Int) (h1 : -32768 ≤ v) (h2 : v ≤ 32768) (a : Int) (ha : a = 16384 * v) : num_Round.f (k + 3) a 16384 = some (v, 0) := by
  have sm : num_small.f (k + 3) [a, 16384] = some true := by
    unfold num_small.f
    have e0 : rd [a, 16384] 0 = a := rfl
    have e1 : rd [a, 16384] 1 = 16384 := rfl
    simp only [num_small.l0, List.length_cons, List.length_nil]
    rw [if_pos (by omega), if_pos (by omega), if_pos (by omega), e0, if_neg (by omega), if_neg (by omega)]
    rw [show wrap64 (0 + 1) = 1 from w64 (by omega) (by omega), if_pos (by omega), if_pos (by omega), if_pos (by omega), e1, if_neg (by omega), if_neg (by omega)]
    rw [show wrap64 (1 + 1) = 2 from w64 (by omega) (by omega), if_neg (by omega)]
  have d1 : Int.tdiv a 16384 = v := by rw [ha]; exact Int.mul_tdiv_cancel_left v (by omega)
  have d2 : Int.tmod a 16384 = 0 := by rw [ha]; exact Int.mul_tmod_right 16384 v
  unfold num_Round.f
  rw [sm]
  simp only [Option.bind_some, if_true]
  rw [if_neg (by omega), if_neg (by omega)]
  unfold num_nearest.f num_divide.f
  rw [if_neg (by omega), d1, d2, if_neg (by omega)]
  simp only [Option.bind_some]
  rw [w64 (n := v) (by omega) (by omega), show wrap64 (2 * 0) = 0 from w64 (by omega) (by omega), if_neg (by omega), if_neg (by omega)]
  rfl
theorem turned_some (k : Nat) (x y : Int) (h : -32768 ≤ x ∧ x ≤ 32768 ∧ -32768 ≤ y ∧ y ≤ 32768) (a c s X Y : Int) (hc : angle_Cos.f a = some c) (hs : angle_Sin.f a = some s) (hb : -16384 ≤ c ∧ c ≤ 16384 ∧ -16384 ≤ s ∧ s ≤ 16384)
    (e1 : x * c + y * s = 16384 * X) (e2 : y * c - x * s = 16384 * Y) (hX : -32768 ≤ X ∧ X ≤ 32768) (hY : -32768 ≤ Y ∧ Y ≤ 32768) : angle_Turned.f (k + 3) x y a = some (X, Y, 0) := by
  unfold angle_Turned.f
  rw [if_pos h, hc, hs]
  simp only [Option.bind_some]
  have m1 := mul_range2 (a := x) (b := c) (A := 32768) (B := 16384) (by omega) (by omega) (by omega) (by omega)
  have m2 := mul_range2 (a := y) (b := s) (A := 32768) (B := 16384) (by omega) (by omega) (by omega) (by omega)
  have m3 := mul_range2 (a := y) (b := c) (A := 32768) (B := 16384) (by omega) (by omega) (by omega) (by omega)
  have m4 := mul_range2 (a := x) (b := s) (A := 32768) (B := 16384) (by omega) (by omega) (by omega) (by omega)
  rw [w64 (n := x * c) (by omega) (by omega), w64 (n := y * s) (by omega) (by omega), w64 (n := y * c) (by omega) (by omega), w64 (n := x * s) (by omega) (by omega), w64 (n := x * c + y * s) (by omega) (by omega), w64 (n := y * c - x * s) (by omega) (by omega)]
  rw [round_exact k X hX.1 hX.2 _ e1, round_exact k Y hY.1 hY.2 _ e2]
  simp
theorem tmod4 (q : Int) : q.tmod 4 % 4 = q % 4 ∧ -3 ≤ q.tmod 4 ∧ q.tmod 4 ≤ 3 := by
  rw [Int.tmod_eq_emod]; split <;> omega
theorem rot_some (k : Nat) (p : S52) (h : inR p) (q : Int) : formation_Rotate_fn1.f (k + 3) p.f0 p.f1 q = some ((rotP q p).f0, (rotP q p).f1) := by
  obtain ⟨t1, t2, t3⟩ := tmod4 q
  unfold inR at h
  unfold formation_Rotate_fn1.f
  have e : rotP q p = rotP (q.tmod 4) p := by unfold rotP; rw [t1]
  rw [e, w64 (by omega) (by omega)]
  generalize q.tmod 4 = m at *
  have c : m = -3 ∨ m = -2 ∨ m = -1 ∨ m = 0 ∨ m = 1 ∨ m = 2 ∨ m = 3 := by omega
  rcases c with rfl | rfl | rfl | rfl | rfl | rfl | rfl
  · rw [show (-3 : Int) * 64 = -192 from rfl, turned_some k p.f0 p.f1 h (-192) 0 16384 p.f1 (-p.f0) (by decide +kernel) (by decide +kernel) (by omega) (by omega) (by omega) (by omega) (by omega)]; rfl
  · rw [show (-2 : Int) * 64 = -128 from rfl, turned_some k p.f0 p.f1 h (-128) (-16384) 0 (-p.f0) (-p.f1) (by decide +kernel) (by decide +kernel) (by omega) (by omega) (by omega) (by omega) (by omega)]; rfl
  · rw [show (-1 : Int) * 64 = -64 from rfl, turned_some k p.f0 p.f1 h (-64) 0 (-16384) (-p.f1) p.f0 (by decide +kernel) (by decide +kernel) (by omega) (by omega) (by omega) (by omega) (by omega)]; rfl
  · rw [show (0 : Int) * 64 = 0 from rfl, turned_some k p.f0 p.f1 h 0 16384 0 p.f0 p.f1 (by decide +kernel) (by decide +kernel) (by omega) (by omega) (by omega) (by omega) (by omega)]; rfl
  · rw [show (1 : Int) * 64 = 64 from rfl, turned_some k p.f0 p.f1 h 64 0 16384 p.f1 (-p.f0) (by decide +kernel) (by decide +kernel) (by omega) (by omega) (by omega) (by omega) (by omega)]; rfl
  · rw [show (2 : Int) * 64 = 128 from rfl, turned_some k p.f0 p.f1 h 128 (-16384) 0 (-p.f0) (-p.f1) (by decide +kernel) (by decide +kernel) (by omega) (by omega) (by omega) (by omega) (by omega)]; rfl
  · rw [show (3 : Int) * 64 = 192 from rfl, turned_some k p.f0 p.f1 h 192 0 (-16384) (-p.f1) p.f0 (by decide +kernel) (by decide +kernel) (by omega) (by omega) (by omega) (by omega) (by omega)]; rfl
theorem rot_ev (p : S52) (h : inR p) (q : Int) : Ev (fun k => formation_Rotate_fn1.f k p.f0 p.f1 q) ((rotP q p).f0, (rotP q p).f1) :=
  ⟨3, fun k hk => by obtain ⟨m, rfl⟩ : ∃ m, k = m + 3 := ⟨k - 3, by omega⟩; exact rot_some m p h q⟩
theorem take_map {g : S52 → S52} (p : List S52) {i : Nat} (h : i < p.length) : (p.take i).map g ++ [g p[i]] = (p.take (i + 1)).map g := by
  rw [List.take_add_one, List.getElem?_eq_getElem h, List.map_append]; rfl
section
variable (s : ByteArray) (p : List S52)
theorem mirror_l0 (hn : p.length ≤ 16) (hr : ∀ j (h : j < p.length), inR p[j]) (d : Nat) : ∀ i : Nat, i + d = p.length → Ev (fun k => formation_changed.l0 k p (p.length : Int) (i : Int) s ((p.take i).map mirP)) (s, p.map mirP, 0) := by
  induction d with
  | zero =>
    intro i hi
    rw [List.take_of_length_le (by omega)]
    exact ev_step (fun k => by simp only [formation_changed.l0] <;> exact rfl) (ev_neg (by omega) (ev_now _))
  | succ d ih =>
    intro i hi
    have hlt : i < p.length := by omega
    have hr' := hr i hlt
    unfold inR at hr'
    refine ev_step (fun k => by simp only [formation_changed.l0] <;> exact rfl) (ev_pos (by omega) (ev_pos (by omega) (ev_pos (by omega) ?_)))
    simp only [formation_Mirror_fn1.f, Option.bind_some, rdT p hlt]
    refine ev_pos (by rw [List.length_map, List.length_take]; omega) ?_
    rw [w64 (n := (i : Int) + 1) (by omega) (by omega), w64 (n := -p[i].f0) (by omega) (by omega)]
    rw [show (⟨-p[i].f0, p[i].f1⟩ : S52) = mirP p[i] from rfl, take_map p hlt]
    exact ih (i + 1) (by omega)
theorem rmirror_l0 (hn : p.length ≤ 16) (hr : ∀ j (h : j < p.length), inR p[j]) (d : Nat) : ∀ i : Nat, i + d = p.length → Ev (fun k => dancestudioref45_Mirror.l0 k (i : Int) s p s ((p.take i).map mirP)) (s, p.map mirP, 0) := by
  induction d with
  | zero =>
    intro i hi
    rw [List.take_of_length_le (by omega)]
    exact ev_step (fun k => by simp only [dancestudioref45_Mirror.l0] <;> exact rfl) (ev_neg (by omega) (ev_now _))
  | succ d ih =>
    intro i hi
    have hlt : i < p.length := by omega
    have hr' := hr i hlt
    unfold inR at hr'
    refine ev_step (fun k => by simp only [dancestudioref45_Mirror.l0] <;> exact rfl) (ev_pos (by omega) (ev_pos (by omega) ?_))
    refine ev_pos (by rw [List.length_map, List.length_take]; omega) ?_
    rw [rdT p hlt, w64 (n := (i : Int) + 1) (by omega) (by omega), w64 (n := -p[i].f0) (by omega) (by omega)]
    rw [show (⟨-p[i].f0, p[i].f1⟩ : S52) = mirP p[i] from rfl, take_map p hlt]
    exact ih (i + 1) (by omega)
theorem rotate_l0 (q : Int) (hn : p.length ≤ 16) (hr : ∀ j (h : j < p.length), inR p[j]) (d : Nat) : ∀ i : Nat, i + d = p.length → Ev (fun k => formation_changedR.l0 k q p (p.length : Int) (i : Int) s ((p.take i).map (rotP q))) (s, p.map (rotP q), 0) := by
  induction d with
  | zero =>
    intro i hi
    rw [List.take_of_length_le (by omega)]
    exact ev_step (fun k => by simp only [formation_changedR.l0] <;> exact rfl) (ev_neg (by omega) (ev_now _))
  | succ d ih =>
    intro i hi
    have hlt : i < p.length := by omega
    have hr' := hr i hlt
    refine ev_step (fun k => by simp only [formation_changedR.l0] <;> exact rfl) (ev_pos (by omega) (ev_pos (by omega) (ev_pos (by omega) ?_)))
    simp only [rdT p hlt]
    refine Ev.bind (rot_ev _ hr' q) (ev_pos (by rw [List.length_map, List.length_take]; omega) ?_)
    rw [w64 (n := (i : Int) + 1) (by omega) (by omega)]
    rw [show (⟨(rotP q p[i]).f0, (rotP q p[i]).f1⟩ : S52) = rotP q p[i] from rfl, take_map p hlt]
    exact ih (i + 1) (by omega)
theorem rotP_next (m : Nat) (hm : m < 3) (c : S52) : (⟨(rotP (m : Int) c).f1, -(rotP (m : Int) c).f0⟩ : S52) = rotP ((m + 1 : Nat) : Int) c := by
  have : m = 0 ∨ m = 1 ∨ m = 2 := by omega
  obtain ⟨a, b⟩ := c
  rcases this with rfl | rfl | rfl <;> simp [rotP]
theorem rotP_inR (m : Int) (c : S52) (h : inR c) : inR (rotP m c) := by
  unfold inR at *
  unfold rotP
  split
  · exact h
  · split
    · simp only; omega
    · split <;> (simp only; omega)
theorem mirP_inR (c : S52) (h : inR c) : inR (mirP c) := by
  unfold inR mirP at *; simp only; omega
theorem rrotate_l0 (q : Int) (hn : p.length ≤ 16) (hr : ∀ j (h : j < p.length), inR p[j]) (d : Nat) : ∀ i : Nat, i + d = p.length → Ev (fun k => dancestudioref45_Rotate.l0 k q (i : Int) s p s ((p.take i).map (rotP q))) (s, p.map (rotP q), 0) := by
  obtain ⟨t1, t2, t3⟩ := tmod4 q
  have hcnt : Int.tmod (wrap64 (Int.tmod q 4 + 4)) 4 = q % 4 := by
    rw [w64 (by omega) (by omega), Int.tmod_eq_emod, if_pos (Or.inl (by omega))]; omega
  induction d with
  | zero =>
    intro i hi
    rw [List.take_of_length_le (by omega)]
    exact ev_step (fun k => by simp only [dancestudioref45_Rotate.l0] <;> exact rfl) (ev_neg (by omega) (ev_now _))
  | succ d ih =>
    intro i hi
    have hlt : i < p.length := by omega
    have hr' := hr i hlt
    refine ev_step (fun k => by simp only [dancestudioref45_Rotate.l0] <;> exact rfl) (ev_pos (by omega) (ev_pos (by omega) ?_))
    rw [rdT p hlt]
    have loop : ∀ e m : Nat, (m : Int) + e = q % 4 → Ev (fun k => dancestudioref45_Rotate.l1 k q (i : Int) (m : Int) s p s ((p.take i).map (rotP q)) (rotP (m : Int) p[i]).f0 (rotP (m : Int) p[i]).f1) (s, p.map (rotP q), 0) := by
      intro e
      induction e with
      | zero =>
        intro m hm
        refine ev_step (fun k => by simp only [dancestudioref45_Rotate.l1] <;> exact rfl) (ev_neg (by rw [hcnt]; omega) (ev_pos (by rw [List.length_map, List.length_take]; omega) ?_))
        rw [w64 (n := (i : Int) + 1) (by omega) (by omega)]
        have e : (⟨(rotP (m : Int) p[i]).f0, (rotP (m : Int) p[i]).f1⟩ : S52) = rotP q p[i] := by
          show rotP (m : Int) p[i] = _
          unfold rotP; rw [show (m : Int) % 4 = q % 4 by omega]
        rw [e, take_map p hlt]
        exact ih (i + 1) (by omega)
      | succ e ihe =>
        intro m hm
        have hb := rotP_inR (m : Int) _ hr'
        unfold inR at hb
        refine ev_step (fun k => by simp only [dancestudioref45_Rotate.l1] <;> exact rfl) (ev_pos (by rw [hcnt]; omega) ?_)
        have nx := rotP_next m (by omega) p[i]
        have n1 : (rotP (m : Int) p[i]).f1 = (rotP ((m + 1 : Nat) : Int) p[i]).f0 := congrArg S52.f0 nx
        have n2 : -(rotP (m : Int) p[i]).f0 = (rotP ((m + 1 : Nat) : Int) p[i]).f1 := congrArg S52.f1 nx
        rw [w64 (n := (m : Int) + 1) (by omega) (by omega), w64 (n := -(rotP (m : Int) p[i]).f0) (by omega) (by omega), n2, n1]
        exact ihe (m + 1) (by omega)
    have h0 := loop (q % 4).toNat 0 (by omega)
    exact h0
theorem same_l0 (d : Nat) (hn : p.length ≤ 16) : ∀ i : Nat, i + d = p.length → Ev (fun k => dancestudioref03_Same.l0 k p p (i : Int)) true := by
  induction d with
  | zero =>
    intro i hi
    exact ev_step (fun k => by simp only [dancestudioref03_Same.l0] <;> exact rfl) (ev_neg (by omega) (ev_now _))
  | succ d ih =>
    intro i hi
    refine ev_step (fun k => by simp only [dancestudioref03_Same.l0] <;> exact rfl) (ev_pos (by omega) (ev_pos (by omega) (ev_pos (by omega) (ev_neg (by simp) ?_))))
    rw [w64 (by omega) (by omega)]
    exact ih (i + 1) (by omega)
theorem same_ev (hn : p.length ≤ 16) : Ev (fun k => dancestudioref45_Same.f k s p s p) true := by
  unfold dancestudioref45_Same.f dancestudioref03_Same.f
  exact ev_pos rfl (Ev.bind (ev_pos rfl (same_l0 p p.length hn 0 (by omega))) (ev_now _))
end
/-- A changed formation. -/
noncomputable def chgF (g : S52 → S52) (l : Bs) (p : List S52) : ByteArray × List S52 × Int := if chkF l p = 0 then (mkB l, p.map g, 0) else (⟨#[]⟩, [], chkF l p)
theorem mirror_ev (l : Bs) (p : List S52) : Ev (fun k => formation_Mirror.f k (mkB l) p) (chgF mirP l p) := by
  unfold formation_Mirror.f formation_changed.f chgF
  refine Ev.bind (Ev.bind (check_ev l p) (r := chgF mirP l p) ?_) (ev_eq (ev_now _) (by unfold chgF; split <;> rfl))
  unfold chgF
  by_cases h : chkF l p = 0
  · obtain ⟨h1, h2, h3, _⟩ := chkF_ok h
    rw [if_pos h]
    exact ev_pos h (mirror_l0 (mkB l) p h2 h3 p.length 0 (by omega))
  · rw [if_neg h]; exact ev_neg h (ev_now _)
theorem rmirror_ev (l : Bs) (p : List S52) : Ev (fun k => dancestudioref45_Mirror.f k (mkB l) p) (chgF mirP l p) := by
  unfold dancestudioref45_Mirror.f
  refine Ev.bind (rcheck_ev l p) ?_
  unfold chgF
  by_cases h : chkF l p = 0
  · obtain ⟨h1, h2, h3, _⟩ := chkF_ok h
    rw [if_pos h]
    exact ev_pos h (rmirror_l0 (mkB l) p h2 h3 p.length 0 (by omega))
  · rw [if_neg h]; exact ev_neg h (ev_now _)
theorem rotate_ev (l : Bs) (p : List S52) (q : Int) : Ev (fun k => formation_Rotate.f k (mkB l) p q) (chgF (rotP q) l p) := by
  unfold formation_Rotate.f formation_changedR.f
  refine Ev.bind (Ev.bind (check_ev l p) (r := chgF (rotP q) l p) ?_) (ev_eq (ev_now _) (by unfold chgF; split <;> rfl))
  unfold chgF
  by_cases h : chkF l p = 0
  · obtain ⟨h1, h2, h3, _⟩ := chkF_ok h
    rw [if_pos h]
    exact ev_pos h (rotate_l0 (mkB l) p q h2 h3 p.length 0 (by omega))
  · rw [if_neg h]; exact ev_neg h (ev_now _)
theorem rrotate_ev (l : Bs) (p : List S52) (q : Int) : Ev (fun k => dancestudioref45_Rotate.f k (mkB l) p q) (chgF (rotP q) l p) := by
  unfold dancestudioref45_Rotate.f
  refine Ev.bind (rcheck_ev l p) ?_
  unfold chgF
  by_cases h : chkF l p = 0
  · obtain ⟨h1, h2, h3, _⟩ := chkF_ok h
    rw [if_pos h]
    exact ev_pos h (rrotate_l0 (mkB l) p q h2 h3 p.length 0 (by omega))
  · rw [if_neg h]; exact ev_neg h (ev_now _)
theorem nodup_map {α β : Type} {f : α → β} (hf : ∀ a b, f a = f b → a = b) {l : List α} (h : l.Nodup) : (l.map f).Nodup :=
  List.pairwise_map.2 (h.imp fun hne e => hne (hf _ _ e))
theorem chk_map {g : S52 → S52} {h : Int × Int → Int × Int} (hg : ∀ p, ptP (g p) = h (ptP p)) (hh : ∀ a b, h a = h b → a = b) (hr : ∀ p, inR p → inR (g p)) {l : Bs} {p : List S52} (hc : chkF l p = 0) : chkF l (p.map g) = 0 := by
  obtain ⟨h1, h2, h3, h4, h5⟩ := chkF_ok hc
  refine chkF_of h5 (by rw [List.length_map]; omega) (by rw [List.length_map]; omega) (fun j hj => ?_) ?_
  · rw [List.getElem_map]; exact hr _ (h3 j (by simpa using hj))
  · have : (p.map g).map ptP = (p.map ptP).map h := by rw [List.map_map, List.map_map]; exact List.map_congr_left fun a _ => hg a
    rw [this]; exact nodup_map hh h4
theorem chk_mir {l : Bs} {p : List S52} (hc : chkF l p = 0) : chkF l (p.map mirP) = 0 :=
  chk_map (h := fun a => (-a.1, a.2)) (fun p => rfl) (fun a b e => by simp only [Prod.mk.injEq] at e; exact Prod.ext (by omega) e.2) mirP_inR hc
theorem chk_rot (q : Int) {l : Bs} {p : List S52} (hc : chkF l p = 0) : chkF l (p.map (rotP q)) = 0 := by
  refine chk_map (h := fun a => if q % 4 = 0 then a else if q % 4 = 1 then (a.2, -a.1) else if q % 4 = 2 then (-a.1, -a.2) else (-a.2, a.1)) (fun p => ?_) (fun a b e => ?_) (rotP_inR q) hc
  · unfold rotP ptP; split <;> (try split) <;> (try split) <;> rfl
  · revert e
    split
    · exact fun e => e
    · split
      · intro e; simp only [Prod.mk.injEq] at e; exact Prod.ext (by omega) e.1
      · split <;> (intro e; simp only [Prod.mk.injEq] at e; exact Prod.ext (by omega) (by omega))
theorem mir_mir (p : List S52) : (p.map mirP).map mirP = p := by
  rw [List.map_map]
  conv => rhs; rw [← List.map_id p]
  exact List.map_congr_left fun a _ => by obtain ⟨x, y⟩ := a; simp [mirP]
theorem rot_rot (q q' : Int) (h : (q + q') % 4 = 0) (p : List S52) : (p.map (rotP q)).map (rotP q') = p := by
  rw [List.map_map]
  conv => rhs; rw [← List.map_id p]
  refine List.map_congr_left fun a _ => ?_
  obtain ⟨x, y⟩ := a
  have c : (q % 4 = 0 ∧ q' % 4 = 0) ∨ (q % 4 = 1 ∧ q' % 4 = 3) ∨ (q % 4 = 2 ∧ q' % 4 = 2) ∨ (q % 4 = 3 ∧ q' % 4 = 1) := by omega
  rcases c with ⟨c1, c2⟩ | ⟨c1, c2⟩ | ⟨c1, c2⟩ | ⟨c1, c2⟩ <;> simp [rotP, c1, c2]
end Go.Proofs.YtaggccbndmmbhaaDoor.PAll
