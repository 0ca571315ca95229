/- Normal forms as forests: their leaves are those that they were made of. -/
import Derived.Test.YtimikhbnihedkaaDoorLngUp
namespace Go.Proofs.YtimikhbnihedkaaDoor.PAll
set_option linter.unusedVariables false
set_option linter.unusedSectionVars false
set_option linter.unusedSimpArgs false
open Go Go.RowKit Go.Proofs.YtimikhbnihedkaaDoorW.PrintWords Go.Proofs.YtimikhbnihedkaaDoorW.PrintLast Go.Proofs.YtimikhbnihedkaaDoorW.PrintMore Go.Proofs.YtimikhbnihedkaaDoor.MathNum Go.Proofs.YtimikhbnihedkaaDoor.EvWords

def chF : List S43 → S43 → Fo → Fo
  | [], nm, r => .cons nm .nil r
  | o :: os, nm, r => .cons o (chF os nm .nil) r
def chV : List S43 → S43 → List S63 × Bool
  | [], nm => nodeL nm []
  | o :: os, nm => nodeL o [chV os nm]
theorem chF_count : ∀ (os : List S43) (nm : S43) (r : Fo), (chF os nm r).count = r.count + 1
  | [], _, _ => rfl
  | _ :: _, _, _ => rfl
theorem chF_flat : ∀ (os : List S43) (nm : S43) (r : Fo), (chF os nm r).flat = os ++ [nm] ++ r.flat
  | [], nm, r => rfl
  | o :: os, nm, r => by simp only [chF, Fo.flat, chF_flat os nm .nil, List.append_nil, List.cons_append]
theorem chF_ok : ∀ (os : List S43) (nm : S43) (r : Fo), (∀ o, o ∈ os → o.f3 = 1) → nm.f3 = 0 → r.ok → (chF os nm r).ok
  | [], nm, r, _, hn, hr => ⟨hn, trivial, hr⟩
  | o :: os, nm, r, ho, hn, hr => ⟨by rw [chF_count]; exact ho o (by simp), chF_ok os nm .nil (fun q hq => ho q (by simp [hq])) hn trivial, hr⟩
theorem chF_lvs : ∀ (os : List S43) (nm : S43) (r : Fo), (chF os nm r).lvs = chV os nm :: r.lvs
  | [], nm, r => rfl
  | o :: os, nm, r => by simp only [chF, Fo.lvs, chF_lvs os nm .nil, chV]
theorem rev4_one (s : S43) (y : S63) : rev4 s [y] = [y] := by unfold rev4; split <;> rfl
theorem one_up {o : S43} {y : S63} (h1 : o.f0 ≠ 1) (h7 : o.f0 ≠ 7) (h : (undL o y).f4 ≤ 8192) : nodeL o [([y], true)] = ([undL o y], true) := by
  have e0 : ∀ cs, nodeL o cs = if cs.all (·.2) = true then finL o (catL cs) else ([], false) := fun cs => if_neg h1
  have e1 : catL [([y], true)] = [y] := rfl
  rw [e0, if_pos (show [(([y] : List S63), true)].all (·.2) = true from rfl), e1]
  unfold finL
  rw [if_neg (fun q => h7 q.1), rev4_one]
  unfold rep7
  rw [if_neg h7]
  unfold endL
  have ho : ¬ ovr o [y] = true := by unfold ovr; simp; omega
  rw [if_neg ho]; rfl
theorem chV_st (x : S63) : ∀ (fs : List Nat), (∀ d, d ∈ fs → 2 ≤ d ∧ d ≤ 16) → prodN fs ≤ 8192 → 1 ≤ prodN fs ∧ chV (fs.map stN) (nm63 x) = ([⟨x.f0, 0, false, false, (prodN fs : Int)⟩], true)
  | [], _, _ => ⟨Nat.le_refl _, rfl⟩
  | d :: fs, hd, hp => by
    have d2 := hd d (by simp)
    rw [prodN] at hp
    have hle : prodN fs ≤ d * prodN fs := Nat.le_mul_of_pos_left _ (by omega)
    obtain ⟨i1, i2⟩ := chV_st x fs (fun q hq => hd q (by simp [hq])) (by omega)
    refine ⟨by rw [prodN]; omega, ?_⟩
    have e : (prodN fs : Int) * (d : Int) = ((d * prodN fs : Nat) : Int) := by rw [Nat.mul_comm, Int.natCast_mul]
    rw [List.map_cons, chV, i2, one_up (show (6 : Int) ≠ 1 by decide) (show (6 : Int) ≠ 7 by decide) (by rw [stN, und6]; show (prodN fs : Int) * (d : Int) ≤ 8192; rw [e]; omega), stN, und6, prodN]
    show (([⟨x.f0, 0, false, false, (prodN fs : Int) * (d : Int)⟩] : List S63), true) = _
    rw [e]
theorem chV_app (o : List S43) (os : List S43) (nm : S43) (y z : S63) (h : chV os nm = ([y], true)) (ho : o = [] ∧ z = y ∨ ∃ p, o = [p] ∧ p.f0 ≠ 1 ∧ p.f0 ≠ 7 ∧ undL p y = z ∧ z.f4 ≤ 8192) : chV (o ++ os) nm = ([z], true) := by
  rcases ho with ⟨rfl, rfl⟩ | ⟨p, rfl, h1, h7, rfl, h4⟩
  · exact h
  · show nodeL p [chV os nm] = _
    rw [h, one_up h1 h7 h4]
/-- A leaf that is written has this one leaf. -/
theorem chV_wr {x : S63} (hx : Inv x) : chV (opsN x) (nm63 x) = ([x], true) := by
  have hf := facs_ok x hx
  obtain ⟨a1, a2, a3, a4, a5, a6⟩ := hx
  obtain ⟨p1, p2⟩ := chV_st x (facs x) hf.2.2 (by rw [hf.2.1]; omega)
  have e4 : ((prodN (facs x) : Nat) : Int) = x.f4 := by rw [hf.2.1]; omega
  rw [e4] at p2
  have b1 : chV ((if x.f3 = true then [un 4 0] else []) ++ (facs x).map stN) (nm63 x) = ([⟨x.f0, 0, false, x.f3, x.f4⟩], true) := by
    refine chV_app _ _ _ _ _ p2 ?_
    by_cases h : x.f3 = true
    · rw [if_pos h]; exact .inr ⟨_, rfl, by decide, by decide, by rw [und4, h]; rfl, a5⟩
    · rw [if_neg h]; exact .inl ⟨rfl, by rw [show x.f3 = false by simpa using h]⟩
  have b2 : chV ((if x.f2 = true then [un 3 0] else []) ++ ((if x.f3 = true then [un 4 0] else []) ++ (facs x).map stN)) (nm63 x) = ([⟨x.f0, 0, x.f2, x.f3, x.f4⟩], true) := by
    refine chV_app _ _ _ _ _ b1 ?_
    by_cases h : x.f2 = true
    · rw [if_pos h]; exact .inr ⟨_, rfl, by decide, by decide, by rw [und3, h]; rfl, a5⟩
    · rw [if_neg h]; exact .inl ⟨rfl, by rw [show x.f2 = false by simpa using h]⟩
  have b3 := chV_app (if x.f1 > 0 then [un 5 x.f1] else []) _ _ _ x b2 (by
    by_cases h : x.f1 > 0
    · rw [if_pos h]; exact .inr ⟨_, rfl, (show (5 : Int) ≠ 1 by decide), (show (5 : Int) ≠ 7 by decide), by rw [und5]; exact ext63 rfl (by show (0 + x.f1) % 4 = x.f1; omega) rfl rfl rfl, a5⟩
    · rw [if_neg h]; exact .inl ⟨rfl, ext63 rfl (by show x.f1 = 0; omega) rfl rfl rfl⟩)
  unfold opsN hdN
  rw [List.append_assoc, List.append_assoc]
  exact b3
/-- What a normal form has none of. -/
def nfS (s : S43) : Prop := s.f0 ≠ 7 ∧ (s.f0 = 2 → 2 ≤ s.f3)
theorem opsN_ok {x : S63} (hx : Inv x) : ∀ o, o ∈ opsN x → isOp o ∧ o.f3 = 1 ∧ nfS o := by
  have hf := facs_ok x hx
  obtain ⟨a1, a2, a3, a4, a5, a6⟩ := hx
  intro o ho
  unfold opsN hdN at ho
  simp only [List.mem_append, List.mem_map] at ho
  rcases ho with (ho | ho | ho) | ⟨d, hd, rfl⟩
  · split at ho
    · rename_i h; rw [List.mem_singleton.1 ho]; exact ⟨rot_ok (by omega) a3, rfl, ⟨(by decide : (5 : Int) ≠ 7), fun q => absurd q (by decide : ¬ (5 : Int) = 2)⟩⟩
    · cases ho
  · split at ho
    · rw [List.mem_singleton.1 ho]; exact ⟨ops_ok.1, rfl, ⟨(by decide : (3 : Int) ≠ 7), fun q => absurd q (by decide : ¬ (3 : Int) = 2)⟩⟩
    · cases ho
  · split at ho
    · rw [List.mem_singleton.1 ho]; exact ⟨ops_ok.2.1, rfl, ⟨(by decide : (4 : Int) ≠ 7), fun q => absurd q (by decide : ¬ (4 : Int) = 2)⟩⟩
    · cases ho
  · have := hf.2.2 d hd
    refine ⟨⟨(by decide : (2 : Int) ≤ 6), (by decide : (6 : Int) ≤ 7), noB_nil, ⟨fun q => absurd q (by decide : ¬ (6 : Int) = 5), fun _ => ⟨by show (1 : Int) ≤ (d : Int); omega, by show (d : Int) ≤ 16; omega⟩, fun q => absurd q (by decide : ¬ (6 : Int) < 5)⟩, Int.le_refl _, (by decide : (1 : Int) ≤ 8), fun _ => rfl⟩, rfl, ⟨(by decide : (6 : Int) ≠ 7), fun q => absurd q (by decide : ¬ (6 : Int) = 2)⟩⟩
theorem nm63_ok {x : S63} (hx : Inv x) : isName (nm63 x) ∧ nfS (nm63 x) := ⟨⟨rfl, hx.1, rfl, rfl⟩, ⟨(by decide : (1 : Int) ≠ 7), fun q => absurd q (by decide : ¬ (1 : Int) = 2)⟩⟩
/-- The nodes of a forest are right, and none is barred from normal forms. -/
def Fo.nfs (f : Fo) : Prop := ∀ s, s ∈ f.flat → ndE s = 0 ∧ nfS s
theorem ch_nfs {x : S63} (hx : Inv x) {r : Fo} (hr : r.nfs) : (chF (opsN x) (nm63 x) r).nfs := by
  intro s hs
  rw [chF_flat] at hs
  simp only [List.mem_append, List.mem_singleton] at hs
  rcases hs with (h | h) | h
  · exact ⟨ndE_iff.2 (.inr (opsN_ok hx s h).1), (opsN_ok hx s h).2.2⟩
  · rw [h]; exact ⟨ndE_iff.2 (.inl (nm63_ok hx).1), (nm63_ok hx).2⟩
  · exact hr s h
theorem ch_ok {x : S63} (hx : Inv x) {r : Fo} (hr : r.ok) : (chF (opsN x) (nm63 x) r).ok := chF_ok _ _ _ (fun o ho => (opsN_ok hx o ho).2.1) rfl hr
def paF : List S63 → Fo
  | [] => .nil
  | x :: l => chF (opsN x) (nm63 x) (paF l)
theorem paF_all : ∀ (l : List S63), (∀ x, x ∈ l → Inv x) → (paF l).flat = (l.map wrN).flatten ∧ (paF l).lvs = l.map (fun x => ([x], true)) ∧ (paF l).count = l.length ∧ (paF l).ok ∧ (paF l).nfs
  | [], _ => ⟨rfl, rfl, rfl, trivial, fun s hs => by cases hs⟩
  | x :: l, h => by
    obtain ⟨i1, i2, i3, i4, i5⟩ := paF_all l (fun y hy => h y (by simp [hy]))
    have hx := h x (by simp)
    refine ⟨?_, ?_, ?_, ch_ok hx i4, ch_nfs hx i5⟩
    · rw [paF, chF_flat, i1, List.map_cons, List.flatten_cons]; rfl
    · rw [paF, chF_lvs, chV_wr hx, i2, List.map_cons]
    · rw [paF, chF_count, i3, List.length_cons]
def sqN (n : Nat) : S43 := ⟨2, noB, 0, (n : Int)⟩
def sqF : List S63 → Fo → Fo
  | [x], r => chF (opsN x) (nm63 x) r
  | l, r => .cons (sqN l.length) (paF l) r
theorem sqF_big {l : List S63} (h : l.length ≠ 1) (r : Fo) : sqF l r = .cons (sqN l.length) (paF l) r := by
  match l, h with
  | [], _ => rfl
  | [e], h => exact absurd rfl h
  | a :: b :: l, _ => rfl
theorem catL_one (l : List S63) : catL (l.map (fun x => ([x], true))) = l := by
  induction l with
  | nil => rfl
  | cons x l ih => show [x] ++ catL (l.map (fun x => ([x], true))) = x :: l; rw [ih]; rfl
theorem all_one (l : List S63) : (l.map (fun x => (([x] : List S63), true))).all (·.2) = true := by simp
theorem sqN_op {n : Nat} (h1 : 1 ≤ n) (h8 : n ≤ 8) : isOp (sqN n) := by
  unfold isOp rOk sqN
  refine ⟨?_, ?_, noB_nil, ⟨?_, ?_, ?_⟩, ?_, ?_, ?_⟩ <;> simp <;> omega
theorem seq_fin {n : Nat} {l : List S63} (hi : ∀ x, x ∈ l → Inv x) (h64 : l.length ≤ 64) : finL (sqN n) l = (l, true) := by
  have e0 : (sqN n).f0 = 2 := rfl
  have eu : ∀ x, undL (sqN n) x = x := fun x => rfl
  unfold finL rev4
  rw [if_neg (fun q => absurd q.1 (by rw [e0]; decide)), if_neg (by rw [e0]; decide)]
  unfold rep7
  rw [if_neg (by rw [e0]; decide)]
  unfold endL
  have ho : ¬ ovr (sqN n) l = true := by
    unfold ovr
    rw [List.any_eq_true]
    rintro ⟨x, hx, hq⟩
    have := of_decide_eq_true hq
    rw [eu] at this
    have := (hi x hx).2.2.2.2.1
    omega
  rw [if_neg ho, map_id_on (fun x _ => eu x), decide_eq_true (by omega)]
theorem seq_node {n : Nat} {cs : List (List S63 × Bool)} (h : cs.all (·.2) = true) (hi : ∀ x, x ∈ catL cs → Inv x) (h64 : (catL cs).length ≤ 64) : nodeL (sqN n) cs = (catL cs, true) := by
  have h1 : ¬ (sqN n).f0 = 1 := (by decide : ¬ (2 : Int) = 1)
  unfold nodeL
  rw [if_neg h1, if_pos h, seq_fin hi h64]
theorem sqF_all {l : List S63} (h : ∀ x, x ∈ l → Inv x) (h1 : 1 ≤ l.length) (h8 : l.length ≤ 8) {r : Fo} (hr : r.ok) (hn : r.nfs) :
    (sqF l r).flat = seq1 (l.map wrN) ++ r.flat ∧ (sqF l r).lvs = (l, true) :: r.lvs ∧ (sqF l r).count = r.count + 1 ∧ (sqF l r).ok ∧ (sqF l r).nfs := by
  by_cases q : l.length = 1
  · obtain ⟨x, rfl⟩ := List.length_eq_one_iff.1 q
    have hx := h x (by simp)
    refine ⟨?_, ?_, chF_count _ _ _, ch_ok hx hr, ch_nfs hx hn⟩
    · show (chF (opsN x) (nm63 x) r).flat = _
      rw [chF_flat]; rfl
    · show (chF (opsN x) (nm63 x) r).lvs = _
      rw [chF_lvs, chV_wr hx]
  · obtain ⟨i1, i2, i3, i4, i5⟩ := paF_all l h
    rw [sqF_big q]
    refine ⟨?_, ?_, rfl, ⟨by rw [i3]; rfl, i4, hr⟩, ?_⟩
    · rw [seq1_big (by rw [List.length_map]; exact q), List.length_map]
      simp only [Fo.flat, i1, List.cons_append]; rfl
    · simp only [Fo.lvs, i2]
      rw [seq_node (all_one l) (by rw [catL_one]; exact h) (by rw [catL_one]; omega), catL_one]
    · intro s hs
      simp only [Fo.flat, List.mem_cons, List.mem_append] at hs
      rcases hs with rfl | hs | hs
      · exact ⟨ndE_iff.2 (.inr (sqN_op h1 h8)), ⟨(by decide : (2 : Int) ≠ 7), fun _ => by show (2 : Int) ≤ (l.length : Int); omega⟩⟩
      · exact i5 s hs
      · exact hn s hs
def gpF : Nat → List S63 → Fo
  | 0, _ => .nil
  | n + 1, l => if l.length = 0 then .nil else sqF (l.take 8) (gpF n (l.drop 8))
theorem gpF_all : ∀ (n : Nat) (l : List S63), (∀ x, x ∈ l → Inv x) → l.length ≤ 8 * n → (gpF n l).flat = (grp n (l.map wrN)).flatten ∧ ((gpF n l).lvs.all (·.2) = true ∧ catL (gpF n l).lvs = l) ∧ (gpF n l).count = (grp n (l.map wrN)).length ∧ (gpF n l).ok ∧ (gpF n l).nfs
  | 0, l, h, hl => by
    have : l = [] := List.length_eq_zero_iff.1 (by omega)
    subst this
    exact ⟨rfl, ⟨rfl, rfl⟩, rfl, trivial, fun s hs => by cases hs⟩
  | n + 1, l, h, hl => by
    by_cases h0 : l.length = 0
    · have : l = [] := List.length_eq_zero_iff.1 h0
      subst this
      exact ⟨rfl, ⟨rfl, rfl⟩, rfl, trivial, fun s hs => by cases hs⟩
    · obtain ⟨i1, ⟨i2, i3⟩, i4, i5, i6⟩ := gpF_all n (l.drop 8) (fun x hx => h x (List.mem_of_mem_drop hx)) (by rw [List.length_drop]; omega)
      have ht : (l.take 8).length = min 8 l.length := List.length_take
      obtain ⟨j1, j2, j3, j4, j5⟩ := sqF_all (l := l.take 8) (fun x hx => h x (List.mem_of_mem_take hx)) (by omega) (by omega) i5 i6
      have e1 : gpF (n + 1) l = sqF (l.take 8) (gpF n (l.drop 8)) := by rw [gpF, if_neg h0]
      have e2 : grp (n + 1) (l.map wrN) = seq1 ((l.take 8).map wrN) :: grp n ((l.drop 8).map wrN) := by rw [grp, if_neg (by rw [List.length_map]; exact h0), List.map_take, List.map_drop]
      rw [e1, e2]
      refine ⟨by rw [j1, i1, List.flatten_cons], ⟨by rw [j2]; simp [i2], ?_⟩, by rw [j3, i4, List.length_cons], j4, j5⟩
      rw [j2]
      show l.take 8 ++ catL (gpF n (l.drop 8)).lvs = l
      rw [i3, List.take_append_drop]
def oneF (l : List S63) : Fo := if l.length ≤ 8 then sqF l .nil else .cons (sqN (gpF 8 l).count) (gpF 8 l) .nil
theorem oneF_all {l : List S63} (h : ∀ x, x ∈ l → Inv x) (h1 : 1 ≤ l.length) (h64 : l.length ≤ 64) : (oneF l).flat = oneV (l.map wrN) ∧ (oneF l).lvs = [(l, true)] ∧ (oneF l).count = 1 ∧ (oneF l).ok ∧ (oneF l).nfs := by
  unfold oneF oneV
  rw [List.length_map]
  by_cases h8 : l.length ≤ 8
  · rw [if_pos h8, if_pos h8]
    obtain ⟨j1, j2, j3, j4, j5⟩ := sqF_all h h1 h8 (r := .nil) trivial (fun s hs => by cases hs)
    exact ⟨by rw [j1]; simp only [Fo.flat, List.append_nil], j2, j3, j4, j5⟩
  · rw [if_neg h8, if_neg h8]
    obtain ⟨i1, ⟨i2, i3⟩, i4, i5, i6⟩ := gpF_all 8 l h (by omega)
    have g := grp_len 8 (l.map wrN)
    rw [List.length_map] at g
    have g2 := g.2 (by omega)
    refine ⟨?_, ?_, rfl, ⟨rfl, i5, trivial⟩, ?_⟩
    · rw [seq1_big (by omega)]
      simp only [Fo.flat, List.append_nil, i1, i4]; rfl
    · simp only [Fo.lvs]
      rw [seq_node i2 (by rw [i3]; exact h) (by rw [i3]; omega), i3]
    · intro s hs
      simp only [Fo.flat, List.append_nil, List.mem_cons] at hs
      rcases hs with rfl | hs
      · exact ⟨ndE_iff.2 (.inr (sqN_op (by omega) (by omega))), ⟨(by decide : (2 : Int) ≠ 7), fun _ => by show (2 : Int) ≤ ((gpF 8 l).count : Int); omega⟩⟩
      · exact i6 s hs
/-- A normal form is a valid expression with the leaves that it was made of. -/
theorem nf_val {l : List S63} (h : ∀ x, x ∈ l → Inv x) (h1 : 1 ≤ l.length) (h64 : l.length ≤ 64) : ∃ (s : S43) (k : Fo), oneV (l.map wrN) = s :: k.flat ∧ k.ok ∧ s.f3 = (k.count : Int) ∧ ndE s = 0 ∧ k.nds ∧ nodeL s k.lvs = (l, true) ∧ ∀ t, t ∈ s :: k.flat → nfS t := by
  obtain ⟨i1, i2, i3, i4, i5⟩ := oneF_all h h1 h64
  generalize oneF l = f at i1 i2 i3 i4 i5
  cases f with
  | nil => simp only [Fo.count] at i3; omega
  | cons s k r =>
    have hr : r = .nil := by cases r with | nil => rfl | cons _ _ _ => simp only [Fo.count] at i3; omega
    subst hr
    simp only [Fo.flat, List.append_nil] at i1
    have hf : (Fo.cons s k .nil).flat = s :: k.flat := by simp only [Fo.flat, List.append_nil]
    refine ⟨s, k, i1.symm, i4.2.1, i4.1, (i5 s (by rw [hf]; simp)).1, fun t ht => (i5 t (by rw [hf]; simp [ht])).1, ?_, fun t ht => (i5 t (by rw [hf]; exact ht)).2⟩
    simp only [Fo.lvs, List.cons.injEq, and_true] at i2
    exact i2
end Go.Proofs.YtimikhbnihedkaaDoor.PAll
