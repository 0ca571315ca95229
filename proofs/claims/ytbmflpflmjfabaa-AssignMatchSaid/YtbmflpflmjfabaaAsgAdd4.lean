/- The improvement of an assignment by one row: prices stay proofs. -/
import Derived.Test.YtbmflpflmjfabaaPAllx0
import Derived.Test.YtbmflpflmjfabaaPAllf31
import Derived.Test.YtbmflpflmjfabaaAsgAdd3
namespace Go.Proofs.Ytbmflpflmjfabaa.PAll
set_option linter.unusedVariables false
open Go Go.RowKit Go.Proofs.YtbmflpflmjfabaaW.PrintWords Go.Proofs.YtbmflpflmjfabaaW.PrintLast Go.Proofs.YtbmflpflmjfabaaW.PrintMore Go.Proofs.Ytbmflpflmjfabaa.MathNum Go.Proofs.Ytbmflpflmjfabaa.EvWords
attribute [local irreducible] rd M rdOf

section
variable {c : List (List Int)} {n i : Int} {U V O F L : List Int} {S : List Bool} {a : Int} {t : List Int} {F' L' : List Int} {x d : Int} {U1 V1 L1 : List Int}

theorem Ph.seen2 (P : Ph c n i U V O F L S a t) : ∀ q, 0 ≤ q → q ≤ n → (rdOf false (S.set a.toNat true) q = true ↔ q ∈ a :: t) := by
  intro q h1 h2
  have ha := P.rgt a (List.mem_cons_self)
  rw [rdB_set ha.1 (by have := P.ls; omega) h1]
  by_cases e : q = a
  · rw [if_pos e, e]; simp
  · rw [if_neg e, P.seen q h1 h2]; simp [e]

theorem ph_next (T : Tab c n) (P : Ph c n i U V O F L S a t) (H : L2 c n U V O F L a t F' L' x d (n + 1)) (N : Nx c n i U1 V1 O F' L1 (a :: t) x) (hz : rd O x ≠ 0) :
    Ph c n i U1 V1 O F' L1 (S.set a.toNat true) x (a :: t) := by
  obtain ⟨x1, x2, x3, x4, x5, x6, x7, d0, d1⟩ := H.next T P
  refine ⟨N.lu, N.lv, P.lo, H.lf, N.ll, by rw [List.length_set]; exact P.ls, P.i1, P.i2, P.o0, N.feas, N.tight, N.vneg, N.free, P.rng, P.inj, P.cov, N.ulo, P.seen2, fun j hj => ?_, fun j hj => ?_, N.ch, N.cht, fun j h1 h2 h3 => Or.inr (N.least j h1 h2 h3)⟩
  · rcases List.mem_cons.1 hj with rfl | hj
    · exact ⟨by omega, x2⟩
    · exact P.rgt j hj
  · rcases List.mem_cons.1 hj with rfl | hj
    · exact hz
    · exact P.occ j hj

theorem back_of (T : Tab c n) (P : Ph c n i U V O F L S a t) (H : L2 c n U V O F L a t F' L' x d (n + 1)) (N : Nx c n i U1 V1 O F' L1 (a :: t) x) (hz : rd O x = 0) :
    Back c n i U1 V1 O F' x (a :: t) := by
  obtain ⟨x1, x2, x3, x4, x5, x6, x7, d0, d1⟩ := H.next T P
  have i1 := P.i1
  have o0 := P.o0
  refine ⟨P.lo, H.lf, N.ch, fun j hj => ?_, fun j h1 h2 => ?_, fun j j' a1 a2 b1 b2 n1 n2 e z => ?_, fun r h1 h2 => ?_, fun j a1 a2 _ z => N.tight j a1 a2 z, N.cht, P.occ, fun j a1 a2 _ z => N.free j a1 a2 z⟩
  · rcases List.mem_cons.1 hj with rfl | hj
    · exact ⟨by omega, x2⟩
    · exact P.rgt j hj
  · by_cases e : j = 0
    · subst e; rw [o0]; omega
    · have := P.rng j (by omega) h2; omega
  · by_cases e1 : j = 0
    · by_cases e2 : j' = 0
      · omega
      · have := P.rng j' (by omega) b2
        subst e1; rw [o0] at e; omega
    · by_cases e2 : j' = 0
      · have := P.rng j (by omega) a2
        subst e2; rw [o0] at e; omega
      · exact P.inj j j' (by omega) a2 (by omega) b2 e z
  · by_cases e : r = i
    · exact ⟨0, Int.le_refl _, by omega, by omega, by rw [o0, e]⟩
    · obtain ⟨j, a1, a2, a3⟩ := P.cov r h1 (by omega)
      exact ⟨j, by omega, a2, fun h => by rw [h, hz] at a3; omega, a3⟩
end

theorem l1_ev {c : List (List Int)} {n i : Int} {O : List Int} (T : Tab c n) (m : Nat) : ∀ (U V F L : List Int) (S : List Bool) (a : Int) (t : List Int), Ph c n i U V O F L S a t → t.length + m = n.toNat + 1 →
    ∃ R, Ev (fun k => assign_solved_add.l1 k U c V O n F L S a) R ∧ Dual c n i R.1 R.2.1 R.2.2 := by
  induction m with
  | zero =>
    intro U V F L S a t P hm
    have hl := nodup_len (n.toNat + 1) (a :: t) P.ch.nodup (fun j hj => by have := P.rgt j hj; omega)
    rw [List.length_cons] at hl
    omega
  | succ m ih =>
    intro U V F L S a t P hm
    have ha := P.rgt a (List.mem_cons_self)
    have hi1 := P.i1
    have hi2 := P.i2
    have hn := T.le
    have ls := P.ls
    have lo := P.lo
    have start : L2 c n U V O F L a t F L 0 1152921504606846976 1 := ⟨P.lf, P.ll, fun _ _ => rfl, fun q a1 a2 => by omega, fun _ _ _ _ _ => ⟨rfl, rfl⟩, Or.inl ⟨rfl, fun q a1 a2 => by omega⟩⟩
    have main := l2_ev T P (fun R => Dual c n i R.1 R.2.1 R.2.2) (fun F' L' x d H => by
      obtain ⟨x1, x2, x3, x4, x5, x6, x7, d0, d1⟩ := H.next T P
      rw [w64 (n := n + 1) (by omega) (by omega)]
      refine l3_ev (c := c) (w := a :: t) (by omega) hn lo (by rw [List.length_set]; exact ls) P.seen2 P.ch.has_zero (fun s hs => ?_) (fun s hs s' hs' e => P.rowInj hs (P.rgt s' hs').1 (P.rgt s' hs').2 e) d0 d1 (fun s hs => ?_) (fun j h1 h2 => ?_) (fun j h1 h2 h3 => ?_) (by omega) x2
        (fun R => Dual c n i R.1 R.2.1 R.2.2) (fun U1 V1 L1 H3 => ?_) (n.toNat + 1) 0 U V L' (Int.le_refl _) (by omega) (L3.start P.lu P.lv H.ll (fun s hs => (P.rgt s hs).1))
      · have := P.row hs; omega
      · have r := P.row hs
        have := P.ulo _ r.1 r.2
        have := P.uhi T r.1 r.2
        omega
      · have := P.vneg j h1 h2
        have := P.vlo T h1 h2
        omega
      · have := x5 j h1 h2 h3
        obtain ⟨e1, e2, _⟩ := H.done j h1 (by omega) h2 h3
        have r := P.row e1
        have u := P.ulo _ r.1 r.2
        have hi := T.hi _ j r.1 r.2 h1 h2
        have v := P.vlo T h1 h2
        omega
      · have N := nx_of T P H H3
        by_cases hz : rd O x = 0
        · obtain ⟨O', e, b1, b2, b3, b4, b5, b6⟩ := back_ev (c := c) (n := n) (i := i) (U := U1) (V := V1) (F := F') (by omega) _ O x (a :: t) rfl (back_of T P H N hz)
          refine ⟨(U1, V1, O'), by rw [if_pos hz]; exact e, ⟨N.lu, N.lv, b1, N.feas, b5, N.vneg, b6, fun j h1 h2 => b2 j (by omega) h2, b3, b4, N.ulo, fun r h1 h2 => ?_⟩⟩
          have f := N.feas r x h1 h2 x1 x2
          have v := N.free x x1 x2 hz
          have hi := T.hi r x h1 h2 x1 x2
          show rd U1 r ≤ _
          omega
        · obtain ⟨R, e, q⟩ := ih U1 V1 F' L1 (S.set a.toNat true) x (a :: t) (ph_next T P H N hz) (by rw [List.length_cons]; omega)
          exact ⟨R, by rw [if_neg hz]; exact e, q⟩) n.toNat 1 F L 0 1152921504606846976 (Int.le_refl _) (by omega) start
    obtain ⟨R, e, q⟩ := main
    refine ⟨R, ev_step (fun k => by simp only [assign_solved_add.l1] <;> exact rfl) ?_, q⟩
    exact ev_pos ha.1 (ev_pos (by omega) (ev_pos (by omega) e))

theorem l0_ev {c : List (List Int)} {U V O F : List Int} {n : Int} {S : List Bool} (hn : n ≤ 16) (hn0 : 0 ≤ n) {R : List Int × List Int × List Int}
    (hK : ∀ L : List Int, (L.length : Int) = n + 1 → (∀ j, 0 ≤ j → j ≤ n → rd L j = 1152921504606846976) → Ev (fun k => assign_solved_add.l1 k U c V O n F L S 0) R)
    (m : Nat) : ∀ (j : Int) (L : List Int), 0 ≤ j → j + m = n + 1 → (L.length : Int) = n + 1 → (∀ q, 0 ≤ q → q < j → rd L q = 1152921504606846976) → Ev (fun k => assign_solved_add.l0 k U c V O n F L S (n + 1) j) R := by
  induction m with
  | zero =>
    intro j L h0 hm hl hs
    exact ev_step (fun k => by simp only [assign_solved_add.l0] <;> exact rfl) (ev_neg (by omega) (hK L hl (fun q a b => hs q a (by omega))))
  | succ m ih =>
    intro j L h0 hm hl hs
    refine ev_step (fun k => by simp only [assign_solved_add.l0] <;> exact rfl) (ev_pos (by omega) (ev_pos h0 (ev_pos (by omega) ?_)))
    rw [w64 (n := j + 1) (by omega) (by omega)]
    refine ih (j + 1) _ (by omega) (by omega) (by rw [List.length_set]; exact hl) (fun q a b => ?_)
    rw [rd_set h0 (by omega) a]
    by_cases e : q = j
    · rw [if_pos e]
    · rw [if_neg e]; exact hs q a (by omega)

/-- A further row gets a column. -/
theorem add_ev {c : List (List Int)} {n i : Int} {U V O : List Int} (T : Tab c n) (h1 : 1 ≤ i) (h2 : i ≤ n) (D : Dual c n (i - 1) U V O) :
    ∃ R, Ev (fun k => assign_solved_add.f k U c i V O) R ∧ Dual c n i R.1 R.2.1 R.2.2 := by
  have hn := T.le
  have hlen := T.len
  have lo := D.lo
  have so : ∀ q, 0 ≤ q → rd (O.set (0 : Int).toNat i) q = if q = 0 then i else rd O q := fun q hq => rd_set (Int.le_refl _) (by omega) hq
  have so1 : ∀ q, 1 ≤ q → rd (O.set (0 : Int).toNat i) q = rd O q := fun q hq => by rw [so q (by omega), if_neg (by omega)]
  have hw : wrap64 ((c.length : Int) + 1) = n + 1 := by rw [w64 (by omega) (by omega)]; omega
  have P : ∀ L : List Int, (L.length : Int) = n + 1 → (∀ j, 0 ≤ j → j ≤ n → rd L j = 1152921504606846976) → Ph c n i U V (O.set (0 : Int).toNat i) (List.replicate (n + 1).toNat 0) L (List.replicate (n + 1).toNat false) 0 [] := by
    intro L hl hs
    refine ⟨D.lu, D.lv, by rw [List.length_set]; exact lo, by rw [List.length_replicate]; omega, hl, by rw [List.length_replicate]; omega, h1, h2, by rw [so 0 (Int.le_refl _), if_pos rfl], D.feas, fun j a b z => ?_, D.vneg, fun j a b z => ?_,
      fun j a b => ?_, fun j j' a1 a2 b1 b2 e z => ?_, fun r a b => ?_, D.ulo, fun j a b => ?_, fun j hj => ?_, fun j hj => ?_, Chain.base, fun j hj z => ?_, fun j a b _ => Or.inl ⟨rfl, hs j (by omega) b⟩⟩
    · rw [so1 j a] at z ⊢; exact D.tight j a b z
    · rw [so1 j a] at z; exact D.free j a b z
    · rw [so1 j a]; exact D.rng j a b
    · rw [so1 j a1] at e z; rw [so1 j' b1] at e; exact D.inj j j' a1 a2 b1 b2 e z
    · obtain ⟨j, x, y, z⟩ := D.cov r a b
      exact ⟨j, x, y, by rw [so1 j x]; exact z⟩
    · rw [rdB_rep]; simp
    · rw [List.mem_singleton.1 hj]; omega
    · rw [List.mem_singleton.1 hj, so 0 (Int.le_refl _), if_pos rfl]; omega
    · exact absurd (List.mem_singleton.1 hj) z
  have hex : ∃ R, (∀ L : List Int, (L.length : Int) = n + 1 → (∀ j, 0 ≤ j → j ≤ n → rd L j = 1152921504606846976) → Ev (fun k => assign_solved_add.l1 k U c V (O.set (0 : Int).toNat i) n (List.replicate (n + 1).toNat 0) L (List.replicate (n + 1).toNat false) 0) R) ∧ Dual c n i R.1 R.2.1 R.2.2 := by
    have all : ∀ L : List Int, (L.length : Int) = n + 1 → (∀ j, 0 ≤ j → j ≤ n → rd L j = 1152921504606846976) → L = List.replicate (n + 1).toNat 1152921504606846976 := by
      intro L hl hs
      refine List.ext_getElem (by rw [List.length_replicate]; omega) fun q h3 h4 => ?_
      rw [List.getElem_replicate]
      have := hs q (by omega) (by omega)
      rw [rd_nat L h3] at this
      exact this
    obtain ⟨R, e, q⟩ := l1_ev T (n.toNat + 1) U V (List.replicate (n + 1).toNat 0) (List.replicate (n + 1).toNat 1152921504606846976) (List.replicate (n + 1).toNat false) 0 [] (P _ (by rw [List.length_replicate]; omega) (fun j a b => rd_rep a (by omega))) (by simp)
    exact ⟨R, fun L hl hs => by rw [all L hl hs]; exact e, q⟩
  obtain ⟨R, e, q⟩ := hex
  refine ⟨R, ?_, q⟩
  simp only [assign_solved_add.f, hw]
  refine ev_pos (by omega) (ev_pos (by omega) (ev_pos (by omega) (ev_let (ev_pos (by omega) ?_))))
  rw [List.length_replicate, hlen]
  have := l0_ev (R := R) hn (by omega) e (n.toNat + 1) 0 (List.replicate (n + 1).toNat 0) (Int.le_refl _) (by omega) (by rw [List.length_replicate]; omega) (fun q a b => by omega)
  rw [show ((n + 1).toNat : Int) = n + 1 by omega]
  exact this
end Go.Proofs.Ytbmflpflmjfabaa.PAll
