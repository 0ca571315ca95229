/- The search of the improvement: its loops, and what they leave. -/
import Derived.Test.YtbmflpflmjfabaaPAllx0
import Derived.Test.YtbmflpflmjfabaaPAllf31
import Derived.Test.YtbmflpflmjfabaaMathNum
import Derived.Test.YtbmflpflmjfabaaEvWords
import Derived.Test.YtbmflpflmjfabaaAsgCheck
import Derived.Test.YtbmflpflmjfabaaAsgAdd
namespace Go.Proofs.Ytbmflpflmjfabaa.PAll
set_option linter.unusedVariables false
open Go Go.RowKit Go.Proofs.YtbmflpflmjfabaaW.PrintWords Go.Proofs.YtbmflpflmjfabaaW.PrintLast Go.Proofs.YtbmflpflmjfabaaW.PrintMore Go.Proofs.Ytbmflpflmjfabaa.MathNum Go.Proofs.Ytbmflpflmjfabaa.EvWords

theorem M_eq {c : List (List Int)} {r j : Int} : rd (rd_L1 c (r - 1)) (j - 1) = M c r j := rfl
attribute [local irreducible] rd M rdOf

theorem nodup_len (m : Nat) : ∀ t : List Int, t.Nodup → (∀ j ∈ t, 0 ≤ j ∧ j < m) → t.length ≤ m := by
  induction m with
  | zero =>
    intro t _ h
    cases t with
    | nil => simp
    | cons a t => have := h a (List.mem_cons_self); omega
  | succ m ih =>
    intro t hd h
    by_cases hm : (m : Int) ∈ t
    · have := ih (t.erase (m : Int)) (hd.erase _) (fun j hj => by
        rw [hd.mem_erase_iff] at hj
        have := h j hj.2; omega)
      rw [List.length_erase_of_mem hm] at this
      omega
    · have := ih t hd (fun j hj => by have := h j hj; have : j ≠ m := fun e => hm (e ▸ hj); omega)
      omega
theorem Chain.nodup {F : List Int} {t : List Int} (h : Chain F t) : t.Nodup := by
  induction h with
  | base => simp
  | step _ h1 _ _ ih => exact List.nodup_cons.2 ⟨h1, ih⟩

/-- The state of the search ahead of the column a; t: the columns that were seen. -/
structure Ph (c : List (List Int)) (n i : Int) (U V O F L : List Int) (S : List Bool) (a : Int) (t : List Int) : Prop where
  lu : (U.length : Int) = n + 1
  lv : (V.length : Int) = n + 1
  lo : (O.length : Int) = n + 1
  lf : (F.length : Int) = n + 1
  ll : (L.length : Int) = n + 1
  ls : (S.length : Int) = n + 1
  i1 : 1 ≤ i
  i2 : i ≤ n
  o0 : rd O 0 = i
  feas : ∀ r j, 1 ≤ r → r ≤ n → 1 ≤ j → j ≤ n → rd U r + rd V j ≤ M c r j
  tight : ∀ j, 1 ≤ j → j ≤ n → rd O j ≠ 0 → rd U (rd O j) + rd V j = M c (rd O j) j
  vneg : ∀ j, 1 ≤ j → j ≤ n → rd V j ≤ 0
  free : ∀ j, 1 ≤ j → j ≤ n → rd O j = 0 → rd V j = 0
  rng : ∀ j, 1 ≤ j → j ≤ n → 0 ≤ rd O j ∧ rd O j ≤ i - 1
  inj : ∀ j j', 1 ≤ j → j ≤ n → 1 ≤ j' → j' ≤ n → rd O j = rd O j' → rd O j ≠ 0 → j = j'
  cov : ∀ r, 1 ≤ r → r ≤ i - 1 → ∃ j, 1 ≤ j ∧ j ≤ n ∧ rd O j = r
  ulo : ∀ r, 1 ≤ r → r ≤ n → 0 ≤ rd U r
  seen : ∀ j, 0 ≤ j → j ≤ n → (rdOf false S j = true ↔ j ∈ t)
  rgt : ∀ j ∈ a :: t, 0 ≤ j ∧ j ≤ n
  occ : ∀ j ∈ a :: t, rd O j ≠ 0
  ch : Chain F (a :: t)
  cht : ∀ j ∈ a :: t, j ≠ 0 → rd U (rd O (rd F j)) + rd V j = M c (rd O (rd F j)) j
  least : ∀ j, 1 ≤ j → j ≤ n → j ∉ t → (t = [] ∧ rd L j = 1152921504606846976) ∨
    (rd F j ∈ t ∧ rd L j = M c (rd O (rd F j)) j - rd U (rd O (rd F j)) - rd V j ∧ ∀ s ∈ t, rd L j ≤ M c (rd O s) j - rd U (rd O s) - rd V j)

section
variable {c : List (List Int)} {n i : Int} {U V O F L : List Int} {S : List Bool} {a : Int} {t : List Int}

theorem Ph.freeCol (_ : Tab c n) (P : Ph c n i U V O F L S a t) : ∃ j, 1 ≤ j ∧ j ≤ n ∧ rd O j = 0 :=
  free_col (by have := P.i1; have := P.i2; omega) (i := i - 1) (by have := P.i2; omega) (by have := P.i1; omega) P.rng P.inj
theorem Ph.uhi (T : Tab c n) (P : Ph c n i U V O F L S a t) {r : Int} (h1 : 1 ≤ r) (h2 : r ≤ n) : rd U r ≤ 1099511627776 := by
  obtain ⟨j, x, y, z⟩ := P.freeCol T
  have f := P.feas r j h1 h2 x y
  have v := P.free j x y z
  have m := T.hi r j h1 h2 x y
  omega
theorem Ph.row (P : Ph c n i U V O F L S a t) {s : Int} (hs : s ∈ a :: t) : 1 ≤ rd O s ∧ rd O s ≤ n := by
  have r := P.rgt s hs
  have o := P.occ s hs
  have i1 := P.i1
  have i2 := P.i2
  by_cases h : s = 0
  · subst h; rw [P.o0]; omega
  · have := P.rng s (by omega) r.2; omega
theorem Ph.vlo (T : Tab c n) (P : Ph c n i U V O F L S a t) {j : Int} (h1 : 1 ≤ j) (h2 : j ≤ n) : -1099511627776 ≤ rd V j := by
  by_cases h : rd O j = 0
  · have := P.free j h1 h2 h; omega
  · have g := P.tight j h1 h2 h
    have r := P.rng j h1 h2
    have i2 := P.i2
    have u := P.uhi T (r := rd O j) (by omega) (by omega)
    have m := T.lo (rd O j) j (by omega) (by omega) h1 h2
    omega
/-- Rows of different seen columns are different. -/
theorem Ph.rowInj (P : Ph c n i U V O F L S a t) {s s' : Int} (hs : s ∈ a :: t) (h1 : 0 ≤ s') (h2 : s' ≤ n) (e : rd O s = rd O s') : s = s' := by
  have r := P.rgt s hs
  have o := P.occ s hs
  have i1 := P.i1
  by_cases h : s = 0
  · by_cases h' : s' = 0
    · omega
    · have := P.rng s' (by omega) h2
      rw [h, P.o0] at e; omega
  · by_cases h' : s' = 0
    · have := P.rng s (by omega) r.2
      rw [h', P.o0] at e; omega
    · exact P.inj s s' (by omega) r.2 (by omega) h2 e o

/-- What the loop over the columns has done ahead of column j. -/
structure L2 (c : List (List Int)) (n : Int) (U V O F0 L0 : List Int) (a : Int) (t : List Int) (F L : List Int) (x d j : Int) : Prop where
  lf : (F.length : Int) = n + 1
  ll : (L.length : Int) = n + 1
  fs : ∀ s ∈ a :: t, rd F s = rd F0 s
  done : ∀ q, 1 ≤ q → q < j → q ≤ n → q ∉ a :: t → rd F q ∈ a :: t ∧ rd L q = M c (rd O (rd F q)) q - rd U (rd O (rd F q)) - rd V q ∧ ∀ s ∈ a :: t, rd L q ≤ M c (rd O s) q - rd U (rd O s) - rd V q
  todo : ∀ q, 1 ≤ q → j ≤ q → q ≤ n → q ∉ a :: t → rd F q = rd F0 q ∧ rd L q = rd L0 q
  best : (d = 1152921504606846976 ∧ ∀ q, 1 ≤ q → q < j → q ≤ n → q ∈ a :: t) ∨ (1 ≤ x ∧ x < j ∧ x ≤ n ∧ x ∉ a :: t ∧ d = rd L x ∧ ∀ q, 1 ≤ q → q < j → q ≤ n → q ∉ a :: t → d ≤ rd L q)

set_option maxHeartbeats 4000000 in
theorem l2_ev (T : Tab c n) (P : Ph c n i U V O F L S a t) (Q : List Int × List Int × List Int → Prop)
    (hK : ∀ F' L' x d, L2 c n U V O F L a t F' L' x d (n + 1) → ∃ R, Ev (fun k => assign_solved_add.l3 k U c V O n F' L' (S.set a.toNat true) x d (wrap64 (n + 1)) 0) R ∧ Q R)
    (m : Nat) : ∀ (j : Int) (F' L' : List Int) (x d : Int), 1 ≤ j → j + m = n + 1 → L2 c n U V O F L a t F' L' x d j →
      ∃ R, Ev (fun k => assign_solved_add.l2 k U c V O n F' L' (S.set a.toNat true) a (rd O a) x d j) R ∧ Q R := by
  have hn := T.le
  have ha := P.rgt a (List.mem_cons_self)
  have hra := P.row (s := a) (List.mem_cons_self)
  have hsn : ∀ q, 0 ≤ q → q ≤ n → (rdOf false (S.set a.toNat true) q = true ↔ q ∈ a :: t) := by
    intro q h1 h2
    rw [rdB_set ha.1 (by have := P.ls; omega) h1]
    by_cases e : q = a
    · rw [if_pos e, e]; simp
    · rw [if_neg e, P.seen q h1 h2]; simp [e]
  induction m with
  | zero =>
    intro j F' L' x d h1 hm H
    have hj : j = n + 1 := by omega
    subst hj
    obtain ⟨R, e, q⟩ := hK F' L' x d H
    exact ⟨R, ev_step (fun k => by simp only [assign_solved_add.l2] <;> exact rfl) (ev_neg (by omega) e), q⟩
  | succ m ih =>
    intro j F' L' x d h1 hm H
    have lf := H.lf
    have ll := H.ll
    have ls := P.ls
    have lu := P.lu
    have lv := P.lv
    have hlen : ((S.set a.toNat true).length : Int) = n + 1 := by rw [List.length_set]; exact ls
    by_cases hs : j ∈ a :: t
    · have H' : L2 c n U V O F L a t F' L' x d (j + 1) := by
        refine ⟨lf, ll, H.fs, fun q a1 a2 a3 a4 => ?_, fun q a1 a2 a3 a4 => H.todo q a1 (by omega) a3 a4, ?_⟩
        · exact H.done q a1 (by have : q ≠ j := fun e => a4 (e ▸ hs); omega) a3 a4
        · rcases H.best with ⟨b1, b2⟩ | ⟨b1, b2, b3, b4, b5, b6⟩
          · exact Or.inl ⟨b1, fun q a1 a2 a3 => by by_cases e : q = j; exact e ▸ hs; exact b2 q a1 (by omega) a3⟩
          · exact Or.inr ⟨b1, by omega, b3, b4, b5, fun q a1 a2 a3 a4 => b6 q a1 (by have : q ≠ j := fun e => a4 (e ▸ hs); omega) a3 a4⟩
      obtain ⟨R, e, q⟩ := ih (j + 1) F' L' x d (by omega) (by omega) H'
      refine ⟨R, ev_step (fun k => by simp only [assign_solved_add.l2] <;> exact rfl) ?_, q⟩
      refine ev_pos (by omega) (ev_pos (by omega) (ev_pos (by omega) (ev_pos ((hsn j (by omega) (by omega)).2 hs) ?_)))
      rw [w64 (by omega) (by omega)]; exact e
    · -- an unseen column
      have hf := P.feas (rd O a) j hra.1 hra.2 h1 (by omega)
      have u0 := P.ulo (rd O a) hra.1 hra.2
      have u1 := P.uhi T hra.1 hra.2
      have v0 := P.vneg j h1 (by omega)
      have v1 := P.vlo T h1 (show j ≤ n by omega)
      have m0 := T.lo (rd O a) j hra.1 hra.2 h1 (by omega)
      have m1 := T.hi (rd O a) j hra.1 hra.2 h1 (by omega)
      have hrow := T.row (rd O a) hra.1 hra.2
      have hlenc := T.len
      obtain ⟨t1, t2⟩ := H.todo j h1 (by omega) (by omega) hs
      have hd : wrap64 (wrap64 (rd (rd_L1 c (rd O a - 1)) (j - 1) - rd U (rd O a)) - rd V j) = M c (rd O a) j - rd U (rd O a) - rd V j := by
        rw [M_eq, w64 (n := M c (rd O a) j - rd U (rd O a)) (by omega) (by omega), w64 (by omega) (by omega)]
      -- what is left behind column j, whichever way
      have key : ∀ F1 L1 : List Int, (F1.length : Int) = n + 1 → (L1.length : Int) = n + 1 → (∀ q, 0 ≤ q → q ≠ j → rd F1 q = rd F' q ∧ rd L1 q = rd L' q) →
          (rd F1 j ∈ a :: t ∧ rd L1 j = M c (rd O (rd F1 j)) j - rd U (rd O (rd F1 j)) - rd V j ∧ ∀ s ∈ a :: t, rd L1 j ≤ M c (rd O s) j - rd U (rd O s) - rd V j) →
          ∃ R, Ev (fun k => assign_solved_add.j3 k U c V O n F1 L1 (S.set a.toNat true) a (rd O a) x d j) R ∧ Q R := by
        intro F1 L1 lf1 ll1 same dn
        have hsame : ∀ s ∈ a :: t, rd F1 s = rd F s := fun s hs' => by
          have := P.rgt s hs'
          rw [(same s this.1 (fun e => hs (e ▸ hs'))).1]; exact H.fs s hs'
        have hdone : ∀ q, 1 ≤ q → q < j + 1 → q ≤ n → q ∉ a :: t → rd F1 q ∈ a :: t ∧ rd L1 q = M c (rd O (rd F1 q)) q - rd U (rd O (rd F1 q)) - rd V q ∧ ∀ s ∈ a :: t, rd L1 q ≤ M c (rd O s) q - rd U (rd O s) - rd V q := by
          intro q a1 a2 a3 a4
          by_cases e : q = j
          · subst e; exact dn
          · have := same q (by omega) e
            rw [this.1, this.2]; exact H.done q a1 (by omega) a3 a4
        have htodo : ∀ q, 1 ≤ q → j + 1 ≤ q → q ≤ n → q ∉ a :: t → rd F1 q = rd F q ∧ rd L1 q = rd L q := by
          intro q a1 a2 a3 a4
          have := same q (by omega) (by omega)
          rw [this.1, this.2]; exact H.todo q a1 (by omega) a3 a4
        have hb := dn.2.2 a (List.mem_cons_self)
        have hl1 : rd L1 j < 1152921504606846976 := by omega
        by_cases hlt : rd L1 j < d
        · obtain ⟨R, e, q⟩ := ih (j + 1) F1 L1 j (rd L1 j) (by omega) (by omega) ⟨lf1, ll1, hsame, hdone, htodo, Or.inr ⟨h1, by omega, by omega, hs, rfl, fun q a1 a2 a3 a4 => by
            by_cases e : q = j
            · subst e; omega
            · rcases H.best with ⟨b1, b2⟩ | ⟨b1, b2, b3, b4, b5, b6⟩
              · exact absurd (b2 q a1 (by omega) a3) a4
              · have := b6 q a1 (by omega) a3 a4
                rw [(same q (by omega) e).2]; omega⟩⟩
          refine ⟨R, ev_step (fun k => by simp only [assign_solved_add.j3] <;> exact rfl) ?_, q⟩
          refine ev_pos (by omega) (ev_pos (by omega) (ev_pos hlt ?_))
          rw [w64 (by omega) (by omega)]; exact e
        · obtain ⟨R, e, q⟩ := ih (j + 1) F1 L1 x d (by omega) (by omega) ⟨lf1, ll1, hsame, hdone, htodo, by
            rcases H.best with ⟨b1, b2⟩ | ⟨b1, b2, b3, b4, b5, b6⟩
            · omega
            · refine Or.inr ⟨b1, by omega, b3, b4, by rw [(same x (by omega) (by omega)).2]; exact b5, fun q a1 a2 a3 a4 => ?_⟩
              by_cases e : q = j
              · subst e; omega
              · rw [(same q (by omega) e).2]; exact b6 q a1 (by omega) a3 a4⟩
          refine ⟨R, ev_step (fun k => by simp only [assign_solved_add.j3] <;> exact rfl) ?_, q⟩
          refine ev_pos (by omega) (ev_pos (by omega) (ev_neg hlt ?_))
          rw [w64 (by omega) (by omega)]; exact e
      have hold := P.least j h1 (by omega) (fun h => hs (List.mem_cons_of_mem _ h))
      obtain ⟨D, hD⟩ : ∃ D, D = M c (rd O a) j - rd U (rd O a) - rd V j := ⟨_, rfl⟩
      rw [← hD] at hd
      have go : ∃ R, Ev (fun k => if D < rd L' j then (if j < (F'.length : Int) then assign_solved_add.j3 k U c V O n (F'.set j.toNat a) (L'.set j.toNat D) (S.set a.toNat true) a (rd O a) x d j else none) else assign_solved_add.j3 k U c V O n F' L' (S.set a.toNat true) a (rd O a) x d j) R ∧ Q R := by
        by_cases hlt : D < rd L' j
        · have sf : ∀ q, 0 ≤ q → rd (F'.set j.toNat a) q = if q = j then a else rd F' q := fun q hq => rd_set (by omega) (by omega) hq
          have sl : ∀ q, 0 ≤ q → rd (L'.set j.toNat D) q = if q = j then D else rd L' q := fun q hq => rd_set (by omega) (by omega) hq
          have dn : rd (F'.set j.toNat a) j ∈ a :: t ∧ rd (L'.set j.toNat D) j = M c (rd O (rd (F'.set j.toNat a) j)) j - rd U (rd O (rd (F'.set j.toNat a) j)) - rd V j ∧ ∀ s ∈ a :: t, rd (L'.set j.toNat D) j ≤ M c (rd O s) j - rd U (rd O s) - rd V j := by
            rw [sf j (by omega), sl j (by omega), if_pos rfl, if_pos rfl]
            refine ⟨List.mem_cons_self, hD, fun s hs' => ?_⟩
            rcases List.mem_cons.1 hs' with rfl | hs'
            · omega
            · rcases hold with ⟨e, _⟩ | ⟨_, _, e⟩
              · rw [e] at hs'; exact absurd hs' (List.not_mem_nil)
              · have := e s hs'; omega
          obtain ⟨R, e, q⟩ := key (F'.set j.toNat a) (L'.set j.toNat D) (by rw [List.length_set]; exact lf) (by rw [List.length_set]; exact ll)
            (fun q hq hne => by rw [sf q hq, sl q hq, if_neg hne, if_neg hne]; exact ⟨rfl, rfl⟩) dn
          refine ⟨R, ?_, q⟩
          refine ev_pos hlt ?_
          refine ev_pos (by omega) ?_
          exact e
        · obtain ⟨R, e, q⟩ := key F' L' lf ll (fun q _ _ => ⟨rfl, rfl⟩) (by
            rcases hold with ⟨e, e2⟩ | ⟨e1, e2, e3⟩
            · omega
            · rw [t1, t2]
              refine ⟨List.mem_cons_of_mem _ e1, e2, fun s hs' => ?_⟩
              rcases List.mem_cons.1 hs' with rfl | hs'
              · omega
              · exact e3 s hs')
          exact ⟨R, ev_neg hlt e, q⟩
      obtain ⟨R, e, q⟩ := go
      refine ⟨R, ev_step (fun k => by simp only [assign_solved_add.l2] <;> exact rfl) ?_, q⟩
      refine ev_pos (by omega) (ev_pos (by omega) (ev_pos (by omega) (ev_neg (fun h => hs ((hsn j (by omega) (by omega)).1 h)) ?_)))
      rw [w64 (n := rd O a - 1) (by omega) (by omega), w64 (n := j - 1) (by omega) (by omega), hd]
      refine ev_pos (by omega) (ev_pos (by omega) (ev_pos (by omega) ?_))
      refine ev_pos (by omega) (ev_pos (by omega) (ev_pos (by omega) (ev_pos (by omega) (ev_pos (by omega) e))))
end
end Go.Proofs.Ytbmflpflmjfabaa.PAll
