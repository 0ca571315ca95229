/- The change of the prices behind a column, and what stays true of them. -/
import Derived.Test.YtbmflpflmjfabaaPAllx0
import Derived.Test.YtbmflpflmjfabaaPAllf31
import Derived.Test.YtbmflpflmjfabaaAsgAdd2
namespace Go.Proofs.Ytbmflpflmjfabaa.PAll
set_option linter.unusedVariables false
open Go Go.RowKit Go.Proofs.YtbmflpflmjfabaaW.PrintWords Go.Proofs.YtbmflpflmjfabaaW.PrintLast Go.Proofs.YtbmflpflmjfabaaW.PrintMore Go.Proofs.Ytbmflpflmjfabaa.MathNum Go.Proofs.Ytbmflpflmjfabaa.EvWords
attribute [local irreducible] rd M rdOf

theorem Chain.mem_from {F t : List Int} (h : Chain F t) : ∀ {j : Int}, j ∈ t → j ≠ 0 → rd F j ∈ t := by
  induction h with
  | base => intro j hj z; exact absurd (List.mem_singleton.1 hj) z
  | step h0 h1 h2 _ ih =>
    intro j hj z
    rcases List.mem_cons.1 hj with rfl | hj
    · exact List.mem_cons_of_mem _ h2
    · exact List.mem_cons_of_mem _ (ih hj z)

/-- What the change of prices has done ahead of column m. -/
structure L3 (n : Int) (U V O L : List Int) (w : List Int) (d : Int) (U1 V1 L1 : List Int) (m : Int) : Prop where
  lu : (U1.length : Int) = n + 1
  lv : (V1.length : Int) = n + 1
  ll : (L1.length : Int) = n + 1
  u1 : ∀ s ∈ w, s < m → rd U1 (rd O s) = rd U (rd O s) + d
  u0 : ∀ r, 0 ≤ r → (∀ s ∈ w, s < m → rd O s ≠ r) → rd U1 r = rd U r
  v1 : ∀ j ∈ w, 1 ≤ j → j < m → rd V1 j = rd V j - d
  v0 : ∀ j, 1 ≤ j → (j < m → j ∉ w) → rd V1 j = rd V j
  l1 : ∀ j, 1 ≤ j → j < m → j ∉ w → rd L1 j = rd L j - d
  l0 : ∀ j, 0 ≤ j → m ≤ j → rd L1 j = rd L j

theorem L3.start {n d : Int} {U V O L w : List Int} (a : (U.length : Int) = n + 1) (b : (V.length : Int) = n + 1) (e : (L.length : Int) = n + 1) (hw : ∀ s ∈ w, 0 ≤ s) : L3 n U V O L w d U V L 0 :=
  ⟨a, b, e, fun s hs h => by have := hw s hs; omega, fun _ _ _ => rfl, fun j _ h1 h2 => by omega, fun _ _ _ => rfl, fun j h1 h2 => by omega, fun _ _ _ => rfl⟩

theorem L3.seen {n d m : Int} {U V O L w U1 V1 L1 : List Int} (H : L3 n U V O L w d U1 V1 L1 m) (hm0 : 0 ≤ m) (hm : m ≤ n) (hw : m ∈ w) (hr : ∀ s ∈ w, 0 ≤ rd O s ∧ rd O s ≤ n)
    (hinj : ∀ s ∈ w, ∀ s' ∈ w, rd O s = rd O s' → s = s') (x : Int) (hx : 1 ≤ m → x = rd V m - d) :
    L3 n U V O L w d (U1.set (rd O m).toNat (rd U (rd O m) + d)) (V1.set m.toNat x) L1 (m + 1) := by
  have lu := H.lu
  have lv := H.lv
  have rm := hr m hw
  have su : ∀ q, 0 ≤ q → rd (U1.set (rd O m).toNat (rd U (rd O m) + d)) q = if q = rd O m then rd U (rd O m) + d else rd U1 q := fun q hq => rd_set rm.1 (by omega) hq
  have sv : ∀ q, 0 ≤ q → rd (V1.set m.toNat x) q = if q = m then x else rd V1 q := fun q hq => rd_set hm0 (by omega) hq
  refine ⟨by rw [List.length_set]; exact lu, by rw [List.length_set]; exact lv, H.ll, fun s hs h => ?_, fun r h0 h => ?_, fun j hj h1 h2 => ?_, fun j h1 h2 => ?_, fun j h1 h2 h3 => ?_, fun j h1 h2 => H.l0 j h1 (by omega)⟩
  · rw [su _ (hr s hs).1]
    by_cases e : s = m
    · subst e; rw [if_pos rfl]
    · rw [if_neg (fun h => e (hinj s hs m hw h))]
      exact H.u1 s hs (by omega)
  · rw [su r h0, if_neg (fun e => h m hw (by omega) e.symm)]
    exact H.u0 r h0 (fun s hs hlt => h s hs (by omega))
  · rw [sv j (by omega)]
    by_cases e : j = m
    · subst e; rw [if_pos rfl]; exact hx h1
    · rw [if_neg e]; exact H.v1 j hj h1 (by omega)
  · rw [sv j (by omega), if_neg (fun e : j = m => h2 (by omega) (e ▸ hw))]
    exact H.v0 j h1 (fun h => h2 (by omega))
  · exact H.l1 j h1 (by have : j ≠ m := fun e => h3 (e ▸ hw); omega) h3
theorem L3.unseen {n d m : Int} {U V O L w U1 V1 L1 : List Int} (H : L3 n U V O L w d U1 V1 L1 m) (hm0 : 0 ≤ m) (hm : m ≤ n) (hw : m ∉ w) :
    L3 n U V O L w d U1 V1 (L1.set m.toNat (rd L m - d)) (m + 1) := by
  have ll := H.ll
  have sl : ∀ q, 0 ≤ q → rd (L1.set m.toNat (rd L m - d)) q = if q = m then rd L m - d else rd L1 q := fun q hq => rd_set hm0 (by omega) hq
  refine ⟨H.lu, H.lv, by rw [List.length_set]; exact ll, fun s hs h => ?_, fun r h0 h => ?_, fun j hj h1 h2 => ?_, fun j h1 h2 => ?_, fun j h1 h2 h3 => ?_, fun j h1 h2 => ?_⟩
  · exact H.u1 s hs (by have : s ≠ m := fun e => hw (e ▸ hs); omega)
  · exact H.u0 r h0 (fun s hs hlt => h s hs (by omega))
  · exact H.v1 j hj h1 (by have : j ≠ m := fun e => hw (e ▸ hj); omega)
  · exact H.v0 j h1 (fun h => h2 (by omega))
  · rw [sl j (by omega)]
    by_cases e : j = m
    · subst e; rw [if_pos rfl]
    · rw [if_neg e]; exact H.l1 j h1 (by omega) h3
  · rw [sl j h1, if_neg (by omega)]
    exact H.l0 j h1 (by omega)

theorem l3_ev {c : List (List Int)} {n : Int} {U V O F L w : List Int} {S : List Bool} {x d : Int} (hn0 : 0 ≤ n) (hn : n ≤ 16) (lo : (O.length : Int) = n + 1) (ls : (S.length : Int) = n + 1)
    (hs : ∀ j, 0 ≤ j → j ≤ n → (rdOf false S j = true ↔ j ∈ w)) (h0 : 0 ∈ w) (hr : ∀ s ∈ w, 0 ≤ rd O s ∧ rd O s ≤ n) (hinj : ∀ s ∈ w, ∀ s' ∈ w, rd O s = rd O s' → s = s')
    (hd0 : 0 ≤ d) (hd1 : d ≤ 4398046511104) (hU : ∀ s ∈ w, 0 ≤ rd U (rd O s) ∧ rd U (rd O s) ≤ 4398046511104) (hV : ∀ j, 1 ≤ j → j ≤ n → -4398046511104 ≤ rd V j ∧ rd V j ≤ 4398046511104)
    (hL : ∀ j, 1 ≤ j → j ≤ n → j ∉ w → 0 ≤ rd L j ∧ rd L j ≤ 1152921504606846976)
    (hx0 : 0 ≤ x) (hx1 : x ≤ n) (Q : List Int × List Int × List Int → Prop)
    (hK : ∀ U1 V1 L1, L3 n U V O L w d U1 V1 L1 (n + 1) → ∃ R, (if rd O x = 0 then Ev (fun k => assign_solved_add.l4 k U1 V1 O F x) R else Ev (fun k => assign_solved_add.l1 k U1 c V1 O n F L1 S x) R) ∧ Q R)
    (m : Nat) : ∀ (j : Int) (U1 V1 L1 : List Int), 0 ≤ j → j + m = n + 1 → L3 n U V O L w d U1 V1 L1 j → ∃ R, Ev (fun k => assign_solved_add.l3 k U1 c V1 O n F L1 S x d (n + 1) j) R ∧ Q R := by
  induction m with
  | zero =>
    intro j U1 V1 L1 h1 hm H
    have e : j = n + 1 := by omega
    subst e
    obtain ⟨R, e, q⟩ := hK U1 V1 L1 H
    refine ⟨R, ev_step (fun k => by simp only [assign_solved_add.l3] <;> exact rfl) ?_, q⟩
    refine ev_neg (by omega) (ev_pos hx0 (ev_pos (by omega) ?_))
    by_cases z : rd O x = 0
    · rw [if_pos z] at e; exact ev_pos z e
    · rw [if_neg z] at e; exact ev_neg z e
  | succ m ih =>
    intro j U1 V1 L1 h1 hm H
    have lu := H.lu
    have lv := H.lv
    have ll := H.ll
    by_cases hj : j ∈ w
    · have r := hr j hj
      have hu : rd U1 (rd O j) = rd U (rd O j) := H.u0 _ r.1 (fun s hs' h e => by have := hinj s hs' j hj e; omega)
      have bu := hU j hj
      obtain ⟨R, e, q⟩ := ih (j + 1) _ _ _ (by omega) (by omega) (H.seen h1 (by omega) hj hr hinj (wrap64 (rd V1 j - d)) (fun h => by
        have bv := hV j h (by omega)
        rw [H.v0 j h (fun h => by omega), w64 (by omega) (by omega)]))
      refine ⟨R, ev_step (fun k => by simp only [assign_solved_add.l3] <;> exact rfl) ?_, q⟩
      refine ev_pos (by omega) (ev_pos h1 (ev_pos (by omega) (ev_pos ((hs j h1 (by omega)).2 hj) ?_)))
      refine ev_pos (by omega) (ev_pos r.1 (ev_pos (by omega) (ev_pos (by omega) ?_)))
      rw [hu, w64 (n := rd U (rd O j) + d) (by omega) (by omega), w64 (n := j + 1) (by omega) (by omega)]
      exact e
    · have z : j ≠ 0 := fun e => hj (e ▸ h0)
      have bl := hL j (by omega) (by omega) hj
      obtain ⟨R, e, q⟩ := ih (j + 1) _ _ _ (by omega) (by omega) (H.unseen h1 (by omega) hj)
      refine ⟨R, ev_step (fun k => by simp only [assign_solved_add.l3] <;> exact rfl) ?_, q⟩
      refine ev_pos (by omega) (ev_pos h1 (ev_pos (by omega) (ev_neg (fun h => hj ((hs j h1 (by omega)).1 h)) ?_)))
      refine ev_pos (by omega) ?_
      rw [H.l0 j h1 (Int.le_refl _), w64 (n := rd L j - d) (by omega) (by omega), w64 (n := j + 1) (by omega) (by omega)]
      exact e

section
variable {c : List (List Int)} {n i : Int} {U V O F L : List Int} {S : List Bool} {a : Int} {t : List Int} {F' L' : List Int} {x d : Int} {U1 V1 L1 : List Int}

/-- The next column. -/
theorem L2.next (T : Tab c n) (P : Ph c n i U V O F L S a t) (H : L2 c n U V O F L a t F' L' x d (n + 1)) :
    1 ≤ x ∧ x ≤ n ∧ x ∉ a :: t ∧ d = rd L' x ∧ (∀ q, 1 ≤ q → q ≤ n → q ∉ a :: t → d ≤ rd L' q) ∧ rd F' x ∈ a :: t ∧ d = M c (rd O (rd F' x)) x - rd U (rd O (rd F' x)) - rd V x ∧ 0 ≤ d ∧ d ≤ 4398046511104 := by
  rcases H.best with ⟨_, h⟩ | ⟨b1, b2, b3, b4, b5, b6⟩
  · obtain ⟨j, x1, x2, x3⟩ := P.freeCol T
    exact absurd x3 (P.occ j (h j x1 (by omega) x2))
  · obtain ⟨e1, e2, _⟩ := H.done x b1 b2 b3 b4
    have r := P.row e1
    have f := P.feas _ x r.1 r.2 b1 b3
    have v := P.vlo T b1 b3
    have u := P.ulo _ r.1 r.2
    have hi := T.hi _ x r.1 r.2 b1 b3
    exact ⟨b1, b3, b4, b5, fun q h1 h2 h3 => b6 q h1 (by omega) h2 h3, e1, by omega, by omega, by omega⟩

/-- What stays true of the prices. -/
structure Nx (c : List (List Int)) (n i : Int) (U1 V1 O F' L1 w : List Int) (x : Int) : Prop where
  lu : (U1.length : Int) = n + 1
  lv : (V1.length : Int) = n + 1
  ll : (L1.length : Int) = n + 1
  feas : ∀ r j, 1 ≤ r → r ≤ n → 1 ≤ j → j ≤ n → rd U1 r + rd V1 j ≤ M c r j
  tight : ∀ j, 1 ≤ j → j ≤ n → rd O j ≠ 0 → rd U1 (rd O j) + rd V1 j = M c (rd O j) j
  vneg : ∀ j, 1 ≤ j → j ≤ n → rd V1 j ≤ 0
  free : ∀ j, 1 ≤ j → j ≤ n → rd O j = 0 → rd V1 j = 0
  ulo : ∀ r, 1 ≤ r → r ≤ n → 0 ≤ rd U1 r
  ch : Chain F' (x :: w)
  cht : ∀ j ∈ x :: w, j ≠ 0 → rd U1 (rd O (rd F' j)) + rd V1 j = M c (rd O (rd F' j)) j
  least : ∀ j, 1 ≤ j → j ≤ n → j ∉ w → rd F' j ∈ w ∧ rd L1 j = M c (rd O (rd F' j)) j - rd U1 (rd O (rd F' j)) - rd V1 j ∧ ∀ s ∈ w, rd L1 j ≤ M c (rd O s) j - rd U1 (rd O s) - rd V1 j

theorem nx_of (T : Tab c n) (P : Ph c n i U V O F L S a t) (H : L2 c n U V O F L a t F' L' x d (n + 1)) (H3 : L3 n U V O L' (a :: t) d U1 V1 L1 (n + 1)) : Nx c n i U1 V1 O F' L1 (a :: t) x := by
  obtain ⟨x1, x2, x3, x4, x5, x6, x7, d0, d1⟩ := H.next T P
  have hu1 : ∀ s ∈ a :: t, rd U1 (rd O s) = rd U (rd O s) + d := fun s hs => H3.u1 s hs (by have := P.rgt s hs; omega)
  have hv1 : ∀ j ∈ a :: t, 1 ≤ j → rd V1 j = rd V j - d := fun j hj h => H3.v1 j hj h (by have := P.rgt j hj; omega)
  have hv0 : ∀ j, 1 ≤ j → j ∉ a :: t → rd V1 j = rd V j := fun j h1 h2 => H3.v0 j h1 (fun _ => h2)
  have hl1 : ∀ j, 1 ≤ j → j ≤ n → j ∉ a :: t → rd L1 j = rd L' j - d := fun j h1 h2 h3 => H3.l1 j h1 (by omega) h3
  have hu0 : ∀ r, 0 ≤ r → (∀ s ∈ a :: t, rd O s ≠ r) → rd U1 r = rd U r := fun r h0 h => H3.u0 r h0 (fun s hs _ => h s hs)
  have huge : ∀ r, 1 ≤ r → rd U r ≤ rd U1 r := by
    intro r h1
    by_cases e : ∃ s ∈ a :: t, rd O s = r
    · obtain ⟨s, hs, e⟩ := e
      rw [← e, hu1 s hs]; omega
    · rw [hu0 r (by omega) (fun s hs h => e ⟨s, hs, h⟩)]; omega
  have hvle : ∀ j, 1 ≤ j → rd V1 j ≤ rd V j := by
    intro j h1
    by_cases e : j ∈ a :: t
    · rw [hv1 j e h1]; omega
    · rw [hv0 j h1 e]; omega
  have hfs := H.fs
  have hchain : Chain F' (a :: t) := P.ch.congr fun j hj _ => hfs j hj
  refine ⟨H3.lu, H3.lv, H3.ll, fun r j a1 a2 b1 b2 => ?_, fun j a1 a2 z => ?_, fun j a1 a2 => ?_, fun j a1 a2 z => ?_, fun r a1 a2 => ?_, ?_, fun j hj z => ?_, fun j a1 a2 hj => ?_⟩
  · have f := P.feas r j a1 a2 b1 b2
    by_cases e : ∃ s ∈ a :: t, rd O s = r
    · obtain ⟨s, hs, e⟩ := e
      by_cases hj : j ∈ a :: t
      · rw [← e, hu1 s hs, hv1 j hj b1, e]; omega
      · have dn := (H.done j b1 (by omega) b2 hj).2.2 s hs
        have := x5 j b1 b2 hj
        rw [e] at dn
        rw [← e, hu1 s hs, hv0 j b1 hj, e]; omega
    · rw [hu0 r (by omega) (fun s hs h => e ⟨s, hs, h⟩)]
      have := hvle j b1; omega
  · have g := P.tight j a1 a2 z
    by_cases hj : j ∈ a :: t
    · rw [hu1 j hj, hv1 j hj a1]; omega
    · rw [hu0 (rd O j) (P.rng j a1 a2).1 (fun s hs e => by have := P.rowInj hs (by omega) a2 e; exact hj (this ▸ hs)), hv0 j a1 hj]; exact g
  · have := P.vneg j a1 a2
    have := hvle j a1; omega
  · rw [hv0 j a1 (fun hj => P.occ j hj z)]; exact P.free j a1 a2 z
  · have := P.ulo r a1 a2
    have := huge r a1; omega
  · exact Chain.step (by omega) x3 x6 hchain
  · rcases List.mem_cons.1 hj with rfl | hj
    · rw [hu1 _ x6, hv0 _ x1 x3]; omega
    · have g := P.cht j hj z
      have hfm : rd F j ∈ a :: t := by
        have := P.ch.mem_from hj z
        exact this
      have r := P.rgt j hj
      rw [hfs j hj, hu1 _ hfm, hv1 j hj (by omega)]; omega
  · obtain ⟨e1, e2, e3⟩ := H.done j a1 (by omega) a2 hj
    refine ⟨e1, ?_, fun s hs => ?_⟩
    · rw [hl1 j a1 a2 hj, hu1 _ e1, hv0 j a1 hj]; omega
    · have := e3 s hs
      rw [hl1 j a1 a2 hj, hu1 s hs, hv0 j a1 hj]; omega
end
end Go.Proofs.Ytbmflpflmjfabaa.PAll
