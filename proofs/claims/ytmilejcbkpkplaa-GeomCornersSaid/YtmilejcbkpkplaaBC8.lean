/- Texts of the proof, laid end to end. -/
import Derived.SizedLaws
import Derived.ChangeSlices
import Derived.DataElems
import Derived.WideShapes
import Derived.Test.YtmilejcbkpkplaaBC1
import Derived.Test.YtmilejcbkpkplaaBC3
import Derived.Test.YtmilejcbkpkplaaBC4
import Derived.Test.YtmilejcbkpkplaaBC5
import Derived.Test.YtmilejcbkpkplaaBC6
import Derived.Test.YtmilejcbkpkplaaBC7
/- GeomCorners: plain law. -/
namespace Go.Proofs.Ytmilejcbkpkplaa.PAll
set_option linter.unusedVariables false
open Go Go.RowKit Go.Proofs.YtmilejcbkpkplaaW.PrintWords Go.Proofs.YtmilejcbkpkplaaW.PrintLast Go.Proofs.YtmilejcbkpkplaaW.PrintMore Go.Proofs.Ytmilejcbkpkplaa.MathNum Go.Proofs.Ytmilejcbkpkplaa.EvWords Go.Proofs.Ytmilejcbkpkplaa.MathGeom

theorem cross_ok3 {c o p : S23} (hc : pOk c) (ho : pOk o) (hp : pOk p) : Ev (fun k => geom_Cross.f k c.f0 c.f1 o.f0 o.f1 p.f0 p.f1) (cx c o p, 0) := by
  have v := valid_ev (ps := [(⟨c.f0, c.f1⟩ : S23), (⟨o.f0, o.f1⟩ : S23), (⟨p.f0, p.f1⟩ : S23)]) (rs := []) (by simp) (by simp)
  simp only [geom_Cross.f]
  refine Ev.bind v (ev_pos (by simpa [pOk] using ⟨hc, ho, hp⟩) ?_)
  rw [minus_ok ho.1 ho.2 hc.1 hc.2, minus_ok hp.1 hp.2 hc.1 hc.2]
  obtain ⟨a1, a2⟩ := hc
  obtain ⟨b1, b2⟩ := ho
  obtain ⟨c1, c2⟩ := hp
  unfold cOk at *
  simp only [Option.bind_some]
  rw [(cross_cr (by omega) (by omega) (by omega) (by omega)).1]
  exact ev_now _

/-- The corner behind the corner number i. -/
theorem Hulled.next {l H : List S23} (h : Hulled l H) {i : Nat} (hi : i < H.length) : nxt l H[i] = H[(i + 1) % H.length]'(Nat.mod_lt _ h.ne) := by
  by_cases c : i + 1 < H.length
  · simp only [Nat.mod_eq_of_lt c]; exact h.chain i c
  · have e : i = H.length - 1 := by omega
    subst e
    have z : (H.length - 1 + 1) % H.length = 0 := by rw [show H.length - 1 + 1 = H.length by omega, Nat.mod_self]
    simp only [z]
    exact h.back
theorem Cor_sub {l H : List S23} {c : S23} (h : Cor l c) (hs : ∀ p ∈ H, p ∈ l) : Cor H c := by
  obtain ⟨d, e, hD, hH⟩ := h
  exact ⟨d, e, hD, fun p hp => hH p (hs p hp)⟩
theorem Hulled.nxt_eq {l H : List S23} (h : Hulled l H) {i : Nat} (hi : i < H.length) : nxt H H[i] = nxt l H[i] := by
  have cl := h.cor H[i] (List.getElem_mem hi)
  have cH := Cor_sub cl h.sub
  have nm : nxt l H[i] ∈ H := by rw [h.next hi]; exact List.getElem_mem _
  rcases nxt_good cH with ⟨e1, all1⟩ | ⟨m1, n1, g1⟩ <;> rcases nxt_good cl with ⟨e2, all2⟩ | ⟨m2, n2, g2⟩
  · rw [e1, e2]
  · exact absurd (all1 _ nm) n2
  · exact absurd (all2 _ (h.sub _ m1)) n1
  · exact Gd_uniq cH m1 nm g1 (fun p hp => g2 p (h.sub p hp))
/-- The hull of a hull's corners is the hull. -/
theorem Hulled.self {l H : List S23} (h : Hulled l H) : Hulled H H where
  ne := h.ne
  nodup := h.nodup
  sub := fun p hp => hp
  cor := fun p hp => Cor_sub (h.cor p hp) h.sub
  first := fun r hr => h.first r (h.sub r hr)
  chain := fun i hi => by rw [h.nxt_eq (by omega)]; exact h.chain i hi
  back := by
    have := h.nxt_eq (i := H.length - 1) (by have := h.ne; omega)
    rw [this]; exact h.back
theorem Hulled.uniq0 {l H H' : List S23} (h : Hulled l H) (h' : Hulled l H') : ∀ i (hi : i < H.length) (hi' : i < H'.length), H[i] = H'[i] := by
  intro i
  induction i with
  | zero =>
    intro hi hi'
    exact lt2_antisymm (h'.first _ (h.sub _ (List.getElem_mem hi))) (h.first _ (h'.sub _ (List.getElem_mem hi')))
  | succ i ih =>
    intro hi hi'
    rw [← h.chain i hi, ← h'.chain i hi', ih (by omega) (by omega)]
theorem Hulled.le {l H H' : List S23} (h : Hulled l H) (h' : Hulled l H') : H'.length ≤ H.length := by
  apply Nat.not_lt.mp
  intro lt
  have n0 := h.ne
  have e := h.uniq0 h' (H.length - 1) (by omega) (by omega)
  have b := h.back
  have c := h'.chain (H.length - 1) (by omega)
  have z := h.uniq0 h' 0 n0 (by omega)
  rw [← e, b, z] at c
  have := (List.getElem_inj h'.nodup).1 c
  omega
theorem Hulled.uniq {l H H' : List S23} (h : Hulled l H) (h' : Hulled l H') : H = H' :=
  List.ext_getElem (Nat.le_antisymm (h'.le h) (h.le h')) (h.uniq0 h')
/-- From a corner to the next one nothing is to the right. -/
theorem Hulled.good {l H : List S23} (h : Hulled l H) (h2 : 1 < H.length) {i : Nat} (hi : i < H.length) : Gd l H[i] (H[(i + 1) % H.length]'(Nat.mod_lt _ h.ne)) := by
  rw [← h.next hi]
  rcases nxt_good (h.cor H[i] (List.getElem_mem hi)) with ⟨_, all⟩ | ⟨_, _, g⟩
  · have e0 := all _ (h.sub _ (List.getElem_mem (l := H) (n := 0) (by omega)))
    have e1 := all _ (h.sub _ (List.getElem_mem (l := H) (n := 1) (by omega)))
    have := (List.getElem_inj (i := 0) (j := 1) h.nodup).1 (e0.trans e1.symm)
    omega
  · exact g
/-- Every point is inside. -/
theorem Hulled.inside {l H : List S23} (h : Hulled l H) {p : S23} (hp : p ∈ l) : inside p H = true := by
  have n0 := h.ne
  unfold PAll.inside
  rw [if_neg (by omega)]
  by_cases h3 : H.length < 3
  · rw [if_pos h3, show (0 : Int) = ((0 : Nat) : Int) from rfl, rdT_nat H n0, rdT_nat H (i := H.length - 1) (by omega)]
    refine decide_eq_true ?_
    by_cases h1 : H.length = 1
    · have e : nxt l H[0] = H[0] := by have := h.next n0; simp only [h1, Nat.mod_one] at this; exact this
      have all : p = H[0] := by
        rcases nxt_good (h.cor H[0] (List.getElem_mem n0)) with ⟨_, all⟩ | ⟨_, ne, _⟩
        · exact all p hp
        · exact absurd e ne
      simp only [h1, Nat.sub_self]
      rw [all]
      simp [nst, dt, cmp3]
    · have h2 : H.length = 2 := by omega
      have g0 := h.good (by omega) (i := 0) (by omega) p hp
      have g1 := h.good (by omega) (i := 1) (by omega) p hp
      simp only [h2, Nat.reduceAdd, Nat.reduceMod, Nat.reduceSub] at g0 g1 ⊢
      generalize H[0] = a at *
      generalize H[1] = b at *
      have e1 : cx b a p = -cx a b p := by unfold cx cr; grind
      have z : cx a b p = 0 := by omega
      have k0 := g0.2 z
      have k1 := g1.2 (by omega)
      have e2 : sq b p = sq a p - 2 * -dt (a.f0 - p.f0) (a.f1 - p.f1) (b.f0 - a.f0) (b.f1 - a.f1) + sq a b := by unfold sq dt; grind
      have e3 : sq b a = sq a b := by unfold sq dt; grind
      have e4 : dt (a.f0 - p.f0) (a.f1 - p.f1) (a.f0 - p.f0) (a.f1 - p.f1) = sq a p := by unfold sq dt; grind
      have e5 : dt (a.f0 - p.f0 + (b.f0 - a.f0)) (a.f1 - p.f1 + (b.f1 - a.f1)) (a.f0 - p.f0 + (b.f0 - a.f0)) (a.f1 - p.f1 + (b.f1 - a.f1)) = sq b p := by unfold sq dt; grind
      have e6 : cr (a.f0 - p.f0) (a.f1 - p.f1) (b.f0 - a.f0) (b.f1 - a.f1) = cx a b p := by unfold cx cr; grind
      have e7 : dt (b.f0 - a.f0) (b.f1 - a.f1) (b.f0 - a.f0) (b.f1 - a.f1) = sq a b := rfl
      have s1 := sq_nonneg a p
      have s2 := sq_nonneg b p
      unfold nst
      rw [e4, e5, e6, e7, z]
      have le : ∀ x y : Int, x ≤ y → cmp3 x y ≤ 0 := by
        intro x y hxy
        rcases cmp3_cases x y with ⟨h, e⟩ | ⟨h, e⟩ | ⟨h, e⟩ <;> rw [e] <;> omega
      split
      · exact le _ _ (by omega)
      · split
        · exact le _ _ (by omega)
        · exact le _ _ (by simp)
  · rw [if_neg h3]
    refine decide_eq_true (fun i hi => ?_)
    rw [rdT_nat H hi, rdT_nat H (Nat.mod_lt _ n0)]
    exact (h.good (by omega) hi p hp).1

theorem has_ev {l : List S23} {p : S23} (hl : l.length ≤ 16) (hp : p ∈ l) (d : Nat) : ∀ i : Nat, i + d = l.length → p ∉ l.take i → Ev (fun k => dancestudiolaw03_has.l0 k l (i : Int) p.f0 p.f1) true := by
  induction d with
  | zero => intro i hi h; rw [List.take_of_length_le (by omega)] at h; exact absurd hp h
  | succ d ih =>
    intro i hi h
    have hlt : i < l.length := by omega
    refine ev_step (fun k => by simp only [dancestudiolaw03_has.l0] <;> exact rfl) (ev_pos (by omega) (ev_pos (by omega) ?_))
    rw [rdT_nat l hlt, beq_pt]
    by_cases he : l[i] = p
    · exact ev_pos (by simpa using he) (ev_now _)
    · refine ev_neg (by simpa using he) ?_
      rw [w64 (by omega) (by omega)]
      refine ih (i + 1) (by omega) ?_
      rw [List.take_succ_eq_append_getElem hlt]
      simp only [List.mem_append, List.mem_singleton, not_or]
      exact ⟨h, fun e => he e.symm⟩
/-- The third loop: the corners are points, the first one is the least. -/
theorem third_ev {l H : List S23} (h : Hulled l H) (hl : l.length ≤ 16) (d : Nat) : ∀ i : Nat, i + d = H.length → Ev (fun k => dancestudiolaw03_GeomCorners.l2 k l H (i : Int)) true := by
  have hH := h.toWalk.len
  have n0 := h.ne
  induction d with
  | zero =>
    intro i hi
    exact ev_step (fun k => by simp only [dancestudiolaw03_GeomCorners.l2] <;> exact rfl) (ev_neg (by omega) (Ev.bind awake_ev (ev_now _)))
  | succ d ih =>
    intro i hi
    have hlt : i < H.length := by omega
    have next : Ev (fun k => dancestudiolaw03_GeomCorners.j6 k l H (i : Int) false) true := by
      refine ev_step (fun k => by simp only [dancestudiolaw03_GeomCorners.j6] <;> exact rfl) (ev_neg (by simp) ?_)
      rw [w64 (by omega) (by omega)]
      exact ih (i + 1) (by omega)
    refine ev_step (fun k => by simp only [dancestudiolaw03_GeomCorners.l2] <;> exact rfl) (ev_pos (by omega) (ev_pos (by omega) ?_))
    rw [rdT_nat H hlt, show rd_T23 H 0 = H[0] from rdT_nat H n0]
    refine Ev.bind (r := true) ?_ (ev_pos rfl ?_)
    · simp only [dancestudiolaw03_has.f]
      exact has_ev hl (h.sub _ (List.getElem_mem hlt)) l.length 0 (by omega) (by simp)
    · by_cases i0 : (i : Int) > 0
      · refine ev_pos i0 (ev_pos (by omega) ?_)
        have nl := h.first _ (h.sub _ (List.getElem_mem hlt))
        have ne : H[i] ≠ H[0] := fun e => by have := (List.getElem_inj h.nodup).1 e; omega
        have ne' : ¬ (H[i].f0 = H[0].f0 ∧ H[i].f1 = H[0].f1) := fun e => ne (S23_ext e.1 e.2)
        unfold lt2 at nl
        refine ev_neg (by omega) ?_
        by_cases e : H[i].f0 = H[0].f0
        · refine ev_pos e ?_
          rw [decide_eq_false (by omega)]
          exact next
        · exact ev_neg e next
      · exact ev_neg i0 next
/-- The second loop: the point is to the right of no side. -/
theorem second_ev {l H : List S23} (h : Hulled l H) (hl : l.length ≤ 16) (hv : ∀ q ∈ l, pOk q) {x : Nat} (hx : x < l.length) (hR : Ev (fun k => dancestudiolaw03_GeomCorners.l0 k l H (((x + 1 : Nat) : Int))) true) (d : Nat) : ∀ i : Nat, i + d = H.length → Ev (fun k => dancestudiolaw03_GeomCorners.l1 k l H (x : Int) (i : Int)) true := by
  have hH := h.toWalk.len
  have n0 := h.ne
  have out : Ev (fun k => dancestudiolaw03_GeomCorners.l0 k l H (wrap64 ((x : Int) + 1))) true := by rw [w64 (by omega) (by omega)]; exact hR
  induction d with
  | zero =>
    intro i hi
    exact ev_step (fun k => by simp only [dancestudiolaw03_GeomCorners.l1] <;> exact rfl) (ev_neg (by omega) (ev_step (fun k => by simp only [dancestudiolaw03_GeomCorners.j4] <;> exact rfl) (ev_neg (by simp) out)))
  | succ d ih =>
    intro i hi
    have hlt : i < H.length := by omega
    refine ev_step (fun k => by simp only [dancestudiolaw03_GeomCorners.l1] <;> exact rfl) (ev_pos (by omega) ?_)
    by_cases h1 : (H.length : Int) > 1
    · rw [decide_eq_true h1]
      have hm : (i + 1) % H.length < H.length := Nat.mod_lt _ n0
      refine ev_step (fun k => by simp only [dancestudiolaw03_GeomCorners.j4] <;> exact rfl) (ev_pos (show true = true from rfl) (ev_pos (by omega) (ev_pos (by omega) (ev_neg (by omega) ?_))))
      rw [tmod_next n0 (by omega) hlt]
      refine ev_pos (by omega) (ev_pos (by omega) (ev_pos (by omega) (ev_pos (by omega) ?_)))
      rw [rdT_nat H hlt, rdT_nat H hm, rdT_nat l hx]
      refine Ev.bind (cross_ok3 (hv _ (h.sub _ (List.getElem_mem hlt))) (hv _ (h.sub _ (List.getElem_mem hm))) (hv _ (List.getElem_mem hx))) (ev_pos rfl (ev_neg ?_ ?_))
      · have := (h.good (by omega) hlt _ (List.getElem_mem hx)).1
        show ¬ cx H[i] H[(i + 1) % H.length] l[x] < 0
        omega
      · rw [w64 (by omega) (by omega)]
        exact ih (i + 1) (by omega)
    · rw [decide_eq_false h1]
      exact ev_step (fun k => by simp only [dancestudiolaw03_GeomCorners.j4] <;> exact rfl) (ev_neg (by simp) out)
/-- The first loop: every point is inside. -/
theorem firstl_ev {l H : List S23} (h : Hulled l H) (hl : l.length ≤ 16) (hv : ∀ q ∈ l, pOk q) (hR : HullR l (H, 0)) (d : Nat) : ∀ i : Nat, i + d = l.length → Ev (fun k => dancestudiolaw03_GeomCorners.l0 k l H (i : Int)) true := by
  induction d with
  | zero =>
    intro i hi
    exact ev_step (fun k => by simp only [dancestudiolaw03_GeomCorners.l0] <;> exact rfl) (ev_neg (by omega) (third_ev h hl H.length 0 (by omega)))
  | succ d ih =>
    intro i hi
    have hlt : i < l.length := by omega
    refine ev_step (fun k => by simp only [dancestudiolaw03_GeomCorners.l0] <;> exact rfl) (ev_pos (by omega) (ev_pos (by omega) ?_))
    rw [rdT_nat l hlt]
    have e := inside_ev l[i] hR (by omega)
    have e' : insV l[i] (H, 0) = (true, 0) := by
      unfold insV
      rw [if_pos rfl, if_pos (hv _ (List.getElem_mem hlt)), h.inside (List.getElem_mem hlt)]
    rw [e'] at e
    refine Ev.bind e (ev_pos rfl ?_)
    refine ev_step (fun k => by simp only [dancestudiolaw03_GeomCorners.j2] <;> exact rfl) (ev_neg (by simp) ?_)
    exact second_ev h hl hv hlt (ih (i + 1) (by omega)) H.length 0 (by omega)

theorem pure_GeomCorners (l : List S23) (_ : l.length ≤ maxLen) (_ : ∀ p ∈ l, True) (a : Int) (_ : (Lit.int .i64 a).wf = true) (b : Int) (_ : (Lit.int .i64 b).wf = true) : ∃ k, dancestudiolaw03_GeomCorners.f k l a b = some true := by
  refine ev_some ?_
  simp only [dancestudiolaw03_GeomCorners.f]
  by_cases h : (l.length : Int) > 20
  · exact ev_pos h (Ev.bind awake_ev (ev_now _))
  · refine ev_neg h ?_
    obtain ⟨R, hR, e1, _⟩ := hulls_ev l (by omega)
    refine Ev.bind e1 ?_
    have out : ∀ H, Ev (fun k => dancestudiolaw03_GeomCorners.l0 k l H 0) true → Ev (fun k => dancestudiolaw03_GeomCorners.j0 k l H false) true := fun H e =>
      ev_step (fun k => by simp only [dancestudiolaw03_GeomCorners.j0] <;> exact rfl) (ev_neg (by simp) e)
    have again : ∀ {H : List S23}, H.length ≤ 16 → (H = [] ∨ Hulled H H) → (∀ p ∈ H, pOk p) → HullR H (H, 0) ∧ Ev (fun k => geom_Hull.f k H) (H, 0) := by
      intro H hlen hH hv
      obtain ⟨R', hR', e', _⟩ := hulls_ev H (by omega)
      have : R' = (H, 0) := by
        cases hR' with
        | full h => omega
        | range _ h => exact absurd hv h
        | none h => rw [h]
        | ok _ _ hh =>
          rcases hH with rfl | hH
          · have l0 := hh.toWalk.len; have l1 := hh.ne; simp only [List.length_nil] at l0; omega
          · rw [hH.uniq hh]
      exact ⟨this ▸ hR', this ▸ e'⟩
    cases hR with
    | full h => exact ev_neg (by decide) (ev_pos (by simp) (Ev.bind awake_ev (ev_now _)))
    | range h hv => exact ev_neg (by decide) (ev_pos (by simp) (Ev.bind awake_ev (ev_now _)))
    | none h e =>
      subst h
      obtain ⟨hR2, e2⟩ := again (H := []) (by simp) (Or.inl rfl) (by simp)
      refine ev_pos rfl (Ev.bind e2 (Ev.bind (inside_ev (⟨a, b⟩ : S23) hR2 (by simp)) (Ev.bind (inside_ev (⟨a, b⟩ : S23) hR2 (by simp)) ?_)))
      refine ev_pos rfl (Ev.bind (same_ev (by simp)) (ev_pos rfl (ev_pos rfl (ev_neg (by simp) (ev_neg (by simp) (ev_neg (by simp) ?_))))))
      refine out _ ?_
      refine ev_step (fun k => by simp only [dancestudiolaw03_GeomCorners.l0] <;> exact rfl) (ev_neg (by simp) ?_)
      exact ev_step (fun k => by simp only [dancestudiolaw03_GeomCorners.l2] <;> exact rfl) (ev_neg (by simp) (Ev.bind awake_ev (ev_now _)))
    | ok hl hv hh e =>
      have hlen := hh.toWalk.len
      have n0 := hh.ne
      obtain ⟨hR2, e2⟩ := again (by omega) (Or.inr hh.self) (fun p hp => hv p (hh.sub p hp))
      have hR1 := HullR.ok hl hv hh e
      refine ev_pos rfl ?_
      dsimp only
      refine (Ev.bind e2 (Ev.bind (inside_ev (⟨a, b⟩ : S23) hR1 (by omega)) (Ev.bind (inside_ev (⟨a, b⟩ : S23) hR2 (by omega)) ?_)))
      refine ev_pos rfl ?_
      dsimp only
      refine (Ev.bind (same_ev (by omega)) (ev_pos rfl (ev_pos rfl (ev_neg (by simp) (ev_neg (by omega) (ev_pos (by omega) ?_))))))
      rw [show ((_ : Int) == 0) = false from beq_eq_false_iff_ne.2 (by omega)]
      exact out _ (firstl_ev hh hl hv hR1 l.length 0 (by omega))
end Go.Proofs.Ytmilejcbkpkplaa.PAll
/- What the rows of laws over slices of anything take: the cells that were read hold values of a kind. -/
namespace Go.Proofs.Ytmilejcbkpkplaa.OpenWords
open Go Go.RowKit Go.ChangeShapes Go.WideShapes Go.Proofs.YtmilejcbkpkplaaW.PrintWords Go.Proofs.YtmilejcbkpkplaaW.PrintLast

section
variable {H : Type} {enc : TypeId × Value → H} {P : Program} {W : World} {base : Nat} {sp : Nat → Bool} {held : Bool}
/-- What is read at the type t is of the kind d, and G holds of it. -/
def Opens {α : Type} (enc : TypeId × Value → H) (P : Program) (W : World) (base : Nat) (sp : Nat → Bool) (held : Bool) (d : Kd α) (t : TypeId) (G : α → Prop) : Prop :=
  P.cellsOf t = d.sz ∧ ∀ fuel cs x, DataW.trod enc P W base sp held fuel t cs = some x → ∃ p, d.K W p cs ∧ G p
theorem Opens.weaken {α : Type} {d : Kd α} {t : TypeId} {G G' : α → Prop} (h : Opens enc P W base sp held d t G) (hg : ∀ p, G p → G' p) : Opens enc P W base sp held d t G' :=
  ⟨h.1, fun fuel cs x hx => by obtain ⟨p, h1, h2⟩ := h.2 fuel cs x hx; exact ⟨p, h1, hg p h2⟩⟩
theorem Opens.int {t : TypeId} {k : IntKind} (ht : P.underlying t = some (.int k)) (hc : P.cellsOf t = 1) : Opens enc P W base sp held (Kd.int k) t (fun z => (Lit.int k z).wf = true) :=
  ⟨hc, fun fuel cs x hx => by obtain ⟨n, rfl, _, hw⟩ := DataW.trod_int ht hx; exact ⟨n, rfl, hw⟩⟩
/-- Cells in line, read at once. -/
theorem cells_get {w : World} {b : Nat} {a : Addr} {n : Nat} {cs : List Value} (h : w.cells? b a n = some cs) : cs.length = n ∧ ∀ i u, cs[i]? = some u → w.cell? (a.add i) = some u := by
  unfold World.cells? at h
  split at h
  · have hl := mapM_some_length h
    simp only [List.length_range] at hl
    refine ⟨hl, fun i u hu => ?_⟩
    have hi : i < n := by
      have := (List.getElem?_eq_some_iff.1 hu).1
      omega
    have := mapM_some_get h i i (by simp [hi])
    rw [this, hu]
  · cases h
theorem open_elems {α : Type} {d : Kd α} {e : TypeId} {G : α → Prop} (h : Opens enc P W base sp held d e G) {a : Addr} {n len : Nat} {elems : List (DataW H × List MemPlace)}
    (hlen : elems.length = len) (hel : ∀ i, i < len → (W.cells? base (a.add (i * P.cellsOf e)) (P.cellsOf e)).bind (DataW.trod enc P W base sp held n e) = elems[i]?) (hm : len ≤ 9223372036854775807) :
    ∃ l : List α, l.length = len ∧ d.C W (some a) len l ∧ ∀ p ∈ l, G p := by
  have each : ∀ i, i < len → ∃ p : α, G p ∧ ∃ c, c.length = d.sz ∧ d.K W p c ∧ ∀ j u, c[j]? = some u → W.cell? (a.add (i * d.sz + j)) = some u := by
    intro i hi
    have hb := hel i hi
    rw [List.getElem?_eq_getElem (by omega), Option.bind_eq_some_iff] at hb
    obtain ⟨cs, hcs, ht⟩ := hb
    obtain ⟨p, hk, hg⟩ := h.2 _ _ _ ht
    refine ⟨p, hg, cs, d.K_len hk, hk, fun j u hu => ?_⟩
    have := (cells_get hcs).2 j u hu
    rw [Addr.add_add, h.1] at this
    exact this
  have build : ∀ m, m ≤ len → ∃ l : List α, l.length = m ∧ (∀ p ∈ l, G p) ∧ ∀ i p, l[i]? = some p → ∃ c, c.length = d.sz ∧ d.K W p c ∧ ∀ j u, c[j]? = some u → W.cell? (a.add (i * d.sz + j)) = some u := by
    intro m
    induction m with
    | zero => intro _; exact ⟨[], rfl, by simp, by simp⟩
    | succ m ih =>
      intro hm
      obtain ⟨l, hl, hg, hc⟩ := ih (by omega)
      obtain ⟨p, hp, hcp⟩ := each m (by omega)
      refine ⟨l ++ [p], by simp [hl], fun q hq => ?_, fun i q hq => ?_⟩
      · rcases List.mem_append.1 hq with hq | hq
        · exact hg q hq
        · rw [List.mem_singleton.1 hq]; exact hp
      · by_cases hi : i < l.length
        · rw [List.getElem?_append_left hi] at hq; exact hc i q hq
        · rw [List.getElem?_append_right (by omega)] at hq
          have hz : i - l.length = 0 := by
            have := (List.getElem?_eq_some_iff.1 hq).1
            simp at this; omega
          rw [hz] at hq
          simp only [List.getElem?_cons_zero, Option.some.injEq] at hq
          subst hq
          have : i = m := by omega
          subst this
          exact hcp
  obtain ⟨l, hl, hg, hc⟩ := build len (Nat.le_refl _)
  exact ⟨l, hl, ⟨hl, by omega, fun _ => ⟨a, rfl, hc⟩⟩, hg⟩
theorem C_none {α : Type} {d : Kd α} {W : World} : d.C W none 0 ([] : List α) := ⟨rfl, by omega, fun h => absurd h (by omega)⟩
theorem Opens.slice {α : Type} {d : Kd α} {e t : TypeId} {G : α → Prop} (ht : P.underlying t = some (.slice e)) (hc : P.cellsOf t = 1) (h : Opens enc P W base sp held d e G) :
    Opens enc P W base sp held (Kd.slice e d) t (fun l => l.length ≤ maxLen ∧ ∀ p ∈ l, G p) := by
  refine ⟨hc, fun fuel cs x hx => ?_⟩
  rcases DataW.trod_slice ht hx with ⟨rfl, _⟩ | ⟨a, len, cap, elems, rest, n, _, rfl, _, _, hl, hm, hlen, hel, _, _⟩
  · exact ⟨[], ⟨none, 0, rfl, Nat.le_refl _, C_none⟩, by simp, by simp⟩
  · obtain ⟨l, h1, h2, h3⟩ := open_elems h hlen hel (by unfold maxLen at hm; omega)
    exact ⟨l, ⟨some a, cap, by rw [h1], by omega, by rw [h1]; exact h2⟩, by omega, h3⟩
/-- A slice that came in. -/
theorem open_slice {α : Type} {d : Kd α} {e t : TypeId} {G : α → Prop} {v : Value} {D : DataW H} {pl : List MemPlace} {a : Option Addr} {len cap : Nat} (ht : P.underlying t = some (.slice e)) (h : Opens enc P W base sp held d e G)
    (hv : v = .slice a len cap) (hd : DataW.Trod enc P W base sp held t v D pl) : ∃ l : List α, l.length = len ∧ d.C W a len l ∧ len ≤ cap ∧ l.length ≤ maxLen ∧ ∀ p ∈ l, G p := by
  subst hv
  obtain ⟨fuel, hf⟩ := hd
  rcases DataW.trod_slice ht hf with ⟨hcs, _⟩ | ⟨a', len', cap', elems, rest, n, _, hcs, _, _, hl, hm, hlen, hel, _, _⟩
  · simp [Value.cells] at hcs
    obtain ⟨rfl, rfl, rfl⟩ := hcs
    exact ⟨[], rfl, C_none, Nat.le_refl _, by simp, by simp⟩
  · simp [Value.cells] at hcs
    obtain ⟨rfl, rfl, rfl⟩ := hcs
    obtain ⟨l, h1, h2, h3⟩ := open_elems h hlen hel (by unfold maxLen at hm; omega)
    exact ⟨l, h1, h2, hl, by omega, h3⟩
/-- Fields in line. -/
def OpensAt {α : Type} (enc : TypeId × Value → H) (P : Program) (W : World) (base : Nat) (sp : Nat → Bool) (held : Bool) (d : Kd α) (fs : List Field) (off : Nat) (G : α → Prop) : Prop :=
  ∀ n (cs : List Value) (xs : List (DataW H × List MemPlace)), (∀ (i : Nat) (f : Field), fs[i]? = some f → DataW.trod enc P W base sp held n f.type ((cs.drop f.offset).take (P.cellsOf f.type)) = xs[i]?) → xs.length = fs.length → cs.length = off + d.sz → ∃ p, d.K W p (cs.drop off) ∧ G p
theorem OpensAt.one {α : Type} {d : Kd α} {f : Field} {off : Nat} {G : α → Prop} (ho : f.offset = off) (h : Opens enc P W base sp held d f.type G) : OpensAt enc P W base sp held d [f] off G := by
  intro n cs xs hx hl hc
  have := hx 0 f rfl
  rw [List.getElem?_eq_getElem (by simp [hl])] at this
  obtain ⟨p, h1, h2⟩ := h.2 _ _ _ this
  rw [ho, List.take_of_length_le (by rw [List.length_drop, h.1]; omega)] at h1
  exact ⟨p, h1, h2⟩
theorem OpensAt.cons {α β : Type} {a : Kd α} {b : Kd β} {f : Field} {fs : List Field} {off : Nat} {G : α → Prop} {G' : β → Prop} (ho : f.offset = off) (h : Opens enc P W base sp held a f.type G) (hr : OpensAt enc P W base sp held b fs (off + a.sz) G') :
    OpensAt enc P W base sp held (Kd.pair a b) (f :: fs) off (fun p => G p.1 ∧ G' p.2) := by
  intro n cs xs hx hl hc
  have hsz : (Kd.pair a b).sz = a.sz + b.sz := rfl
  have h0 := hx 0 f rfl
  rw [List.getElem?_eq_getElem (by simp [hl])] at h0
  obtain ⟨p, h1, h2⟩ := h.2 _ _ _ h0
  obtain ⟨q, h3, h4⟩ := hr n cs (xs.drop 1) (fun i g hg => by
    have := hx (i + 1) g (by simpa using hg)
    rw [this, List.getElem?_drop, Nat.add_comm]) (by simp [hl]) (by omega)
  refine ⟨(p, q), ⟨_, _, ?_, h1, h3⟩, h2, h4⟩
  rw [ho, h.1, ← List.drop_drop, List.take_append_drop]
theorem Opens.struct {α β : Type} {d : Kd α} {g : β → α} {t : TypeId} {fs : Array Field} {G : α → Prop} (ht : P.underlying t = some (.struct fs)) (hc : P.cellsOf t = d.sz) (hs : ∀ y, ∃ x, g x = y) (h : OpensAt enc P W base sp held d fs.toList 0 G) :
    Opens enc P W base sp held (Kd.iso d g) t (fun x => G (g x)) := by
  refine ⟨hc, fun fuel cs x hx => ?_⟩
  obtain ⟨xs, n, _, _, hl, hxs, hf⟩ := DataW.trod_struct ht hx
  obtain ⟨p, h1, h2⟩ := h n cs xs (fun i f hi => hf i f (by simpa using hi)) (by simpa using hxs) (by omega)
  obtain ⟨y, rfl⟩ := hs p
  exact ⟨y, by rw [List.drop_zero] at h1; exact h1, h2⟩
end
end Go.Proofs.Ytmilejcbkpkplaa.OpenWords
/- What is read at the type of a point. -/
namespace Go.Proofs.Ytmilejcbkpkplaa.PAll
open Go Go.RowKit Go.Proofs.YtmilejcbkpkplaaW.PrintWords Go.Proofs.YtmilejcbkpkplaaW.PrintLast Go.Proofs.YtmilejcbkpkplaaW.PrintMore Go.Proofs.Ytmilejcbkpkplaa.OpenWords
theorem opens23 {H : Type} {enc : TypeId × Value → H} {W : World} {base : Nat} {sp : Nat → Bool} {held : Bool} : Opens enc Try.prog W base sp held k23 23 (fun _ => True) :=
  Opens.weaken (Opens.struct Try.underlying23 (by kernel_rfl) (fun y => ⟨⟨y.1, y.2⟩, rfl⟩)
    (OpensAt.cons rfl (Opens.int Try.underlying3 (by kernel_rfl)) (OpensAt.one rfl (Opens.int Try.underlying3 (by kernel_rfl))))) (fun _ _ => trivial)
end Go.Proofs.Ytmilejcbkpkplaa.PAll
/- What the rows of laws over structs and arrays of whole numbers take: the argument's cells are whole numbers. -/
namespace Go.Proofs.Ytmilejcbkpkplaa.AggWords
open Go Go.RowKit Go.ChangeShapes Go.WideShapes

def cellsOfInts : List IntKind → List Int → List Value
  | k :: ks, z :: zs => .int k z :: cellsOfInts ks zs
  | _, _ => []
theorem cell_int {P : Program} {W : World} {base : Nat} {t : TypeId} {k : IntKind} {v : Value} (ht : P.underlying t = some (.int k)) (h : Cell.okWide P W .any base t v) : ∃ z, v = .int k z ∧ (Lit.int k z).wf = true := by
  simp only [ht, Cell.okWide] at h
  cases v <;> simp_all [Cell.ok, Lit.wf, IntKind.has]
theorem row_ints {P : Program} {W : World} {base : Nat} : ∀ (ts : List TypeId) (ks : List IntKind) (cs : List Value), cs.length = ts.length → ts.map P.underlying = ks.map (fun k => some (.int k)) →
    (∀ (i : Nat) v, cs[i]? = some v → ∃ u, ts[i]? = some u ∧ Cell.okWide P W .any base u v) → ∃ zs, zs.length = ks.length ∧ cs = cellsOfInts ks zs ∧ ∀ (i : Nat) k z, ks[i]? = some k → zs[i]? = some z → (Lit.int k z).wf = true := by
  intro ts
  induction ts with
  | nil =>
    intro ks cs hl hk _
    cases ks with
    | nil => exact ⟨[], rfl, List.eq_nil_of_length_eq_zero hl, fun i k z h => by simp at h⟩
    | cons k ks => simp at hk
  | cons t ts ih =>
    intro ks cs hl hk h
    cases ks with
    | nil => simp at hk
    | cons k ks =>
      cases cs with
      | nil => simp at hl
      | cons v cs =>
        simp only [List.map_cons, List.cons.injEq] at hk
        obtain ⟨u, hu, hv⟩ := h 0 v rfl
        simp only [List.getElem?_cons_zero, Option.some.injEq] at hu
        subst hu
        obtain ⟨z, rfl, hw⟩ := cell_int hk.1 hv
        obtain ⟨zs, hz, e, hws⟩ := ih ks cs (by simpa using hl) hk.2 (fun i v hi => h (i + 1) v (by simpa using hi))
        refine ⟨z :: zs, by simp [hz], by rw [e]; rfl, fun i k' z' h1 h2 => ?_⟩
        cases i with
        | zero => simp only [List.getElem?_cons_zero, Option.some.injEq] at h1 h2; subst h1 h2; exact hw
        | succ i => exact hws i k' z' (by simpa using h1) (by simpa using h2)
theorem open_cells {P : Program} {W : World} {base : Nat} {t : TypeId} {v : Value} {ts : List TypeId} {ks : List IntKind} (hu : (∃ fs, P.underlying t = some (.struct fs)) ∨ ∃ e n, P.underlying t = some (.array e n)) (ht : P.cellTypes P.depth t = some ts) (hC : P.cellsOf t = ts.length)
    (hk : ts.map P.underlying = ks.map (fun k => some (.int k))) (h : Value.okWide P W .any base t v) : ∃ zs, zs.length = ks.length ∧ v = .agg (cellsOfInts ks zs).toArray ∧ ∀ (i : Nat) k z, ks[i]? = some k → zs[i]? = some z → (Lit.int k z).wf = true := by
  have h' : ∃ cs, v = .agg cs ∧ cs.size = P.cellsOf t ∧ Row.okWide P W .any base t cs := by
    rcases hu with ⟨fs, hu⟩ | ⟨e, n, hu⟩ <;> (simp only [Value.okWide, hu] at h; exact h)
  obtain ⟨cs, rfl, hsz, ts', ht', _, hc⟩ := h'
  rw [ht] at ht'
  obtain rfl := Option.some.inj ht'
  obtain ⟨zs, hz, e, hw⟩ := row_ints ts ks cs.toList (by rw [Array.length_toList, hsz, hC]) hk (fun i v hi => by
    rw [Array.getElem?_toList] at hi
    obtain ⟨u, h1, h2⟩ := hc i v hi
    have : i < cs.size := by
      apply Classical.byContradiction
      intro hno
      rw [Array.getElem?_eq_none (by omega)] at hi
      cases hi
    rw [Nat.mod_eq_of_lt (by omega)] at h1
    exact ⟨u, h1, h2⟩)
  exact ⟨zs, hz, by rw [← e], hw⟩
theorem list_cons {n : Nat} {zs : List Int} (h : zs.length = n + 1) : ∃ a l, zs = a :: l ∧ l.length = n := by
  cases zs with
  | nil => simp at h
  | cons a l => exact ⟨a, l, rfl, by simpa using h⟩
end Go.Proofs.Ytmilejcbkpkplaa.AggWords
