/- What the rows of laws over slices of anything take: the cells that were read hold values of a kind. -/
import Derived.Test.YtimikhbnihedkaaDoorZKw1
import Derived.SizedLaws
import Derived.ChangeSlices
import Derived.DataElems
namespace Go.Proofs.YtimikhbnihedkaaDoor.OpenWords
open Go Go.RowKit Go.ChangeShapes Go.WideShapes Go.Proofs.YtimikhbnihedkaaDoorW.PrintWords Go.Proofs.YtimikhbnihedkaaDoorW.PrintLast

section
variable {H : Type} {enc : TypeId × Value → H} {P : Program} {W : World} {base : Nat} {sp : Nat → Bool} {held : Bool}
/-- What is read at the type t is of the kind d, and G holds of it. -/
def Opens {α : Type} (enc : TypeId × Value → H) (P : Program) (W : World) (base : Nat) (sp : Nat → Bool) (held : Bool) (d : Kd α) (t : TypeId) (G : α → Prop) : Prop :=
  P.cellsOf t = d.sz ∧ ∀ fuel cs x, DataW.trod enc P W base sp held fuel t cs = some x → ∃ p, d.K W p cs ∧ G p
theorem Opens.weaken {α : Type} {d : Kd α} {t : TypeId} {G G' : α → Prop} (h : Opens enc P W base sp held d t G) (hg : ∀ p, G p → G' p) : Opens enc P W base sp held d t G' :=
  ⟨h.1, fun fuel cs x hx => by obtain ⟨p, h1, h2⟩ := h.2 fuel cs x hx; exact ⟨p, h1, hg p h2⟩⟩
theorem Opens.int {t : TypeId} {k : IntKind} (ht : P.underlying t = some (.int k)) (hc : P.cellsOf t = 1) : Opens enc P W base sp held (Kd.int k) t (fun z => (Lit.int k z).wf = true) :=
  ⟨hc, fun fuel cs x hx => by obtain ⟨n, rfl, _, hw⟩ := DataW.trod_int ht hx; exact ⟨n, rfl, hw⟩⟩
/-- Cells in line, read at once. -/
theorem cells_get {w : World} {b : Nat} {a : Addr} {n : Nat} {cs : List Value} (h : w.cells? b a n = some cs) : cs.length = n ∧ ∀ i u, cs[i]? = some u → w.cell? (a.add i) = some u := by
  unfold World.cells? at h
  split at h
  · have hl := mapM_some_length h
    simp only [List.length_range] at hl
    refine ⟨hl, fun i u hu => ?_⟩
    have hi : i < n := by
      have := (List.getElem?_eq_some_iff.1 hu).1
      omega
    have := mapM_some_get h i i (by simp [hi])
    rw [this, hu]
  · cases h
theorem open_elems {α : Type} {d : Kd α} {e : TypeId} {G : α → Prop} (h : Opens enc P W base sp held d e G) {a : Addr} {n len : Nat} {elems : List (DataW H × List MemPlace)}
    (hlen : elems.length = len) (hel : ∀ i, i < len → (W.cells? base (a.add (i * P.cellsOf e)) (P.cellsOf e)).bind (DataW.trod enc P W base sp held n e) = elems[i]?) (hm : len ≤ 9223372036854775807) :
    ∃ l : List α, l.length = len ∧ d.C W (some a) len l ∧ ∀ p ∈ l, G p := by
  have each : ∀ i, i < len → ∃ p : α, G p ∧ ∃ c, c.length = d.sz ∧ d.K W p c ∧ ∀ j u, c[j]? = some u → W.cell? (a.add (i * d.sz + j)) = some u := by
    intro i hi
    have hb := hel i hi
    rw [List.getElem?_eq_getElem (by omega), Option.bind_eq_some_iff] at hb
    obtain ⟨cs, hcs, ht⟩ := hb
    obtain ⟨p, hk, hg⟩ := h.2 _ _ _ ht
    refine ⟨p, hg, cs, d.K_len hk, hk, fun j u hu => ?_⟩
    have := (cells_get hcs).2 j u hu
    rw [Addr.add_add, h.1] at this
    exact this
  have build : ∀ m, m ≤ len → ∃ l : List α, l.length = m ∧ (∀ p ∈ l, G p) ∧ ∀ i p, l[i]? = some p → ∃ c, c.length = d.sz ∧ d.K W p c ∧ ∀ j u, c[j]? = some u → W.cell? (a.add (i * d.sz + j)) = some u := by
    intro m
    induction m with
    | zero => intro _; exact ⟨[], rfl, by simp, by simp⟩
    | succ m ih =>
      intro hm
      obtain ⟨l, hl, hg, hc⟩ := ih (by omega)
      obtain ⟨p, hp, hcp⟩ := each m (by omega)
      refine ⟨l ++ [p], by simp [hl], fun q hq => ?_, fun i q hq => ?_⟩
      · rcases List.mem_append.1 hq with hq | hq
        · exact hg q hq
        · rw [List.mem_singleton.1 hq]; exact hp
      · by_cases hi : i < l.length
        · rw [List.getElem?_append_left hi] at hq; exact hc i q hq
        · rw [List.getElem?_append_right (by omega)] at hq
          have hz : i - l.length = 0 := by
            have := (List.getElem?_eq_some_iff.1 hq).1
            simp at this; omega
          rw [hz] at hq
          simp only [List.getElem?_cons_zero, Option.some.injEq] at hq
          subst hq
          have : i = m := by omega
          subst this
          exact hcp
  obtain ⟨l, hl, hg, hc⟩ := build len (Nat.le_refl _)
  exact ⟨l, hl, ⟨hl, by omega, fun _ => ⟨a, rfl, hc⟩⟩, hg⟩
theorem C_none {α : Type} {d : Kd α} {W : World} : d.C W none 0 ([] : List α) := ⟨rfl, by omega, fun h => absurd h (by omega)⟩
theorem Opens.slice {α : Type} {d : Kd α} {e t : TypeId} {G : α → Prop} (ht : P.underlying t = some (.slice e)) (hc : P.cellsOf t = 1) (h : Opens enc P W base sp held d e G) :
    Opens enc P W base sp held (Kd.slice e d) t (fun l => l.length ≤ maxLen ∧ ∀ p ∈ l, G p) := by
  refine ⟨hc, fun fuel cs x hx => ?_⟩
  rcases DataW.trod_slice ht hx with ⟨rfl, _⟩ | ⟨a, len, cap, elems, rest, n, _, rfl, _, _, hl, hm, hlen, hel, _, _⟩
  · exact ⟨[], ⟨none, 0, rfl, Nat.le_refl _, C_none⟩, by simp, by simp⟩
  · obtain ⟨l, h1, h2, h3⟩ := open_elems h hlen hel (by unfold maxLen at hm; omega)
    exact ⟨l, ⟨some a, cap, by rw [h1], by omega, by rw [h1]; exact h2⟩, by omega, h3⟩
/-- A slice that came in. -/
theorem open_slice {α : Type} {d : Kd α} {e t : TypeId} {G : α → Prop} {v : Value} {D : DataW H} {pl : List MemPlace} {a : Option Addr} {len cap : Nat} (ht : P.underlying t = some (.slice e)) (h : Opens enc P W base sp held d e G)
    (hv : v = .slice a len cap) (hd : DataW.Trod enc P W base sp held t v D pl) : ∃ l : List α, l.length = len ∧ d.C W a len l ∧ len ≤ cap ∧ l.length ≤ maxLen ∧ ∀ p ∈ l, G p := by
  subst hv
  obtain ⟨fuel, hf⟩ := hd
  rcases DataW.trod_slice ht hf with ⟨hcs, _⟩ | ⟨a', len', cap', elems, rest, n, _, hcs, _, _, hl, hm, hlen, hel, _, _⟩
  · simp [Value.cells] at hcs
    obtain ⟨rfl, rfl, rfl⟩ := hcs
    exact ⟨[], rfl, C_none, Nat.le_refl _, by simp, by simp⟩
  · simp [Value.cells] at hcs
    obtain ⟨rfl, rfl, rfl⟩ := hcs
    obtain ⟨l, h1, h2, h3⟩ := open_elems h hlen hel (by unfold maxLen at hm; omega)
    exact ⟨l, h1, h2, hl, by omega, h3⟩
end
end Go.Proofs.YtimikhbnihedkaaDoor.OpenWords
