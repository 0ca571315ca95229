/- What the rows of laws over slices of anything take, where the length of what came in matters: each slice lies in the memory that one slice can have. -/
import Derived.Test.YtimikhbnihedkaaDoorZOpenWords
namespace Go.Proofs.YtimikhbnihedkaaDoor.OpenWords
open Go Go.RowKit Go.ChangeShapes Go.WideShapes Go.Proofs.YtimikhbnihedkaaDoorW.PrintWords Go.Proofs.YtimikhbnihedkaaDoorW.PrintLast
section
variable {H : Type} {enc : TypeId × Value → H} {P : Program} {W : World} {base : Nat} {sp : Nat → Bool} {held : Bool}
/-- No part takes more bytes than memory has. -/
def Fits (P : Program) (t : TypeId) (D : DataW H) : Prop := (D.weights P t).all (fun x => decide (x ≤ reachBytes)) = true
/-- What is read at the type t, if it fits, is of the kind d, and G holds of it. -/
def OpensZ {α : Type} (enc : TypeId × Value → H) (P : Program) (W : World) (base : Nat) (sp : Nat → Bool) (held : Bool) (d : Kd α) (t : TypeId) (G : α → Prop) : Prop :=
  P.cellsOf t = d.sz ∧ ∀ fuel cs x, DataW.trod enc P W base sp held fuel t cs = some x → Fits P t x.1 → ∃ p, d.K W p cs ∧ G p
theorem Opens.sized {α : Type} {d : Kd α} {t : TypeId} {G : α → Prop} (h : Opens enc P W base sp held d t G) : OpensZ enc P W base sp held d t G := ⟨h.1, fun f c x hx _ => h.2 f c x hx⟩
theorem fits_each {e : TypeId} {l : List (DataW H)} (h : (DataW.weightsAll P e l).all (fun x => decide (x ≤ reachBytes)) = true) {D : DataW H} (hD : D ∈ l) : Fits P e D := by
  induction l with
  | nil => cases hD
  | cons a r ih =>
    simp only [DataW.weightsAll, List.all_append, Bool.and_eq_true] at h
    rcases List.mem_cons.1 hD with rfl | hD
    · exact h.1
    · exact ih h.2 hD
theorem open_elemsZ {α : Type} {d : Kd α} {e : TypeId} {G : α → Prop} (h : OpensZ enc P W base sp held d e G) {a : Addr} {n len : Nat} {elems : List (DataW H × List MemPlace)}
    (hlen : elems.length = len) (hel : ∀ i, i < len → (W.cells? base (a.add (i * P.cellsOf e)) (P.cellsOf e)).bind (DataW.trod enc P W base sp held n e) = elems[i]?) (hf : ∀ y ∈ elems, Fits P e y.1) (hm : len ≤ 9223372036854775807) :
    ∃ l : List α, l.length = len ∧ d.C W (some a) len l ∧ ∀ p ∈ l, G p := by
  have each : ∀ i, i < len → ∃ p : α, G p ∧ ∃ c, c.length = d.sz ∧ d.K W p c ∧ ∀ j u, c[j]? = some u → W.cell? (a.add (i * d.sz + j)) = some u := by
    intro i hi
    have hb := hel i hi
    rw [List.getElem?_eq_getElem (by omega), Option.bind_eq_some_iff] at hb
    obtain ⟨cs, hcs, ht⟩ := hb
    obtain ⟨p, hk, hg⟩ := h.2 _ _ _ ht (hf _ (List.getElem_mem _))
    refine ⟨p, hg, cs, d.K_len hk, hk, fun j u hu => ?_⟩
    have := (cells_get hcs).2 j u hu
    rw [Addr.add_add, h.1] at this
    exact this
  have build : ∀ m, m ≤ len → ∃ l : List α, l.length = m ∧ (∀ p ∈ l, G p) ∧ ∀ i p, l[i]? = some p → ∃ c, c.length = d.sz ∧ d.K W p c ∧ ∀ j u, c[j]? = some u → W.cell? (a.add (i * d.sz + j)) = some u := by
    intro m
    induction m with
    | zero => intro _; exact ⟨[], rfl, by simp, by simp⟩
    | succ m ih =>
      intro hm
      obtain ⟨l, hl, hg, hc⟩ := ih (by omega)
      obtain ⟨p, hp, hcp⟩ := each m (by omega)
      refine ⟨l ++ [p], by simp [hl], fun q hq => ?_, fun i q hq => ?_⟩
      · rcases List.mem_append.1 hq with hq | hq
        · exact hg q hq
        · rw [List.mem_singleton.1 hq]; exact hp
      · by_cases hi : i < l.length
        · rw [List.getElem?_append_left hi] at hq; exact hc i q hq
        · rw [List.getElem?_append_right (by omega)] at hq
          have hz : i - l.length = 0 := by
            have := (List.getElem?_eq_some_iff.1 hq).1
            simp at this; omega
          rw [hz] at hq
          simp only [List.getElem?_cons_zero, Option.some.injEq] at hq
          subst hq
          have : i = m := by omega
          subst this
          exact hcp
  obtain ⟨l, hl, hg, hc⟩ := build len (Nat.le_refl _)
  exact ⟨l, hl, ⟨hl, by omega, fun _ => ⟨a, rfl, hc⟩⟩, hg⟩
theorem fits_slice {e t : TypeId} (ht : P.underlying t = some (.slice e)) {xs ys : List (DataW H)} (h : Fits P t (.slice xs ys)) : xs.length * P.bytesOf e ≤ reachBytes ∧ ∀ D ∈ xs, Fits P e D := by
  unfold Fits at h
  simp only [DataW.weights, ht, List.all_cons, List.all_append, Bool.and_eq_true, decide_eq_true_eq] at h
  exact ⟨Nat.le_trans (Nat.mul_le_mul_right _ (Nat.le_add_right _ _)) h.1, fun D hD => fits_each h.2.1 hD⟩
theorem OpensZ.slice {α : Type} {d : Kd α} {e t : TypeId} {G : α → Prop} (ht : P.underlying t = some (.slice e)) (hc : P.cellsOf t = 1) (h : OpensZ enc P W base sp held d e G) :
    OpensZ enc P W base sp held (Kd.slice e d) t (fun l => l.length * P.bytesOf e ≤ reachBytes ∧ ∀ p ∈ l, G p) := by
  refine ⟨hc, fun fuel cs x hx hz => ?_⟩
  rcases DataW.trod_slice ht hx with ⟨rfl, _⟩ | ⟨a, len, cap, elems, rest, n, _, rfl, rfl, _, hl, hm, hlen, hel, _, _⟩
  · exact ⟨[], ⟨none, 0, rfl, Nat.le_refl _, C_none⟩, by simp, by simp⟩
  · obtain ⟨hb, hf⟩ := fits_slice ht hz
    obtain ⟨l, h1, h2, h3⟩ := open_elemsZ h hlen hel (fun y hy => hf _ (List.mem_map.2 ⟨y, hy, rfl⟩)) (by unfold maxLen at hm; omega)
    exact ⟨l, ⟨some a, cap, by rw [h1], by omega, by rw [h1]; exact h2⟩, by rw [List.length_map] at hb; rw [h1, ← hlen]; exact hb, h3⟩
/-- A slice that came in. -/
theorem open_sliceZ {α : Type} {d : Kd α} {e t : TypeId} {G : α → Prop} {v : Value} {D : DataW H} {pl : List MemPlace} {a : Option Addr} {len cap : Nat} (ht : P.underlying t = some (.slice e)) (h : OpensZ enc P W base sp held d e G)
    (hv : v = .slice a len cap) (hd : DataW.Trod enc P W base sp held t v D pl) (hz : Fits P t D) : ∃ l : List α, l.length = len ∧ d.C W a len l ∧ len ≤ cap ∧ l.length * P.bytesOf e ≤ reachBytes ∧ ∀ p ∈ l, G p := by
  subst hv
  obtain ⟨fuel, hf⟩ := hd
  rcases DataW.trod_slice ht hf with ⟨hcs, _⟩ | ⟨a', len', cap', elems, rest, n, _, hcs, hD, _, hl, hm, hlen, hel, _, _⟩
  · simp [Value.cells] at hcs
    obtain ⟨rfl, rfl, rfl⟩ := hcs
    exact ⟨[], rfl, C_none, Nat.le_refl _, by simp, by simp⟩
  · simp [Value.cells] at hcs
    obtain ⟨rfl, rfl, rfl⟩ := hcs
    have hD := (Prod.mk.inj hD).1
    subst hD
    obtain ⟨hb, hf⟩ := fits_slice ht hz
    obtain ⟨l, h1, h2, h3⟩ := open_elemsZ h hlen hel (fun y hy => hf _ (List.mem_map.2 ⟨y, hy, rfl⟩)) (by unfold maxLen at hm; omega)
    exact ⟨l, h1, h2, hl, by rw [List.length_map] at hb; rw [h1, ← hlen]; exact hb, h3⟩
end
end Go.Proofs.YtimikhbnihedkaaDoor.OpenWords
