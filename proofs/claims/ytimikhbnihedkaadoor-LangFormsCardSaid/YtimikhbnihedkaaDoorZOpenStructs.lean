/- What the rows of laws over structs take: fields in line. -/
import Derived.Test.YtimikhbnihedkaaDoorZKw1
import Derived.Test.YtimikhbnihedkaaDoorZOpenWords
namespace Go.Proofs.YtimikhbnihedkaaDoor.OpenWords
open Go Go.RowKit Go.ChangeShapes Go.WideShapes Go.Proofs.YtimikhbnihedkaaDoorW.PrintWords Go.Proofs.YtimikhbnihedkaaDoorW.PrintLast

section
variable {H : Type} {enc : TypeId × Value → H} {P : Program} {W : World} {base : Nat} {sp : Nat → Bool} {held : Bool}
/-- Fields in line. -/
def OpensAt {α : Type} (enc : TypeId × Value → H) (P : Program) (W : World) (base : Nat) (sp : Nat → Bool) (held : Bool) (d : Kd α) (fs : List Field) (off : Nat) (G : α → Prop) : Prop :=
  ∀ n (cs : List Value) (xs : List (DataW H × List MemPlace)), (∀ (i : Nat) (f : Field), fs[i]? = some f → DataW.trod enc P W base sp held n f.type ((cs.drop f.offset).take (P.cellsOf f.type)) = xs[i]?) → xs.length = fs.length → cs.length = off + d.sz → ∃ p, d.K W p (cs.drop off) ∧ G p
theorem OpensAt.one {α : Type} {d : Kd α} {f : Field} {off : Nat} {G : α → Prop} (ho : f.offset = off) (h : Opens enc P W base sp held d f.type G) : OpensAt enc P W base sp held d [f] off G := by
  intro n cs xs hx hl hc
  have := hx 0 f rfl
  rw [List.getElem?_eq_getElem (by simp [hl])] at this
  obtain ⟨p, h1, h2⟩ := h.2 _ _ _ this
  rw [ho, List.take_of_length_le (by rw [List.length_drop, h.1]; omega)] at h1
  exact ⟨p, h1, h2⟩
theorem OpensAt.cons {α β : Type} {a : Kd α} {b : Kd β} {f : Field} {fs : List Field} {off : Nat} {G : α → Prop} {G' : β → Prop} (ho : f.offset = off) (h : Opens enc P W base sp held a f.type G) (hr : OpensAt enc P W base sp held b fs (off + a.sz) G') :
    OpensAt enc P W base sp held (Kd.pair a b) (f :: fs) off (fun p => G p.1 ∧ G' p.2) := by
  intro n cs xs hx hl hc
  have hsz : (Kd.pair a b).sz = a.sz + b.sz := rfl
  have h0 := hx 0 f rfl
  rw [List.getElem?_eq_getElem (by simp [hl])] at h0
  obtain ⟨p, h1, h2⟩ := h.2 _ _ _ h0
  obtain ⟨q, h3, h4⟩ := hr n cs (xs.drop 1) (fun i g hg => by
    have := hx (i + 1) g (by simpa using hg)
    rw [this, List.getElem?_drop, Nat.add_comm]) (by simp [hl]) (by omega)
  refine ⟨(p, q), ⟨_, _, ?_, h1, h3⟩, h2, h4⟩
  rw [ho, h.1, ← List.drop_drop, List.take_append_drop]
theorem Opens.struct {α β : Type} {d : Kd α} {g : β → α} {t : TypeId} {fs : Array Field} {G : α → Prop} (ht : P.underlying t = some (.struct fs)) (hc : P.cellsOf t = d.sz) (hs : ∀ y, ∃ x, g x = y) (h : OpensAt enc P W base sp held d fs.toList 0 G) :
    Opens enc P W base sp held (Kd.iso d g) t (fun x => G (g x)) := by
  refine ⟨hc, fun fuel cs x hx => ?_⟩
  obtain ⟨xs, n, _, _, hl, hxs, hf⟩ := DataW.trod_struct ht hx
  obtain ⟨p, h1, h2⟩ := h n cs xs (fun i f hi => hf i f (by simpa using hi)) (by simpa using hxs) (by omega)
  obtain ⟨y, rfl⟩ := hs p
  exact ⟨y, by rw [List.drop_zero] at h1; exact h1, h2⟩
end
end Go.Proofs.YtimikhbnihedkaaDoor.OpenWords
