/- Texts of the proof, laid end to end. -/
import Derived.Test.YtjppjppapdflmaaKw1
import Derived.SizedLaws
import Derived.ChangeSlices
import Derived.DataElems
import Derived.Test.YtjppjppapdflmaaRows
import Derived.Test.YtjppjppapdflmaaLays
import Derived.Test.YtjppjppapdflmaaPAllx0
import Derived.Deep.DeepHandedRow
import Derived.LaidLaws
import Derived.Lib.SmallJoins
/- What the rows of laws over slices of anything take: the cells that were read hold values of a kind. -/
namespace Go.Proofs.Ytjppjppapdflmaa.OpenWords
open Go Go.RowKit Go.ChangeShapes Go.WideShapes Go.Proofs.YtjppjppapdflmaaW.PrintWords Go.Proofs.YtjppjppapdflmaaW.PrintLast

section
variable {H : Type} {enc : TypeId × Value → H} {P : Program} {W : World} {base : Nat} {sp : Nat → Bool} {held : Bool}
/-- What is read at the type t is of the kind d, and G holds of it. -/
def Opens {α : Type} (enc : TypeId × Value → H) (P : Program) (W : World) (base : Nat) (sp : Nat → Bool) (held : Bool) (d : Kd α) (t : TypeId) (G : α → Prop) : Prop :=
  P.cellsOf t = d.sz ∧ ∀ fuel cs x, DataW.trod enc P W base sp held fuel t cs = some x → ∃ p, d.K W p cs ∧ G p
theorem Opens.weaken {α : Type} {d : Kd α} {t : TypeId} {G G' : α → Prop} (h : Opens enc P W base sp held d t G) (hg : ∀ p, G p → G' p) : Opens enc P W base sp held d t G' :=
  ⟨h.1, fun fuel cs x hx => by obtain ⟨p, h1, h2⟩ := h.2 fuel cs x hx; exact ⟨p, h1, hg p h2⟩⟩
theorem Opens.int {t : TypeId} {k : IntKind} (ht : P.underlying t = some (.int k)) (hc : P.cellsOf t = 1) : Opens enc P W base sp held (Kd.int k) t (fun z => (Lit.int k z).wf = true) :=
  ⟨hc, fun fuel cs x hx => by obtain ⟨n, rfl, _, hw⟩ := DataW.trod_int ht hx; exact ⟨n, rfl, hw⟩⟩
/-- Cells in line, read at once. -/
theorem cells_get {w : World} {b : Nat} {a : Addr} {n : Nat} {cs : List Value} (h : w.cells? b a n = some cs) : cs.length = n ∧ ∀ i u, cs[i]? = some u → w.cell? (a.add i) = some u := by
  unfold World.cells? at h
  split at h
  · have hl := mapM_some_length h
    simp only [List.length_range] at hl
    refine ⟨hl, fun i u hu => ?_⟩
    have hi : i < n := by
      have := (List.getElem?_eq_some_iff.1 hu).1
      omega
    have := mapM_some_get h i i (by simp [hi])
    rw [this, hu]
  · cases h
theorem open_elems {α : Type} {d : Kd α} {e : TypeId} {G : α → Prop} (h : Opens enc P W base sp held d e G) {a : Addr} {n len : Nat} {elems : List (DataW H × List MemPlace)}
    (hlen : elems.length = len) (hel : ∀ i, i < len → (W.cells? base (a.add (i * P.cellsOf e)) (P.cellsOf e)).bind (DataW.trod enc P W base sp held n e) = elems[i]?) (hm : len ≤ 9223372036854775807) :
    ∃ l : List α, l.length = len ∧ d.C W (some a) len l ∧ ∀ p ∈ l, G p := by
  have each : ∀ i, i < len → ∃ p : α, G p ∧ ∃ c, c.length = d.sz ∧ d.K W p c ∧ ∀ j u, c[j]? = some u → W.cell? (a.add (i * d.sz + j)) = some u := by
    intro i hi
    have hb := hel i hi
    rw [List.getElem?_eq_getElem (by omega), Option.bind_eq_some_iff] at hb
    obtain ⟨cs, hcs, ht⟩ := hb
    obtain ⟨p, hk, hg⟩ := h.2 _ _ _ ht
    refine ⟨p, hg, cs, d.K_len hk, hk, fun j u hu => ?_⟩
    have := (cells_get hcs).2 j u hu
    rw [Addr.add_add, h.1] at this
    exact this
  have build : ∀ m, m ≤ len → ∃ l : List α, l.length = m ∧ (∀ p ∈ l, G p) ∧ ∀ i p, l[i]? = some p → ∃ c, c.length = d.sz ∧ d.K W p c ∧ ∀ j u, c[j]? = some u → W.cell? (a.add (i * d.sz + j)) = some u := by
    intro m
    induction m with
    | zero => intro _; exact ⟨[], rfl, by simp, by simp⟩
    | succ m ih =>
      intro hm
      obtain ⟨l, hl, hg, hc⟩ := ih (by omega)
      obtain ⟨p, hp, hcp⟩ := each m (by omega)
      refine ⟨l ++ [p], by simp [hl], fun q hq => ?_, fun i q hq => ?_⟩
      · rcases List.mem_append.1 hq with hq | hq
        · exact hg q hq
        · rw [List.mem_singleton.1 hq]; exact hp
      · by_cases hi : i < l.length
        · rw [List.getElem?_append_left hi] at hq; exact hc i q hq
        · rw [List.getElem?_append_right (by omega)] at hq
          have hz : i - l.length = 0 := by
            have := (List.getElem?_eq_some_iff.1 hq).1
            simp at this; omega
          rw [hz] at hq
          simp only [List.getElem?_cons_zero, Option.some.injEq] at hq
          subst hq
          have : i = m := by omega
          subst this
          exact hcp
  obtain ⟨l, hl, hg, hc⟩ := build len (Nat.le_refl _)
  exact ⟨l, hl, ⟨hl, by omega, fun _ => ⟨a, rfl, hc⟩⟩, hg⟩
theorem C_none {α : Type} {d : Kd α} {W : World} : d.C W none 0 ([] : List α) := ⟨rfl, by omega, fun h => absurd h (by omega)⟩
theorem Opens.slice {α : Type} {d : Kd α} {e t : TypeId} {G : α → Prop} (ht : P.underlying t = some (.slice e)) (hc : P.cellsOf t = 1) (h : Opens enc P W base sp held d e G) :
    Opens enc P W base sp held (Kd.slice e d) t (fun l => l.length ≤ maxLen ∧ ∀ p ∈ l, G p) := by
  refine ⟨hc, fun fuel cs x hx => ?_⟩
  rcases DataW.trod_slice ht hx with ⟨rfl, _⟩ | ⟨a, len, cap, elems, rest, n, _, rfl, _, _, hl, hm, hlen, hel, _, _⟩
  · exact ⟨[], ⟨none, 0, rfl, Nat.le_refl _, C_none⟩, by simp, by simp⟩
  · obtain ⟨l, h1, h2, h3⟩ := open_elems h hlen hel (by unfold maxLen at hm; omega)
    exact ⟨l, ⟨some a, cap, by rw [h1], by omega, by rw [h1]; exact h2⟩, by omega, h3⟩
/-- A slice that came in. -/
theorem open_slice {α : Type} {d : Kd α} {e t : TypeId} {G : α → Prop} {v : Value} {D : DataW H} {pl : List MemPlace} {a : Option Addr} {len cap : Nat} (ht : P.underlying t = some (.slice e)) (h : Opens enc P W base sp held d e G)
    (hv : v = .slice a len cap) (hd : DataW.Trod enc P W base sp held t v D pl) : ∃ l : List α, l.length = len ∧ d.C W a len l ∧ len ≤ cap ∧ l.length ≤ maxLen ∧ ∀ p ∈ l, G p := by
  subst hv
  obtain ⟨fuel, hf⟩ := hd
  rcases DataW.trod_slice ht hf with ⟨hcs, _⟩ | ⟨a', len', cap', elems, rest, n, _, hcs, _, _, hl, hm, hlen, hel, _, _⟩
  · simp [Value.cells] at hcs
    obtain ⟨rfl, rfl, rfl⟩ := hcs
    exact ⟨[], rfl, C_none, Nat.le_refl _, by simp, by simp⟩
  · simp [Value.cells] at hcs
    obtain ⟨rfl, rfl, rfl⟩ := hcs
    obtain ⟨l, h1, h2, h3⟩ := open_elems h hlen hel (by unfold maxLen at hm; omega)
    exact ⟨l, h1, h2, hl, by omega, h3⟩
end
end Go.Proofs.Ytjppjppapdflmaa.OpenWords
/- What the rows of laws over structs take: fields in line. -/
namespace Go.Proofs.Ytjppjppapdflmaa.OpenWords
open Go Go.RowKit Go.ChangeShapes Go.WideShapes Go.Proofs.YtjppjppapdflmaaW.PrintWords Go.Proofs.YtjppjppapdflmaaW.PrintLast

section
variable {H : Type} {enc : TypeId × Value → H} {P : Program} {W : World} {base : Nat} {sp : Nat → Bool} {held : Bool}
/-- Fields in line. -/
def OpensAt {α : Type} (enc : TypeId × Value → H) (P : Program) (W : World) (base : Nat) (sp : Nat → Bool) (held : Bool) (d : Kd α) (fs : List Field) (off : Nat) (G : α → Prop) : Prop :=
  ∀ n (cs : List Value) (xs : List (DataW H × List MemPlace)), (∀ (i : Nat) (f : Field), fs[i]? = some f → DataW.trod enc P W base sp held n f.type ((cs.drop f.offset).take (P.cellsOf f.type)) = xs[i]?) → xs.length = fs.length → cs.length = off + d.sz → ∃ p, d.K W p (cs.drop off) ∧ G p
theorem OpensAt.one {α : Type} {d : Kd α} {f : Field} {off : Nat} {G : α → Prop} (ho : f.offset = off) (h : Opens enc P W base sp held d f.type G) : OpensAt enc P W base sp held d [f] off G := by
  intro n cs xs hx hl hc
  have := hx 0 f rfl
  rw [List.getElem?_eq_getElem (by simp [hl])] at this
  obtain ⟨p, h1, h2⟩ := h.2 _ _ _ this
  rw [ho, List.take_of_length_le (by rw [List.length_drop, h.1]; omega)] at h1
  exact ⟨p, h1, h2⟩
theorem OpensAt.cons {α β : Type} {a : Kd α} {b : Kd β} {f : Field} {fs : List Field} {off : Nat} {G : α → Prop} {G' : β → Prop} (ho : f.offset = off) (h : Opens enc P W base sp held a f.type G) (hr : OpensAt enc P W base sp held b fs (off + a.sz) G') :
    OpensAt enc P W base sp held (Kd.pair a b) (f :: fs) off (fun p => G p.1 ∧ G' p.2) := by
  intro n cs xs hx hl hc
  have hsz : (Kd.pair a b).sz = a.sz + b.sz := rfl
  have h0 := hx 0 f rfl
  rw [List.getElem?_eq_getElem (by simp [hl])] at h0
  obtain ⟨p, h1, h2⟩ := h.2 _ _ _ h0
  obtain ⟨q, h3, h4⟩ := hr n cs (xs.drop 1) (fun i g hg => by
    have := hx (i + 1) g (by simpa using hg)
    rw [this, List.getElem?_drop, Nat.add_comm]) (by simp [hl]) (by omega)
  refine ⟨(p, q), ⟨_, _, ?_, h1, h3⟩, h2, h4⟩
  rw [ho, h.1, ← List.drop_drop, List.take_append_drop]
theorem Opens.struct {α β : Type} {d : Kd α} {g : β → α} {t : TypeId} {fs : Array Field} {G : α → Prop} (ht : P.underlying t = some (.struct fs)) (hc : P.cellsOf t = d.sz) (hs : ∀ y, ∃ x, g x = y) (h : OpensAt enc P W base sp held d fs.toList 0 G) :
    Opens enc P W base sp held (Kd.iso d g) t (fun x => G (g x)) := by
  refine ⟨hc, fun fuel cs x hx => ?_⟩
  obtain ⟨xs, n, _, _, hl, hxs, hf⟩ := DataW.trod_struct ht hx
  obtain ⟨p, h1, h2⟩ := h n cs xs (fun i f hi => hf i f (by simpa using hi)) (by simpa using hxs) (by omega)
  obtain ⟨y, rfl⟩ := hs p
  exact ⟨y, by rw [List.drop_zero] at h1; exact h1, h2⟩
end
end Go.Proofs.Ytjppjppapdflmaa.OpenWords
/- What is read of a task and of sessions that came in. -/
namespace Go.Proofs.Ytjppjppapdflmaa.door
open Go Go.RowKit Go.ChangeShapes Go.WideShapes Go.Joins Go.Proofs.YtjppjppapdflmaaW.PrintWords Go.Proofs.YtjppjppapdflmaaW.PrintLast Go.Proofs.Ytjppjppapdflmaa.OpenWords Go.Proofs.Ytjppjppapdflmaa.PAll
theorem mx {W : World} (h : W.ShapedOpen Try.prog) : Mx W := Try.laysM144.s1_3 W h
section
variable {H : Type} {enc : TypeId × Value → H} {W : World} {base : Nat} {sp : Nat → Bool} {held : Bool}
theorem wf64 {n : Int} (h : (Lit.int .i64 n).wf = true) : -9223372036854775808 ≤ n ∧ n ≤ 9223372036854775807 := by
  unfold Lit.wf at h
  rw [Bool.and_eq_true, decide_eq_true_eq, decide_eq_true_eq] at h
  have h1 : IntKind.i64.min = -9223372036854775808 := by decide
  have h2 : IntKind.i64.max = 9223372036854775807 := by decide
  rw [h1, h2] at h
  exact h
theorem opensStr : Opens enc Try.prog W base sp held Kd.string 9 (fun _ => True) :=
  ⟨by kernel_rfl, fun fuel cs x hx => by obtain ⟨s, rfl, _, _⟩ := DataW.trod_string Try.underlying9 hx; exact ⟨s, rfl, trivial⟩⟩
theorem opensInt : Opens enc Try.prog W base sp held (Kd.int .i64) 3 (fun z => (Lit.int .i64 z).wf = true) := Opens.int Try.underlying3 (by kernel_rfl)
theorem opens53 : Opens enc Try.prog W base sp held k53 53 (fun s => s.f2.length ≤ maxLen) :=
  Opens.weaken (Opens.struct Try.underlying53 (by kernel_rfl) (fun y => ⟨⟨y.1, y.2.1, y.2.2⟩, rfl⟩)
    (OpensAt.cons rfl opensStr (OpensAt.cons rfl opensInt (OpensAt.one rfl (Opens.slice Try.underlying51 (by kernel_rfl) opensInt))))) (fun p h => h.2.2.1)
theorem opens55 : Opens enc Try.prog W base sp held k55 55 (fun _ => True) :=
  Opens.weaken (Opens.struct Try.underlying55 (by kernel_rfl) (fun y => ⟨⟨y⟩, rfl⟩) (OpensAt.one rfl opensInt)) (fun _ _ => trivial)
theorem opens57 : Opens enc Try.prog W base sp held k57 57 (fun _ => True) :=
  Opens.weaken (Opens.struct Try.underlying57 (by kernel_rfl) (fun y => ⟨⟨y.1, y.2⟩, rfl⟩) (OpensAt.cons rfl opensInt (OpensAt.one rfl opensInt))) (fun _ _ => trivial)
theorem opens59 : Opens enc Try.prog W base sp held k59 59 (fun _ => True) :=
  Opens.weaken (Opens.struct Try.underlying59 (by kernel_rfl) (fun y => ⟨⟨y.1, y.2⟩, rfl⟩) (OpensAt.cons rfl opensInt (OpensAt.one rfl opens57))) (fun _ _ => trivial)
theorem opens48 : Opens enc Try.prog W base sp held k48 48 (fun s => -9223372036854775808 ≤ s.f2 ∧ s.f2 ≤ 9223372036854775807) :=
  Opens.weaken (Opens.struct Try.underlying48 (by kernel_rfl) (fun y => ⟨⟨y.1, y.2.1, y.2.2⟩, rfl⟩) (OpensAt.cons rfl opensInt (OpensAt.cons rfl opensInt (OpensAt.one rfl opensInt)))) (fun p h => wf64 h.2.2)
/-- A task that came in. -/
theorem open_task {b0 : Nat} {v : Value} {d : DataW H} {p : List MemPlace} (hv : Value.okWide Try.prog W .any b0 26 v) (h : DataW.Trod enc Try.prog W base sp held 26 v d p) :
    ∃ (A0 : Option Addr) (c0 : Nat) (l0 : List S53) (A1 : Option Addr) (c1 : Nat) (l1 : List S55) (A2 : Option Addr) (c2 : Nat) (l2 : List S59) (a3 : Int),
      v = .agg #[.slice A0 l0.length c0, .slice A1 l1.length c1, .slice A2 l2.length c2, .int .i64 a3] ∧ (k53.C W A0 l0.length l0 ∧ l0.length ≤ c0) ∧ (k55.C W A1 l1.length l1 ∧ l1.length ≤ c1) ∧ (k59.C W A2 l2.length l2 ∧ l2.length ≤ c2) ∧
      (l0.length ≤ maxLen ∧ ∀ s ∈ l0, s.f2.length < 9223372036854775808) ∧ l1.length ≤ maxLen ∧ l2.length ≤ maxLen ∧ (-9223372036854775808 ≤ a3 ∧ a3 ≤ 9223372036854775807) := by
  obtain ⟨x0, x1, x2, x3, y0, y1, y2, y3, m, rfl, rfl, rfl, h0, h1, h2, h3⟩ := open_agg4 Try.underlying26 (by kernel_rfl) (by kernel_rfl) hv h
  obtain ⟨l0, ⟨A0, c0, e0, hc0, hr0⟩, u0, g0⟩ := (Opens.slice Try.underlying22 (by kernel_rfl) opens53).2 _ _ _ h0
  obtain ⟨l1, ⟨A1, c1, e1, hc1, hr1⟩, u1, _⟩ := (Opens.slice Try.underlying23 (by kernel_rfl) opens55).2 _ _ _ h1
  obtain ⟨l2, ⟨A2, c2, e2, hc2, hr2⟩, u2, _⟩ := (Opens.slice Try.underlying24 (by kernel_rfl) opens59).2 _ _ _ h2
  obtain ⟨a3, e3, g3⟩ := opensInt.2 _ _ _ h3
  obtain rfl : x0 = .slice A0 l0.length c0 := by simpa using e0
  obtain rfl : x1 = .slice A1 l1.length c1 := by simpa using e1
  obtain rfl : x2 = .slice A2 l2.length c2 := by simpa using e2
  obtain rfl : x3 = .int .i64 a3 := List.head_eq_of_cons_eq (show [x3] = [.int .i64 a3] from e3)
  exact ⟨A0, c0, l0, A1, c1, l1, A2, c2, l2, a3, rfl, ⟨hr0, hc0⟩, ⟨hr1, hc1⟩, ⟨hr2, hc2⟩, ⟨u0, fun s hs => by exact Nat.lt_of_le_of_lt (show s.f2.length ≤ maxLen from g0 s hs) (by decide)⟩, u1, u2, wf64 g3⟩
end
end Go.Proofs.Ytjppjppapdflmaa.door
