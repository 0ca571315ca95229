/- A task that came in, and the memory that its slices can have. -/
import Derived.Test.YtjppjppapdflmaaOpenSized
import Derived.Test.YtjppjppapdflmaaROp
namespace Go.Proofs.Ytjppjppapdflmaa.OpenWords
open Go Go.RowKit Go.ChangeShapes Go.WideShapes Go.Proofs.YtjppjppapdflmaaW.PrintWords Go.Proofs.YtjppjppapdflmaaW.PrintLast
section
variable {H : Type} {enc : TypeId × Value → H} {P : Program} {W : World} {base : Nat} {sp : Nat → Bool} {held : Bool}
theorem fits_line : ∀ {ts : List TypeId} {ds : List (DataW H)} {i : Nat} {t : TypeId} {D : DataW H}, (DataW.weightsEach P ts ds).all (fun x => decide (x ≤ reachBytes)) = true → ts[i]? = some t → ds[i]? = some D → Fits P t D
 | [], _, i, _, _, _, ht, _ => by simp at ht
 | _ :: _, [], i, _, _, _, _, hd => by simp at hd
 | a :: ts, b :: ds, i, t, D, h, ht, hd => by
  simp only [DataW.weightsEach, List.all_append, Bool.and_eq_true] at h
  cases i with
  | zero =>
    simp only [List.getElem?_cons_zero, Option.some.injEq] at ht hd
    subst ht; subst hd; exact h.1
  | succ i => exact fits_line h.2 (by simpa using ht) (by simpa using hd)
theorem fits_agg {t : TypeId} {fs : Array Field} (ht : P.underlying t = some (.struct fs)) {ds : List (DataW H)} (h : Fits P t (.agg ds)) {i : Nat} {f : Field} {D : DataW H} (hf : fs.toList[i]? = some f) (hd : ds[i]? = some D) : Fits P f.type D := by
  unfold Fits at h
  simp only [DataW.weights, ht] at h
  exact fits_line h (by rw [List.getElem?_map, hf]; rfl) hd
/-- Fields in line, that fit. -/
def OpensAtZ {α : Type} (enc : TypeId × Value → H) (P : Program) (W : World) (base : Nat) (sp : Nat → Bool) (held : Bool) (d : Kd α) (fs : List Field) (off : Nat) (G : α → Prop) : Prop :=
  ∀ n (cs : List Value) (xs : List (DataW H × List MemPlace)), (∀ (i : Nat) (f : Field), fs[i]? = some f → DataW.trod enc P W base sp held n f.type ((cs.drop f.offset).take (P.cellsOf f.type)) = xs[i]?) → (∀ (i : Nat) (f : Field) y, fs[i]? = some f → xs[i]? = some y → Fits P f.type y.1) → xs.length = fs.length → cs.length = off + d.sz → ∃ p, d.K W p (cs.drop off) ∧ G p
theorem OpensAtZ.one {α : Type} {d : Kd α} {f : Field} {off : Nat} {G : α → Prop} (ho : f.offset = off) (h : OpensZ enc P W base sp held d f.type G) : OpensAtZ enc P W base sp held d [f] off G := by
  intro n cs xs hx hz hl hc
  have := hx 0 f rfl
  obtain ⟨y0, h0⟩ : ∃ y, xs[0]? = some y := ⟨_, List.getElem?_eq_getElem (show 0 < xs.length by simp [hl])⟩
  rw [h0] at this
  obtain ⟨p, h1, h2⟩ := h.2 _ _ _ this (hz 0 f _ rfl h0)
  rw [ho, List.take_of_length_le (by rw [List.length_drop, h.1]; omega)] at h1
  exact ⟨p, h1, h2⟩
theorem OpensAtZ.cons {α β : Type} {a : Kd α} {b : Kd β} {f : Field} {fs : List Field} {off : Nat} {G : α → Prop} {G' : β → Prop} (ho : f.offset = off) (h : OpensZ enc P W base sp held a f.type G) (hr : OpensAtZ enc P W base sp held b fs (off + a.sz) G') :
    OpensAtZ enc P W base sp held (Kd.pair a b) (f :: fs) off (fun p => G p.1 ∧ G' p.2) := by
  intro n cs xs hx hz hl hc
  have hsz : (Kd.pair a b).sz = a.sz + b.sz := rfl
  have h0 := hx 0 f rfl
  obtain ⟨y0, e0⟩ : ∃ y, xs[0]? = some y := ⟨_, List.getElem?_eq_getElem (show 0 < xs.length by simp [hl])⟩
  rw [e0] at h0
  obtain ⟨p, h1, h2⟩ := h.2 _ _ _ h0 (hz 0 f _ rfl e0)
  obtain ⟨q, h3, h4⟩ := hr n cs (xs.drop 1) (fun i g hg => by
    have := hx (i + 1) g (by simpa using hg)
    rw [this, List.getElem?_drop, Nat.add_comm]) (fun i g y hg hy => hz (i + 1) g y (by simpa using hg) (by rw [List.getElem?_drop, Nat.add_comm] at hy; exact hy)) (by simp [hl]) (by omega)
  refine ⟨(p, q), ⟨_, _, ?_, h1, h3⟩, h2, h4⟩
  rw [ho, h.1, ← List.drop_drop, List.take_append_drop]
theorem OpensZ.struct {α β : Type} {d : Kd α} {g : β → α} {t : TypeId} {fs : Array Field} {G : α → Prop} (ht : P.underlying t = some (.struct fs)) (hc : P.cellsOf t = d.sz) (hs : ∀ y, ∃ x, g x = y) (h : OpensAtZ enc P W base sp held d fs.toList 0 G) :
    OpensZ enc P W base sp held (Kd.iso d g) t (fun x => G (g x)) := by
  refine ⟨hc, fun fuel cs x hx hz => ?_⟩
  obtain ⟨xs, n, _, rfl, hl, hxs, hf⟩ := DataW.trod_struct ht hx
  obtain ⟨p, h1, h2⟩ := h n cs xs (fun i f hi => hf i f (by simpa using hi)) (fun i f y hi hy => fits_agg ht hz hi (by rw [List.getElem?_map, hy]; rfl)) (by simpa using hxs) (by omega)
  obtain ⟨y, rfl⟩ := hs p
  exact ⟨y, by rw [List.drop_zero] at h1; exact h1, h2⟩
end
end Go.Proofs.Ytjppjppapdflmaa.OpenWords
namespace Go.Proofs.Ytjppjppapdflmaa.door
open Go Go.RowKit Go.ChangeShapes Go.WideShapes Go.Joins Go.Proofs.YtjppjppapdflmaaW.PrintWords Go.Proofs.YtjppjppapdflmaaW.PrintLast Go.Proofs.Ytjppjppapdflmaa.OpenWords Go.Proofs.Ytjppjppapdflmaa.PAll
section
variable {H : Type} {enc : TypeId × Value → H} {W : World} {base : Nat} {sp : Nat → Bool} {held : Bool}
theorem OpensZ.weaken {α : Type} {P : Program} {d : Kd α} {t : TypeId} {G G' : α → Prop} (h : OpensZ enc P W base sp held d t G) (hg : ∀ p, G p → G' p) : OpensZ enc P W base sp held d t G' :=
  ⟨h.1, fun fuel cs x hx hz => by obtain ⟨p, h1, h2⟩ := h.2 fuel cs x hx hz; exact ⟨p, h1, hg p h2⟩⟩
theorem opensZ53 : OpensZ enc Try.prog W base sp held k53 53 (fun s => s.f2.length * Try.prog.bytesOf 3 ≤ reachBytes) :=
  OpensZ.weaken (OpensZ.struct Try.underlying53 (by kernel_rfl) (fun y => ⟨⟨y.1, y.2.1, y.2.2⟩, rfl⟩)
    (OpensAtZ.cons rfl opensStr.sized (OpensAtZ.cons rfl opensInt.sized (OpensAtZ.one rfl (OpensZ.slice Try.underlying51 (by kernel_rfl) opensInt.sized))))) (fun p h => h.2.2.1)
theorem small_bytes {n : Nat} (h : n * Try.prog.bytesOf 3 ≤ reachBytes) : n < 17592186044416 := by
  rw [show Try.prog.bytesOf 3 = 8 by kernel_rfl] at h; unfold reachBytes at h; omega
theorem small_rooms {n : Nat} (h : n * Try.prog.bytesOf 55 ≤ reachBytes) : n < 17592186044416 := by
  rw [show Try.prog.bytesOf 55 = 8 by kernel_rfl] at h; unfold reachBytes at h; omega
/-- A task that came in. -/
theorem open_taskZ {b0 : Nat} {v : Value} {d : DataW H} {p : List MemPlace} (hv : Value.okWide Try.prog W .any b0 26 v) (h : DataW.Trod enc Try.prog W base sp held 26 v d p) (hz : Fits Try.prog 26 d) :
    ∃ (A0 : Option Addr) (c0 : Nat) (l0 : List S53) (A1 : Option Addr) (c1 : Nat) (l1 : List S55) (A2 : Option Addr) (c2 : Nat) (l2 : List S59) (a3 : Int),
      v = .agg #[.slice A0 l0.length c0, .slice A1 l1.length c1, .slice A2 l2.length c2, .int .i64 a3] ∧ (k53.C W A0 l0.length l0 ∧ l0.length ≤ c0) ∧ (k55.C W A1 l1.length l1 ∧ l1.length ≤ c1) ∧ (k59.C W A2 l2.length l2 ∧ l2.length ≤ c2) ∧
      l1.length < 17592186044416 ∧ ∀ s ∈ l0, s.f2.length < 17592186044416 := by
  obtain ⟨x0, x1, x2, x3, y0, y1, y2, y3, m, rfl, rfl, rfl, h0, h1, h2, h3⟩ := open_agg4 Try.underlying26 (by kernel_rfl) (by kernel_rfl) hv h
  obtain ⟨l0, ⟨A0, c0, e0, hc0, hr0⟩, u0, g0⟩ := (OpensZ.slice Try.underlying22 (by kernel_rfl) opensZ53).2 _ _ _ h0 (fits_agg Try.underlying26 hz (i := 0) rfl rfl)
  obtain ⟨l1, ⟨A1, c1, e1, hc1, hr1⟩, u1, _⟩ := (OpensZ.slice Try.underlying23 (by kernel_rfl) opens55.sized).2 _ _ _ h1 (fits_agg Try.underlying26 hz (i := 1) rfl rfl)
  obtain ⟨l2, ⟨A2, c2, e2, hc2, hr2⟩, u2, _⟩ := (Opens.slice Try.underlying24 (by kernel_rfl) opens59).2 _ _ _ h2
  obtain ⟨a3, e3, g3⟩ := opensInt.2 _ _ _ h3
  obtain rfl : x0 = .slice A0 l0.length c0 := by simpa using e0
  obtain rfl : x1 = .slice A1 l1.length c1 := by simpa using e1
  obtain rfl : x2 = .slice A2 l2.length c2 := by simpa using e2
  obtain rfl : x3 = .int .i64 a3 := List.head_eq_of_cons_eq (show [x3] = [.int .i64 a3] from e3)
  exact ⟨A0, c0, l0, A1, c1, l1, A2, c2, l2, a3, rfl, ⟨hr0, hc0⟩, ⟨hr1, hc1⟩, ⟨hr2, hc2⟩, small_rooms u1, fun s hs => small_bytes (g0 s hs)⟩
end
end Go.Proofs.Ytjppjppapdflmaa.door
