/- What the rows of laws over slices, and over slices of slices, take: the cells that were read are a list, or a list of lists. -/
import Derived.Test.YtbmflpflmjfabaaKw1
import Derived.Deep.Matrix
import Derived.SizedLaws
import Derived.ChangeSlices
namespace Go.Proofs.Ytbmflpflmjfabaa.RowWords
open Go Go.RowKit Go.Deep Go.ChangeShapes Go.WideShapes Go.Proofs.YtbmflpflmjfabaaW.PrintWords Go.Proofs.YtbmflpflmjfabaaW.PrintLast

theorem ints_C {W : World} {a : Addr} {n m : Nat} {k : IntKind} {z : List Int} (hl : n ≤ m) (hz : z.length = m) (hm : m ≤ maxLen) (hc : ∀ c, c < m → W.cell? (a.add c) = some (.int k (z.getD c 0))) :
    Kd.C (Kd.int k) W (some a) n (z.take n) := by
  refine ⟨by rw [List.length_take]; omega, by unfold maxLen at hm; omega, fun _ => ⟨a, rfl, fun j p hj => ?_⟩⟩
  obtain ⟨h1, h2⟩ := List.getElem?_eq_some_iff.1 hj
  rw [List.length_take] at h1
  refine ⟨[.int k p], rfl, rfl, fun i u hu => ?_⟩
  match i, hu with
  | 0, hu =>
    simp only [List.getElem?_cons_zero, Option.some.injEq] at hu
    subst hu
    have e : z.getD j 0 = p := by
      rw [List.getElem_take] at h2
      rw [List.getD_eq_getElem?_getD, List.getElem?_eq_getElem (by omega), h2]; rfl
    have := hc j (by omega)
    rw [e] at this
    have e2 : j * (Kd.int k).sz + 0 = j := by show j * 1 + 0 = j; omega
    rw [e2]; exact this
theorem ints_C_none {W : World} {k : IntKind} : Kd.C (Kd.int k) W none 0 ([] : List Int) := ⟨rfl, by omega, fun h => absurd h (by omega)⟩

theorem rows_C {W : World} {a : Addr} {e base len cap : Nat} {k : IntKind} {A : Nat → Option Addr} {L C : Nat → Nat} {Z : Nat → List Int} (hl : len ≤ cap) (hm : cap ≤ maxLen)
    (hcell : ∀ r, r < cap → W.cell? (a.add r) = some (.slice (A r) (L r) (C r)) ∧ L r ≤ C r ∧ C r ≤ maxLen ∧ (Z r).length = C r ∧ (∀ n ∈ Z r, (Lit.int k n).wf = true) ∧ (A r = none → C r = 0) ∧
        ∀ a', A r = some a' → base ≤ a'.block ∧ ∀ c, c < C r → W.cell? (a'.add c) = some (.int k ((Z r).getD c 0))) :
    Kd.C (Kd.slice e (Kd.int k)) W (some a) len ((List.range len).map fun r => (Z r).take (L r)) := by
  refine ⟨by simp, by unfold maxLen at hm; omega, fun _ => ⟨a, rfl, fun j p hj => ?_⟩⟩
  obtain ⟨h1, h2⟩ := List.getElem?_eq_some_iff.1 hj
  simp only [List.length_map, List.length_range] at h1
  simp only [List.getElem_map, List.getElem_range] at h2
  obtain ⟨c1, c2, c3, c4, _, c6, c7⟩ := hcell j (by omega)
  have hp : p.length = L j := by rw [← h2, List.length_take]; omega
  refine ⟨[.slice (A j) p.length (C j)], rfl, ⟨A j, C j, rfl, by omega, ?_⟩, fun i u hu => ?_⟩
  · rw [hp, ← h2]
    cases hA : A j with
    | none =>
      have z0 := c6 hA
      have z1 : L j = 0 := by omega
      rw [z1, List.take_zero]
      exact ints_C_none
    | some a' => exact ints_C c2 c4 c3 (c7 a' hA).2
  · match i, hu with
    | 0, hu =>
      simp only [List.getElem?_cons_zero, Option.some.injEq] at hu
      subst hu
      have e2 : j * (Kd.slice e (Kd.int k)).sz + 0 = j := by show j * 1 + 0 = j; omega
      rw [e2, hp]; exact c1
theorem rows_C_none {W : World} {e : Nat} {k : IntKind} : Kd.C (Kd.slice e (Kd.int k)) W none 0 ([] : List (List Int)) := ⟨rfl, by omega, fun h => absurd h (by omega)⟩

/-- A list that can be held. -/
def Held (k : IntKind) (l : List Int) : Prop := l.length ≤ maxLen ∧ ∀ n ∈ l, (Lit.int k n).wf = true

theorem open_list {H : Type} {enc : TypeId × Value → H} {P : Program} {W : World} {base : Nat} {held : Bool} {t e : TypeId} {k : IntKind} {v : Value} {d : DataW H} {pl : List MemPlace} {a : Option Addr} {len cap : Nat}
    (ht : P.underlying t = some (.slice e)) (he : P.underlying e = some (.int k)) (ce : P.cellsOf e = 1) (hv : v = .slice a len cap) (h : DataW.Trod enc P W base (fun _ => true) held t v d pl) :
    ∃ l : List Int, l.length = len ∧ Kd.C (Kd.int k) W a len l ∧ len ≤ cap ∧ Held k l := by
  subst hv
  obtain ⟨fuel, hf⟩ := h
  rcases open_ints ht he ce hf with ⟨hcs, _⟩ | ⟨x, l, c, zs, hcs, _, hl, hm, hz, _, hcell, hwz⟩
  · simp [Value.cells] at hcs
    obtain ⟨rfl, rfl, rfl⟩ := hcs
    exact ⟨[], rfl, ints_C_none, Nat.le_refl _, Nat.zero_le _, fun n hn => absurd hn (List.not_mem_nil)⟩
  · simp [Value.cells] at hcs
    obtain ⟨rfl, rfl, rfl⟩ := hcs
    simp only [if_true] at hz
    exact ⟨zs.take len, by rw [List.length_take]; omega, ints_C hl hz hm (fun c hc => hcell c (by omega)), hl, by rw [List.length_take]; omega, fun n hn => hwz n (List.mem_of_mem_take hn)⟩

theorem open_rows {H : Type} {enc : TypeId × Value → H} {P : Program} {W : World} {base : Nat} {held : Bool} {t e q : TypeId} {k : IntKind} {v : Value} {d : DataW H} {pl : List MemPlace} {a : Option Addr} {len cap : Nat}
    (ht : P.underlying t = some (.slice e)) (he : P.underlying e = some (.slice q)) (hq : P.underlying q = some (.int k)) (ce : P.cellsOf e = 1) (cq : P.cellsOf q = 1) (hv : v = .slice a len cap) (h : DataW.Trod enc P W base (fun _ => true) held t v d pl) :
    ∃ l : List (List Int), l.length = len ∧ Kd.C (Kd.slice q (Kd.int k)) W a len l ∧ len ≤ cap ∧ l.length ≤ maxLen ∧ ∀ r ∈ l, Held k r := by
  subst hv
  obtain ⟨fuel, hf⟩ := h
  rcases open_int_rows ht he hq ce cq hf with ⟨hcs, _⟩ | ⟨x, l, c, A, L, C, Z, hcs, _, hl, hm, _, hrows⟩
  · simp [Value.cells] at hcs
    obtain ⟨rfl, rfl, rfl⟩ := hcs
    exact ⟨[], rfl, rows_C_none, Nat.le_refl _, Nat.zero_le _, fun n hn => absurd hn (List.not_mem_nil)⟩
  · simp [Value.cells] at hcs
    obtain ⟨rfl, rfl, rfl⟩ := hcs
    refine ⟨(List.range len).map fun r => (Z r).take (L r), by simp, rows_C hl hm hrows, hl, by simp; omega, fun r hr => ?_⟩
    obtain ⟨i, hi, rfl⟩ := List.mem_map.1 hr
    have hi' := List.mem_range.1 hi
    obtain ⟨_, c2, c3, c4, c5, _, _⟩ := hrows i (by omega)
    exact ⟨by rw [List.length_take]; omega, fun n hn => c5 n (List.mem_of_mem_take hn)⟩
end Go.Proofs.Ytbmflpflmjfabaa.RowWords
