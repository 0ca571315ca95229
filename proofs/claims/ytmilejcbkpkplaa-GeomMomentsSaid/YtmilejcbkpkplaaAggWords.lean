/- What the rows of laws over structs and arrays of whole numbers take: the argument's cells are whole numbers. -/
import Derived.Test.YtmilejcbkpkplaaKw1
import Derived.SizedLaws
import Derived.ChangeSlices
import Derived.WideShapes
namespace Go.Proofs.Ytmilejcbkpkplaa.AggWords
open Go Go.RowKit Go.ChangeShapes Go.WideShapes

def cellsOfInts : List IntKind → List Int → List Value
  | k :: ks, z :: zs => .int k z :: cellsOfInts ks zs
  | _, _ => []
theorem cell_int {P : Program} {W : World} {base : Nat} {t : TypeId} {k : IntKind} {v : Value} (ht : P.underlying t = some (.int k)) (h : Cell.okWide P W .any base t v) : ∃ z, v = .int k z ∧ (Lit.int k z).wf = true := by
  simp only [ht, Cell.okWide] at h
  cases v <;> simp_all [Cell.ok, Lit.wf, IntKind.has]
theorem row_ints {P : Program} {W : World} {base : Nat} : ∀ (ts : List TypeId) (ks : List IntKind) (cs : List Value), cs.length = ts.length → ts.map P.underlying = ks.map (fun k => some (.int k)) →
    (∀ (i : Nat) v, cs[i]? = some v → ∃ u, ts[i]? = some u ∧ Cell.okWide P W .any base u v) → ∃ zs, zs.length = ks.length ∧ cs = cellsOfInts ks zs ∧ ∀ (i : Nat) k z, ks[i]? = some k → zs[i]? = some z → (Lit.int k z).wf = true := by
  intro ts
  induction ts with
  | nil =>
    intro ks cs hl hk _
    cases ks with
    | nil => exact ⟨[], rfl, List.eq_nil_of_length_eq_zero hl, fun i k z h => by simp at h⟩
    | cons k ks => simp at hk
  | cons t ts ih =>
    intro ks cs hl hk h
    cases ks with
    | nil => simp at hk
    | cons k ks =>
      cases cs with
      | nil => simp at hl
      | cons v cs =>
        simp only [List.map_cons, List.cons.injEq] at hk
        obtain ⟨u, hu, hv⟩ := h 0 v rfl
        simp only [List.getElem?_cons_zero, Option.some.injEq] at hu
        subst hu
        obtain ⟨z, rfl, hw⟩ := cell_int hk.1 hv
        obtain ⟨zs, hz, e, hws⟩ := ih ks cs (by simpa using hl) hk.2 (fun i v hi => h (i + 1) v (by simpa using hi))
        refine ⟨z :: zs, by simp [hz], by rw [e]; rfl, fun i k' z' h1 h2 => ?_⟩
        cases i with
        | zero => simp only [List.getElem?_cons_zero, Option.some.injEq] at h1 h2; subst h1 h2; exact hw
        | succ i => exact hws i k' z' (by simpa using h1) (by simpa using h2)
theorem open_cells {P : Program} {W : World} {base : Nat} {t : TypeId} {v : Value} {ts : List TypeId} {ks : List IntKind} (hu : (∃ fs, P.underlying t = some (.struct fs)) ∨ ∃ e n, P.underlying t = some (.array e n)) (ht : P.cellTypes P.depth t = some ts) (hC : P.cellsOf t = ts.length)
    (hk : ts.map P.underlying = ks.map (fun k => some (.int k))) (h : Value.okWide P W .any base t v) : ∃ zs, zs.length = ks.length ∧ v = .agg (cellsOfInts ks zs).toArray ∧ ∀ (i : Nat) k z, ks[i]? = some k → zs[i]? = some z → (Lit.int k z).wf = true := by
  have h' : ∃ cs, v = .agg cs ∧ cs.size = P.cellsOf t ∧ Row.okWide P W .any base t cs := by
    rcases hu with ⟨fs, hu⟩ | ⟨e, n, hu⟩ <;> (simp only [Value.okWide, hu] at h; exact h)
  obtain ⟨cs, rfl, hsz, ts', ht', _, hc⟩ := h'
  rw [ht] at ht'
  obtain rfl := Option.some.inj ht'
  obtain ⟨zs, hz, e, hw⟩ := row_ints ts ks cs.toList (by rw [Array.length_toList, hsz, hC]) hk (fun i v hi => by
    rw [Array.getElem?_toList] at hi
    obtain ⟨u, h1, h2⟩ := hc i v hi
    have : i < cs.size := by
      apply Classical.byContradiction
      intro hno
      rw [Array.getElem?_eq_none (by omega)] at hi
      cases hi
    rw [Nat.mod_eq_of_lt (by omega)] at h1
    exact ⟨u, h1, h2⟩)
  exact ⟨zs, hz, by rw [← e], hw⟩
theorem list_cons {n : Nat} {zs : List Int} (h : zs.length = n + 1) : ∃ a l, zs = a :: l ∧ l.length = n := by
  cases zs with
  | nil => simp at h
  | cons a l => exact ⟨a, l, rfl, by simpa using h⟩
end Go.Proofs.Ytmilejcbkpkplaa.AggWords
