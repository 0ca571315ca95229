/- The program puts a node before its arguments. -/
import Derived.Test.YtimikhbnihedkaaDoorZMC3
namespace Go.Proofs.YtimikhbnihedkaaDoor.PAll
set_option linter.unusedVariables false
set_option linter.unusedSectionVars false
set_option linter.unusedSimpArgs false
open Go Go.RowKit Go.Proofs.YtimikhbnihedkaaDoorW.PrintWords Go.Proofs.YtimikhbnihedkaaDoorW.PrintLast Go.Proofs.YtimikhbnihedkaaDoorW.PrintMore Go.Proofs.YtimikhbnihedkaaDoor.MathNum Go.Proofs.YtimikhbnihedkaaDoor.EvWords

def noB : ByteArray := ⟨#[]⟩
theorem tree_l0 {L : List (List S43)} (hL : L.length ≤ 5000) : ∀ (d : Nat) (i : Nat) (acc : List S43), i + d = L.length → acc.length + (L.drop i).flatten.length ≤ 1000000 → Ev (fun k => lang_tree.l0 k acc L (L.length : Int) (i : Int)) (acc ++ (L.drop i).flatten)
  | 0, i, acc, hi, hl => by
    rw [List.drop_eq_nil_of_le (by omega), List.flatten_nil, List.append_nil]
    exact ev_step (fun k => by simp only [lang_tree.l0] <;> exact rfl) (ev_neg (by omega) (ev_now _))
  | d + 1, i, acc, hi, hl => by
    have hlt : i < L.length := by omega
    obtain ⟨hp, h1, h2⟩ := rdL3_drop (List.drop_eq_getElem_cons hlt)
    rw [List.drop_eq_getElem_cons hlt, List.flatten_cons, List.length_append] at hl
    refine ev_step (fun k => by simp only [lang_tree.l0] <;> exact rfl) (ev_pos (by omega) (ev_pos (by omega) (ev_pos (by omega) ?_)))
    rw [h1, w64 (by omega) (by omega), show (i : Int) + 1 = ((i + 1 : Nat) : Int) by omega]
    refine ev_pos (by omega) (ev_eq (tree_l0 hL d (i + 1) (acc ++ L[i]) (by omega) (by rw [List.length_append]; omega)) ?_)
    rw [List.drop_eq_getElem_cons hlt, List.flatten_cons, List.append_assoc]
theorem tree_ev (op : Int) (nm : ByteArray) (n a : Int) (L : List (List S43)) (hL : L.length ≤ 5000) (hl : L.flatten.length ≤ 100000) : Ev (fun k => lang_tree.f k op nm n a L) ((⟨op, nm, n, (L.length : Int)⟩ : S43) :: L.flatten) := by
  unfold lang_tree.f
  exact ev_eq (tree_l0 hL L.length 0 _ (Nat.zero_add _) (by rw [List.drop_zero]; simp only [List.length_singleton]; omega)) (by rw [List.drop_zero]; rfl)
def un (op n : Int) : S43 := ⟨op, noB, n, 1⟩
theorem tree_one (op n : Int) (e : List S43) (hl : e.length ≤ 100000) : Ev (fun k => lang_tree.f k op (⟨#[]⟩ : ByteArray) n 0 ([e] : List (List S43))) (un op n :: e) := by
  have := tree_ev op (⟨#[]⟩ : ByteArray) n 0 [e] (by simp) (by simpa using hl)
  simp only [List.flatten_cons, List.flatten_nil, List.append_nil] at this
  exact this
end Go.Proofs.YtimikhbnihedkaaDoor.PAll
