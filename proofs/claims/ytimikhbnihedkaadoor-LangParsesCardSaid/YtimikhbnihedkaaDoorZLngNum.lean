/- Numbers, as the program's reader reads them. -/
import Derived.Test.YtimikhbnihedkaaDoorZLngLex
namespace Go.Proofs.YtimikhbnihedkaaDoor.PAll
set_option linter.unusedVariables false
set_option linter.unusedSectionVars false
set_option linter.unusedSimpArgs false
open Go Go.RowKit Go.Proofs.YtimikhbnihedkaaDoorW.PrintWords Go.Proofs.YtimikhbnihedkaaDoorW.PrintLast Go.Proofs.YtimikhbnihedkaaDoorW.PrintMore Go.Proofs.YtimikhbnihedkaaDoor.MathNum Go.Proofs.YtimikhbnihedkaaDoor.EvWords

theorem ev_shift {α : Type} {g f : Nat → Option α} {r : α} (c : Nat) (h : ∀ k, g (k + c) = f k) (e : Ev f r) : Ev g r := by
  obtain ⟨K, hK⟩ := e
  refine ⟨K + c, fun k hk => ?_⟩
  obtain ⟨m, rfl⟩ : ∃ m, k = m + c := ⟨k - c, by omega⟩
  rw [h]; exact hK m (by omega)
theorem nv_shift {α : Type} {g f : Nat → Option α} (c : Nat) (h : ∀ k, g (k + c) = f k) (e : Nv f) : Nv g := by
  obtain ⟨K, hK⟩ := e
  refine ⟨K + c, fun k hk => ?_⟩
  obtain ⟨m, rfl⟩ : ∃ m, k = m + c := ⟨k - c, by omega⟩
  rw [h]; exact hK m (by omega)
def numOk (ds : Bs) : Bool := match ds with
  | [_] => true
  | [c, _] => !(decide (c = 48))
  | _ => false
def numV (ds : Bs) : Int := match ds with
  | [c] => (c.toNat : Int) - 48
  | [c, d] => 10 * ((c.toNat : Int) - 48) + ((d.toNat : Int) - 48)
  | _ => 0
section
variable (l : Bs) (hl : l.length ≤ 100000)
include hl
theorem num_l0 (fr : Int) (d : Nat) : ∀ a : Nat, a + d = l.length → ∃ c : Nat, ∀ k, lang_reader_number.l0 (k + c) fr (mkB l) (a : Int) = lang_reader_number.j1 k fr (mkB l) ((a + ((l.drop a).takeWhile isD).length : Nat) : Int) ∧ lang_reader_number.pl0 (k + c) fr (mkB l) (a : Int) = lang_reader_number.pj1 k fr (mkB l) ((a + ((l.drop a).takeWhile isD).length : Nat) : Int) := by
  induction d with
  | zero =>
    intro a h
    refine ⟨1, fun k => ?_⟩
    rw [List.drop_eq_nil_of_le (by omega)]
    have h1 : ¬ ((a : Int) < ((mkB l).size : Int)) := by rw [size_mk]; omega
    constructor
    · simp only [lang_reader_number.l0]; rw [if_neg h1]; rfl
    · simp only [lang_reader_number.pl0]; rw [if_neg h1]; rfl
  | succ d ih =>
    intro a h
    have hlt : a < l.length := by omega
    have hd : l.drop a = l[a] :: l.drop (a + 1) := List.drop_eq_getElem_cons hlt
    obtain ⟨_, hb, _⟩ := drop_lt l hd
    have h1 : (a : Int) < ((mkB l).size : Int) := by rw [size_mk]; omega
    have h2 : (0 : Int) ≤ (a : Int) := by omega
    by_cases hD : isD l[a] = true
    · obtain ⟨c, hc⟩ := ih (a + 1) (by omega)
      refine ⟨c + 1, fun k => ?_⟩
      obtain ⟨c1, c2⟩ := hc k
      have e : a + ((l.drop a).takeWhile isD).length = a + 1 + ((l.drop (a + 1)).takeWhile isD).length := by rw [hd, List.takeWhile_cons_of_pos hD, List.length_cons]; omega
      have ew : wrap64 ((a : Int) + 1) = ((a + 1 : Nat) : Int) := by rw [w64 (by omega) (by omega)]; omega
      rw [e]
      constructor
      · rw [← c1, show k + (c + 1) = (k + c) + 1 by omega]
        simp only [lang_reader_number.l0]
        rw [if_pos h1, if_pos h2, hb, digit_ev' l hl]; simp only [Option.bind_some]
        rw [if_pos hD, ew]
      · rw [← c2, show k + (c + 1) = (k + c) + 1 by omega]
        simp only [lang_reader_number.pl0]
        rw [if_pos h1, if_pos h2, hb, digit_ev' l hl]; simp only [Option.bind_some]
        rw [if_pos hD, ew]
    · refine ⟨1, fun k => ?_⟩
      have e : a + ((l.drop a).takeWhile isD).length = a := by rw [hd, List.takeWhile_cons_of_neg (by simpa using hD)]; rfl
      rw [e]
      constructor
      · simp only [lang_reader_number.l0]
        rw [if_pos h1, if_pos h2, hb, digit_ev' l hl]; simp only [Option.bind_some]
        rw [if_neg hD]
      · simp only [lang_reader_number.pl0]
        rw [if_pos h1, if_pos h2, hb, digit_ev' l hl]; simp only [Option.bind_some]
        rw [if_neg hD]
theorem num_j3 {ds : Bs} (hok : numOk ds = true) (hd : ∀ c, c ∈ ds → isD c = true) (a : Int) : Ev (fun k => lang_reader_number.j3 k (mkB ds) (mkB l) a) (numV ds, mkB l, a) := by
  have hlen : ds.length ≤ 2 := by
    match ds, hok with
    | [], _ => simp
    | [_], _ => simp
    | [_, _], _ => simp
    | _ :: _ :: _ :: _, h => cases h
  have hby : bytesOf (mkB ds) = ds.map (fun c => (c.toNat : Int)) := rfl
  refine ev_step (fun k => by simp only [lang_reader_number.j3] <;> exact rfl) (ev_pos (by rw [size_mk]; simp only [List.length_nil]; omega) ?_)
  simp only [Option.bind_some]
  rw [List.nil_append, hby]
  have rng : ∀ c : UInt8, isD c = true → 48 ≤ (c.toNat : Int) ∧ (c.toNat : Int) ≤ 57 := fun c h => of_decide_eq_true h
  match ds, hok, hd with
  | [c], _, hd =>
    have r := rng c (hd c (by simp))
    refine ev_step (fun k => by simp only [lang_reader_number.l1] <;> exact rfl) (ev_pos (by simp) (ev_pos (by decide) (ev_pos (by simp) ?_)))
    have e0 : rd ([c].map (fun c => (c.toNat : Int))) 0 = (c.toNat : Int) := rfl
    rw [e0, show wrap64 (wrap64 (10 * 0) + ((c.toNat : Int) - 48) % 256) = (c.toNat : Int) - 48 by rw [w64 (n := 10 * 0) (by omega) (by omega), w64 (by omega) (by omega)]; omega, w64 (n := 0 + 1) (by decide) (by decide)]
    exact ev_step (fun k => by simp only [lang_reader_number.l1] <;> exact rfl) (ev_neg (by simp) (ev_now _))
  | [c, d], _, hd =>
    have r := rng c (hd c (by simp))
    have r2 := rng d (hd d (by simp))
    refine ev_step (fun k => by simp only [lang_reader_number.l1] <;> exact rfl) (ev_pos (by simp) (ev_pos (by decide) (ev_pos (by simp) ?_)))
    have e0 : rd ([c, d].map (fun c => (c.toNat : Int))) 0 = (c.toNat : Int) := rfl
    have e1 : rd ([c, d].map (fun c => (c.toNat : Int))) (0 + 1) = (d.toNat : Int) := rfl
    rw [e0, show wrap64 (wrap64 (10 * 0) + ((c.toNat : Int) - 48) % 256) = (c.toNat : Int) - 48 by rw [w64 (n := 10 * 0) (by omega) (by omega), w64 (by omega) (by omega)]; omega, w64 (n := 0 + 1) (by decide) (by decide)]
    refine ev_step (fun k => by simp only [lang_reader_number.l1] <;> exact rfl) (ev_pos (by simp) (ev_pos (by decide) (ev_pos (by simp) ?_)))
    rw [e1, show wrap64 (wrap64 (10 * ((c.toNat : Int) - 48)) + ((d.toNat : Int) - 48) % 256) = 10 * ((c.toNat : Int) - 48) + ((d.toNat : Int) - 48) by rw [w64 (n := 10 * ((c.toNat : Int) - 48)) (by omega) (by omega), w64 (by omega) (by omega)]; omega, w64 (n := 0 + 1 + 1) (by decide) (by decide)]
    exact ev_step (fun k => by simp only [lang_reader_number.l1] <;> exact rfl) (ev_neg (by simp) (ev_now _))
theorem num_dig {b : Bs} : ∀ c, c ∈ b.takeWhile isD → isD c = true := by
  induction b with
  | nil => intro c h; cases h
  | cons x b ih =>
    intro c h
    by_cases hx : isD x = true
    · rw [List.takeWhile_cons_of_pos hx] at h
      rcases List.mem_cons.1 h with rfl | h
      · exact hx
      · exact ih c h
    · rw [List.takeWhile_cons_of_neg (by simpa using hx)] at h; cases h
theorem num_j1 (a : Nat) (n : Nat) (ha : a + n ≤ l.length) (ds : Bs) (hds : ds = (l.drop a).take n) (hn : ds.length = n) :
    (numOk ds = true → (∀ c, c ∈ ds → isD c = true) → Ev (fun k => lang_reader_number.j1 k (a : Int) (mkB l) ((a + n : Nat) : Int)) (numV ds, mkB l, ((a + n : Nat) : Int))) ∧
    (numOk ds = false → Dies (fun k => lang_reader_number.j1 k (a : Int) (mkB l) ((a + n : Nat) : Int)) (fun k => lang_reader_number.pj1 k (a : Int) (mkB l) ((a + n : Nat) : Int))) := by
  have ex : (mkB l).extract (a : Int).toNat ((a + n : Nat) : Int).toNat = mkB ds := by rw [Int.toNat_natCast, Int.toNat_natCast, mk_extract, show a + n - a = n by omega, hds]
  have fr : Nv (fun k => lang_reader_number.j2 k (mkB ds) true (mkB l) ((a + n : Nat) : Int)) := nv_step (fun k => by simp only [lang_reader_number.j2] <;> exact rfl) (nv_pos (by first | trivial | rfl) (Nv.left (fail_nv l hl _ _)))
  have pr : Ev (fun k => lang_reader_number.pj2 k (mkB ds) true (mkB l) ((a + n : Nat) : Int)) () := ev_step (fun k => by simp only [lang_reader_number.pj2] <;> exact rfl) (ev_pos (by first | trivial | rfl) (ev_now _))
  have go : numOk ds = true → (∀ c, c ∈ ds → isD c = true) → Ev (fun k => lang_reader_number.j2 k (mkB ds) false (mkB l) ((a + n : Nat) : Int)) (numV ds, mkB l, ((a + n : Nat) : Int)) := fun h1 h2 =>
    ev_step (fun k => by simp only [lang_reader_number.j2] <;> exact rfl) (ev_neg (by simp) (num_j3 l hl h1 h2 _))
  have s0 : (0 : Int) ≤ (a : Int) := by omega
  have s1 : (a : Int) ≤ ((a + n : Nat) : Int) := by omega
  have s2 : ((a + n : Nat) : Int) ≤ ((mkB l).size : Int) := by rw [size_mk]; omega
  have tl : (mkB ds).toList = ds := toList_mk ds
  have sz : ((mkB ds).size : Int) = (ds.length : Int) := by rw [size_mk]
  constructor
  · intro hok hd
    refine ev_step (fun k => by simp only [lang_reader_number.j1] <;> exact rfl) (ev_pos s0 (ev_pos s1 (ev_pos s2 ?_)))
    rw [ex]
    match ds, hok, hd, go, tl, sz with
    | [c], hok, hd, go, tl, sz =>
      exact ev_neg (by rw [tl]; simp) (ev_neg (by rw [sz]; simp) (ev_neg (by rw [sz]; simp) (go hok hd)))
    | [c, d], hok, hd, go, tl, sz =>
      refine ev_neg (by rw [tl]; simp) (ev_neg (by rw [sz]; simp) (ev_pos (by rw [sz]; simp) (ev_pos (by rw [sz]; simp) ?_)))
      have hb : bt (mkB [c, d]) 0 = (c.toNat : Int) := rfl
      have hc : c ≠ 48 := by simpa [numOk] using hok
      rw [hb, show ((c.toNat : Int) == 48) = false from by simpa using fun q => hc ((u8_eq (n := 48) (by decide)).1 q)]
      exact go hok hd
  · intro hok
    constructor
    · refine nv_step (fun k => by simp only [lang_reader_number.j1] <;> exact rfl) (nv_pos s0 (nv_pos s1 (nv_pos s2 ?_)))
      rw [ex]
      match ds, hok, fr, tl, sz with
      | [], hok, fr, tl, sz => exact nv_pos tl fr
      | [c, d], hok, fr, tl, sz =>
        refine nv_neg (by rw [tl]; simp) (nv_neg (by rw [sz]; simp) (nv_pos (by rw [sz]; simp) (nv_pos (by rw [sz]; simp) ?_)))
        have hb : bt (mkB [c, d]) 0 = (c.toNat : Int) := rfl
        have hc : c = 48 := by simpa [numOk] using hok
        subst hc
        rw [hb]; exact fr
      | c :: d :: e :: m, hok, fr, tl, sz =>
        exact nv_neg (by rw [tl]; simp) (nv_pos (by rw [sz]; simp only [List.length_cons]; omega) fr)
    · refine ev_step (fun k => by simp only [lang_reader_number.pj1] <;> exact rfl) (ev_pos s0 (ev_pos s1 (ev_pos s2 ?_)))
      rw [ex]
      match ds, hok, pr, tl, sz with
      | [], hok, pr, tl, sz => exact ev_pos tl pr
      | [c, d], hok, pr, tl, sz =>
        refine ev_neg (by rw [tl]; simp) (ev_neg (by rw [sz]; simp) (ev_pos (by rw [sz]; simp) (ev_pos (by rw [sz]; simp) ?_)))
        have hb : bt (mkB [c, d]) 0 = (c.toNat : Int) := rfl
        have hc : c = 48 := by simpa [numOk] using hok
        subst hc
        rw [hb]; exact pr
      | c :: d :: e :: m, hok, pr, tl, sz =>
        exact ev_neg (by rw [tl]; simp) (ev_pos (by rw [sz]; simp only [List.length_cons]; omega) pr)
theorem number_ev {at_ : Nat} (h : at_ ≤ l.length) : ∃ a : Nat, a ≤ l.length ∧ l.drop a = (sp (l.drop at_)).dropWhile isD ∧
    (numOk ((sp (l.drop at_)).takeWhile isD) = true → Ev (fun k => lang_reader_number.f k (mkB l) (at_ : Int)) (numV ((sp (l.drop at_)).takeWhile isD), mkB l, (a : Int))) ∧
    (numOk ((sp (l.drop at_)).takeWhile isD) = false → Dies (fun k => lang_reader_number.f k (mkB l) (at_ : Int)) (fun k => lang_reader_number.p k (mkB l) (at_ : Int))) := by
  obtain ⟨a, ha, he, ev⟩ := space_ev' l hl h
  rw [← he]
  obtain ⟨c, hc⟩ := num_l0 l hl (a : Int) (l.length - a) a (by omega)
  have ht := take_tw (p := isD) (l.drop a)
  have hle : ((l.drop a).takeWhile isD).length ≤ (l.drop a).length := (List.takeWhile_sublist _).length_le
  rw [List.length_drop] at hle
  obtain ⟨j1, j2⟩ := num_j1 l hl a ((l.drop a).takeWhile isD).length (by omega) ((l.drop a).takeWhile isD) ht.1.symm rfl
  refine ⟨a + ((l.drop a).takeWhile isD).length, by omega, by rw [← List.drop_drop]; exact ht.2, fun hok => ?_, fun hok => ?_⟩
  · unfold lang_reader_number.f
    exact Ev.bind ev (ev_shift c (fun k => (hc k).1) (j1 hok (num_dig l hl)))
  · unfold lang_reader_number.f lang_reader_number.p
    obtain ⟨n1, n2⟩ := j2 hok
    exact ⟨Nv.bind ev (nv_shift c (fun k => (hc k).1) n1), Ev.bind ev (ev_shift c (fun k => (hc k).2) n2)⟩
end
end Go.Proofs.YtimikhbnihedkaaDoor.PAll
