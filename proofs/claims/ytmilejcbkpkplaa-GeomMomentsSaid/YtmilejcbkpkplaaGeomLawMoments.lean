/- GeomMoments: plain law. -/
import Derived.Test.YtmilejcbkpkplaaPAllx0
import Derived.Test.YtmilejcbkpkplaaPAllf6
import Derived.Test.YtmilejcbkpkplaaGeomTouch
namespace Go.Proofs.Ytmilejcbkpkplaa.PAll
set_option linter.unusedVariables false
open Go Go.RowKit Go.Proofs.YtmilejcbkpkplaaW.PrintWords Go.Proofs.YtmilejcbkpkplaaW.PrintLast Go.Proofs.YtmilejcbkpkplaaW.PrintMore Go.Proofs.Ytmilejcbkpkplaa.MathNum Go.Proofs.Ytmilejcbkpkplaa.EvWords Go.Proofs.Ytmilejcbkpkplaa.MathGeom

/-- The way between two discs at the moment k / n. -/
theorem way_ok {a b c d n k : Int} (ha : cOk a) (hb : cOk b) (hc : cOk c) (hd : cOk d) (h0 : 0 ≤ k) (h1 : k ≤ n) (h2 : n ≤ 100) :
    wrap64 ((wrap64 ((wrap64 (a - b)) * (wrap64 (n - k)))) + (wrap64 ((wrap64 (c - d)) * k))) = (a - b) * n + ((c - a) - (d - b)) * k ∧ -13107200 ≤ (a - b) * n + ((c - a) - (d - b)) * k ∧ (a - b) * n + ((c - a) - (d - b)) * k ≤ 13107200 := by
  unfold cOk at *
  have m1 := mul_bound (a := a - b) (b := n - k) (m := 65536) (n := 100) (by omega) (by omega)
  have m2 := mul_bound (a := c - d) (b := k) (m := 65536) (n := 100) (by omega) (by omega)
  have e : (a - b) * n + ((c - a) - (d - b)) * k = (a - b) * (n - k) + (c - d) * k := by grind
  rw [e, w64 (n := a - b) (by omega) (by omega), w64 (n := n - k) (by omega) (by omega), w64 (n := c - d) (by omega) (by omega), w64 (n := (a - b) * (n - k)) (by omega) (by omega), w64 (n := (c - d) * k) (by omega) (by omega), w64 (by omega) (by omega)]
  exact ⟨rfl, by omega, by omega⟩

theorem pure_GeomMoments (a : Int) (_ : (Lit.int .i64 a).wf = true) (b : Int) (_ : (Lit.int .i64 b).wf = true) (c : Int) (_ : (Lit.int .i64 c).wf = true) (d : Int) (_ : (Lit.int .i64 d).wf = true) (e : Int) (_ : (Lit.int .i64 e).wf = true) (f : Int) (_ : (Lit.int .i64 f).wf = true) (g : Int) (_ : (Lit.int .i64 g).wf = true) (h : Int) (_ : (Lit.int .i64 h).wf = true) (i : Int) (_ : (Lit.int .i64 i).wf = true) (j : Int) (_ : (Lit.int .i64 j).wf = true) (s : Int) (hs : (Lit.int .u8 s).wf = true) (t : Int) (ht : (Lit.int .u8 t).wf = true) :
    ∃ k, dancestudiolaw03_GeomMoments.f k a b c d e f g h i j s t = some true := by
  refine ev_some ?_
  have z0 : IntKind.u8.min = 0 := by decide
  have z1 : IntKind.u8.max = 255 := by decide
  simp only [Lit.wf, z0, z1, Bool.and_eq_true, decide_eq_true_eq] at hs ht
  have s0 : 0 ≤ s ∧ s ≤ 255 := hs
  have t0 : 0 ≤ t ∧ t ≤ 255 := ht
  clear hs ht
  simp only [dancestudiolaw03_GeomMoments.f]
  refine Ev.bind (touch_ev a b c d e f g h i j) ?_
  rw [w64 (n := s) (by omega) (by omega), w64 (n := t) (by omega) (by omega), Int.tmod_eq_emod_of_nonneg (a := s) (by omega)]
  generalize hn' : s % 100 = n'
  rw [w64 (n := 1 + n') (by omega) (by omega)]
  generalize hn : 1 + n' = n
  rw [w64 (n := n + 1) (by omega) (by omega), Int.tmod_eq_emod_of_nonneg (a := t) (by omega)]
  generalize hk : t % (n + 1) = k
  have k0 : 0 ≤ k := hk ▸ Int.emod_nonneg t (by omega)
  have k1 : k < n + 1 := hk ▸ Int.emod_lt_of_pos t (by omega)
  clear hk
  unfold touchV
  by_cases hm : mOk a b c d e ∧ mOk f g h i j
  · rw [if_pos hm]
    refine ev_pos rfl (ev_neg (by omega) ?_)
    by_cases ht : nst (a - f) (b - g) ((c - a) - (h - f)) ((d - b) - (i - g)) ((e + j) * (e + j)) < 0
    · exact ev_pos (decide_eq_true ht) (Ev.bind awake_ev (ev_now _))
    · refine ev_neg (by simpa using ht) ?_
      obtain ⟨⟨⟨p, p'⟩, ⟨q, q'⟩, hr⟩, ⟨⟨u, u'⟩, ⟨v, v'⟩, hr'⟩⟩ := hm
      obtain ⟨e1, b1, b1'⟩ := way_ok (n := n) p u q v k0 (by omega) (by omega)
      obtain ⟨e2, b2, b2'⟩ := way_ok (n := n) p' u' q' v' k0 (by omega) (by omega)
      have far := nst_moment ht k0 (n := n) (by omega)
      rw [e1, e2]
      generalize (a - f) * n + ((c - a) - (h - f)) * k = x at *
      generalize (b - g) * n + ((d - b) - (i - g)) * k = y at *
      have m1 := mul_bound (a := x) (b := x) (m := 13107200) (n := 13107200) (by omega) (by omega)
      have m2 := mul_bound (a := y) (b := y) (m := 13107200) (n := 13107200) (by omega) (by omega)
      unfold rOk at *
      have m3 := mul_bound (a := e + j) (b := n) (m := 65536) (n := 100) (by omega) (by omega)
      have m4 := mul_bound (a := (e + j) * n) (b := (e + j) * n) (m := 6553600) (n := 6553600) (by omega) (by omega)
      rw [w64 (n := x * x) (by omega) (by omega), w64 (n := y * y) (by omega) (by omega), w64 (n := e + j) (by omega) (by omega), w64 (n := (e + j) * n) (by omega) (by omega), w64 (n := (e + j) * n * ((e + j) * n)) (by omega) (by omega), w64 (n := x * x + y * y) (by omega) (by omega)]
      exact ev_pos far (Ev.bind awake_ev (ev_now _))
  · rw [if_neg hm]
    exact ev_neg (show ¬ ((1 : Int) = 0) by omega) (ev_neg (show ¬ (false = true) by simp) (Ev.bind awake_ev (ev_now _)))
end Go.Proofs.Ytmilejcbkpkplaa.PAll
