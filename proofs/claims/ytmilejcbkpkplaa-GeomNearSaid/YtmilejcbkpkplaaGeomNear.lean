/- Near and Touch, of the program and of the reference: the sign of the least distance less the radius. -/
import Derived.Test.YtmilejcbkpkplaaPAllx0
import Derived.Test.YtmilejcbkpkplaaPAllf16
import Derived.Test.YtmilejcbkpkplaaPAllf17
import Derived.Test.YtmilejcbkpkplaaPAllf18
import Derived.Test.YtmilejcbkpkplaaPAllf19
import Derived.Test.YtmilejcbkpkplaaPAllf29
import Derived.Test.YtmilejcbkpkplaaPAllf30
import Derived.Test.YtmilejcbkpkplaaPAllf32
import Derived.Test.YtmilejcbkpkplaaPAllf33
import Derived.Test.YtmilejcbkpkplaaPAllf36
import Derived.Test.YtmilejcbkpkplaaPAllf38
import Derived.Test.YtmilejcbkpkplaaPAllf39
import Derived.Test.YtmilejcbkpkplaaPAllf44
import Derived.Test.YtmilejcbkpkplaaGeomBase
import Derived.Test.YtmilejcbkpkplaaMathGeom
import Derived.Test.YtmilejcbkpkplaaCmpWords
import Derived.Test.YtmilejcbkpkplaaRefCmpWords
namespace Go.Proofs.Ytmilejcbkpkplaa.PAll
set_option linter.unusedVariables false
open Go Go.RowKit Go.Proofs.YtmilejcbkpkplaaW.PrintWords Go.Proofs.YtmilejcbkpkplaaW.PrintLast Go.Proofs.YtmilejcbkpkplaaW.PrintMore Go.Proofs.Ytmilejcbkpkplaa.MathNum Go.Proofs.Ytmilejcbkpkplaa.EvWords Go.Proofs.Ytmilejcbkpkplaa.MathGeom

theorem compare_ev {a b c d : Int} (h1 : sm a = true) (h2 : sm b = true) (h3 : sm c = true) (h4 : sm d = true) : Ev (fun k => num_Compare.f k a b c d) (cmp3 (a * b) (c * d), 0) :=
  Ev.of (num_Compare.mono a b c d) (k := 0 + 5) (compare_some 0 (by simp [h1, h2, h3, h4]))
theorem rcompare_ev {a b c d : Int} (h1 : sm a = true) (h2 : sm b = true) (h3 : sm c = true) (h4 : sm d = true) : Ev (fun k => dancestudioref01_Compare.f k a b c d) (cmp3 (a * b) (c * d), 0) :=
  Ev.of (dancestudioref01_Compare.mono a b c d) (k := 0 + 1) (by rw [rcompare_some, if_pos (by simp [h1, h2, h3, h4])])

/-- A number below 2^40. -/
theorem sm_of {a : Int} (h1 : -1099511627776 ≤ a) (h2 : a ≤ 1099511627776) : sm a = true := sm_iff.2 ⟨by omega, by omega⟩

theorem dot_dt {a b c d : Int} (ha : -131072 ≤ a ∧ a ≤ 131072) (hb : -131072 ≤ b ∧ b ≤ 131072) (hc : -131072 ≤ c ∧ c ≤ 131072) (hd : -131072 ≤ d ∧ d ≤ 131072) : geom_dot.f a b c d = some (dt a b c d) ∧ -34359738368 ≤ dt a b c d ∧ dt a b c d ≤ 34359738368 := by
  refine ⟨dot_ok ha hb hc hd, ?_⟩
  unfold dt
  have h1 := mul_bound ha hc
  have h2 := mul_bound hb hd
  omega
theorem cross_cr {a b c d : Int} (ha : -131072 ≤ a ∧ a ≤ 131072) (hb : -131072 ≤ b ∧ b ≤ 131072) (hc : -131072 ≤ c ∧ c ≤ 131072) (hd : -131072 ≤ d ∧ d ≤ 131072) : geom_cross.f a b c d = some (cr a b c d) ∧ -34359738368 ≤ cr a b c d ∧ cr a b c d ≤ 34359738368 := by
  refine ⟨cross_ok ha hb hc hd, ?_⟩
  unfold cr
  have h1 := mul_bound ha hd
  have h2 := mul_bound hb hc
  omega

theorem nearest_ev {dx dy vx vy r2 : Int} (h1 : -131072 ≤ dx ∧ dx ≤ 131072) (h2 : -131072 ≤ dy ∧ dy ≤ 131072) (h3 : -131072 ≤ vx ∧ vx ≤ 131072) (h4 : -131072 ≤ vy ∧ vy ≤ 131072) (h5 : -131072 ≤ dx + vx ∧ dx + vx ≤ 131072) (h6 : -131072 ≤ dy + vy ∧ dy + vy ≤ 131072) (h7 : 0 ≤ r2 ∧ r2 ≤ 1099511627776) :
    Ev (fun k => geom_nearest.f k dx dy vx vy r2) (nst dx dy vx vy r2) := by
  obtain ⟨e1, l1, u1⟩ := dot_dt h1 h2 h3 h4
  obtain ⟨e2, l2, u2⟩ := dot_dt h3 h4 h3 h4
  obtain ⟨e3, l3, u3⟩ := dot_dt h1 h2 h1 h2
  obtain ⟨e4, l4, u4⟩ := dot_dt h5 h6 h5 h6
  obtain ⟨e5, l5, u5⟩ := cross_cr h1 h2 h3 h4
  simp only [geom_nearest.f, e1, e2, e3, e5, Option.bind_some]
  rw [w64 (n := dx + vx) (by omega) (by omega), w64 (n := dy + vy) (by omega) (by omega), w64 (n := -dt dx dy vx vy) (by omega) (by omega), e4]
  simp only [Option.bind_some]
  unfold nst
  have s1 : sm 1 = true := by decide
  have sr : sm r2 = true := sm_of (by omega) (by omega)
  by_cases c1 : -dt dx dy vx vy ≤ 0
  · rw [if_pos c1]
    refine ev_pos c1 ?_
    have := compare_ev (sm_of (a := dt dx dy dx dy) (by omega) (by omega)) s1 sr s1
    rw [Int.mul_one, Int.mul_one] at this
    exact this.bind (ev_now _)
  · rw [if_neg c1]
    refine ev_neg c1 ?_
    by_cases c2 : -dt dx dy vx vy ≥ dt vx vy vx vy
    · rw [if_pos c2]
      refine ev_pos c2 ?_
      have := compare_ev (sm_of (a := dt (dx + vx) (dy + vy) (dx + vx) (dy + vy)) (by omega) (by omega)) s1 sr s1
      rw [Int.mul_one, Int.mul_one] at this
      exact this.bind (ev_now _)
    · rw [if_neg c2]
      refine ev_neg c2 ?_
      have sc := sm_of (a := cr dx dy vx vy) (by omega) (by omega)
      exact (compare_ev sc sc sr (sm_of (a := dt vx vy vx vy) (by omega) (by omega))).bind (ev_now _)

/-- Whether a disc of the radius r at p reaches the segment from a to b. -/
def nearV (p0 p1 a0 a1 b0 b1 r : Int) : Bool × Int :=
  if (cOk p0 ∧ cOk p1) ∧ (cOk a0 ∧ cOk a1) ∧ (cOk b0 ∧ cOk b1) ∧ rOk r then (decide (nst (a0 - p0) (a1 - p1) (b0 - a0) (b1 - a1) (r * r) ≤ 0), 0) else (false, 1)
theorem near_ev (p0 p1 a0 a1 b0 b1 r : Int) : Ev (fun k => geom_Near.f k p0 p1 a0 a1 b0 b1 r) (nearV p0 p1 a0 a1 b0 b1 r) := by
  have v := valid_ev (ps := [(⟨p0, p1⟩ : S23), (⟨a0, a1⟩ : S23), (⟨b0, b1⟩ : S23)]) (rs := [r]) (by simp) (by simp)
  simp only [geom_Near.f]
  unfold nearV
  by_cases h : (cOk p0 ∧ cOk p1) ∧ (cOk a0 ∧ cOk a1) ∧ (cOk b0 ∧ cOk b1) ∧ rOk r
  · rw [if_pos h]
    refine Ev.bind v (ev_pos (by simpa [pOk, and_assoc] using h) ?_)
    obtain ⟨⟨p, p'⟩, ⟨a, a'⟩, ⟨b, b'⟩, hr⟩ := h
    rw [minus_ok a a' p p', minus_ok b b' a a']
    unfold cOk rOk at *
    simp only [Option.bind_some]
    have rr := mul_bound (a := r) (b := r) (m := 32768) (n := 32768) (by omega) (by omega)
    have r0 := Int.mul_nonneg hr.1 hr.1
    rw [w64 (n := r * r) (by omega) (by omega)]
    exact (nearest_ev (by omega) (by omega) (by omega) (by omega) (by omega) (by omega) (by omega)).bind (ev_now _)
  · rw [if_neg h]
    exact Ev.bind v (ev_neg (by simpa [pOk, and_assoc] using h) (ev_now _))

theorem sq_dt {a b c d : Int} (ha : cOk a) (hb : cOk b) (hc : cOk c) (hd : cOk d) : dancestudioref03_square.f a b c d = some (dt (a - c) (b - d) (a - c) (b - d)) := square_ok ha hb hc hd
theorem dt_swap (a b c d : Int) : dt (a - c) (b - d) (a - c) (b - d) = dt (c - a) (d - b) (c - a) (d - b) := by unfold dt; grind
theorem cmp3_le {a b : Int} : decide (cmp3 a b ≤ 0) = decide (a ≤ b) := by
  rcases cmp3_cases a b with ⟨h, e⟩ | ⟨h, e⟩ | ⟨h, e⟩ <;> rw [e] <;> exact decide_eq_decide.2 (by omega)
theorem rnear_j {p0 p1 a0 a1 b0 b1 r : Int} (h : (cOk p0 ∧ cOk p1) ∧ (cOk a0 ∧ cOk a1) ∧ (cOk b0 ∧ cOk b1) ∧ rOk r) : Ev (fun k => dancestudioref03_Near.j0 k r false p0 p1 a0 a1 b0 b1) (nearV p0 p1 a0 a1 b0 b1 r) := by
  unfold nearV
  rw [if_pos h]
  obtain ⟨⟨p, p'⟩, ⟨a, a'⟩, ⟨b, b'⟩, hr⟩ := h
  refine ev_step (fun k => by simp only [dancestudioref03_Near.j0] <;> exact rfl) ?_
  refine ev_neg (by simp) ?_
  rw [sq_dt p p' a a', sq_dt a a' b b', sq_dt p p' b b', rcross_ok a a' b b' p p']
  unfold cOk rOk at *
  simp only [Option.bind_some]
  have rr := mul_bound (a := r) (b := r) (m := 32768) (n := 32768) (by omega) (by omega)
  have r0 := Int.mul_nonneg hr.1 hr.1
  have m1 := mul_bound (a := p0 - a0) (b := b0 - a0) (m := 65536) (n := 65536) (by omega) (by omega)
  have m2 := mul_bound (a := p1 - a1) (b := b1 - a1) (m := 65536) (n := 65536) (by omega) (by omega)
  have m3 := mul_bound (a := b0 - a0) (b := p1 - a1) (m := 65536) (n := 65536) (by omega) (by omega)
  have m4 := mul_bound (a := b1 - a1) (b := p0 - a0) (m := 65536) (n := 65536) (by omega) (by omega)
  have eL : dt (a0 - b0) (a1 - b1) (a0 - b0) (a1 - b1) = dt (b0 - a0) (b1 - a1) (b0 - a0) (b1 - a1) := dt_swap _ _ _ _
  have bL := (dot_dt (a := b0 - a0) (b := b1 - a1) (c := b0 - a0) (d := b1 - a1) (by omega) (by omega) (by omega) (by omega)).2
  rw [w64 (n := r * r) (by omega) (by omega), w64 (n := p0 - a0) (by omega) (by omega), w64 (n := p1 - a1) (by omega) (by omega), w64 (n := b0 - a0) (by omega) (by omega), w64 (n := b1 - a1) (by omega) (by omega), w64 (n := (p0 - a0) * (b0 - a0)) (by omega) (by omega), w64 (n := (p1 - a1) * (b1 - a1)) (by omega) (by omega), w64 (by omega) (by omega)]
  have ed : (p0 - a0) * (b0 - a0) + (p1 - a1) * (b1 - a1) = -dt (a0 - p0) (a1 - p1) (b0 - a0) (b1 - a1) := by unfold dt; grind
  rw [ed, eL]
  unfold nst
  by_cases c1 : -dt (a0 - p0) (a1 - p1) (b0 - a0) (b1 - a1) ≤ 0
  · refine ev_pos c1 ?_
    rw [if_pos c1, cmp3_le, dt_swap]
    exact ev_now _
  · refine ev_neg c1 ?_
    rw [if_neg c1]
    by_cases c2 : -dt (a0 - p0) (a1 - p1) (b0 - a0) (b1 - a1) ≥ dt (b0 - a0) (b1 - a1) (b0 - a0) (b1 - a1)
    · refine ev_pos c2 ?_
      rw [if_pos c2, cmp3_le]
      refine ev_eq (ev_now _) ?_
      rw [dt_swap]; congr 2; rw [show a0 - p0 + (b0 - a0) = b0 - p0 by omega, show a1 - p1 + (b1 - a1) = b1 - p1 by omega]
    · refine ev_neg c2 ?_
      rw [if_neg c2]
      have sc := sm_of (a := (b0 - a0) * (p1 - a1) - (b1 - a1) * (p0 - a0)) (by omega) (by omega)
      refine Ev.bind (rcompare_ev sc sc (sm_of (by omega) (by omega)) (sm_of (by omega) (by omega))) ?_
      have : ((b0 - a0) * (p1 - a1) - (b1 - a1) * (p0 - a0)) * ((b0 - a0) * (p1 - a1) - (b1 - a1) * (p0 - a0)) = cr (a0 - p0) (a1 - p1) (b0 - a0) (b1 - a1) * cr (a0 - p0) (a1 - p1) (b0 - a0) (b1 - a1) := by unfold cr; grind
      rw [this]
      exact ev_now _
theorem rnear_bad (r p0 p1 a0 a1 b0 b1 : Int) : Ev (fun k => dancestudioref03_Near.j0 k r true p0 p1 a0 a1 b0 b1) (false, 1) :=
  ev_step (fun k => by simp only [dancestudioref03_Near.j0] <;> exact rfl) (ev_pos (show true = true from rfl) (ev_now _))
theorem rnear_ev (p0 p1 a0 a1 b0 b1 r : Int) : Ev (fun k => dancestudioref03_Near.f k p0 p1 a0 a1 b0 b1 r) (nearV p0 p1 a0 a1 b0 b1 r) := by
  have bad : ¬ ((cOk p0 ∧ cOk p1) ∧ (cOk a0 ∧ cOk a1) ∧ (cOk b0 ∧ cOk b1) ∧ rOk r) → nearV p0 p1 a0 a1 b0 b1 r = (false, 1) := fun h => by unfold nearV; rw [if_neg h]
  simp only [dancestudioref03_Near.f, rValid, rRadius, Option.bind_some]
  by_cases h1 : cOk p0 ∧ cOk p1
  · refine ev_pos (by simpa using h1) ?_
    by_cases h2 : cOk a0 ∧ cOk a1
    · refine ev_pos (by simpa using h2) ?_
      by_cases h3 : cOk b0 ∧ cOk b1
      · refine ev_pos (by simpa using h3) ?_
        by_cases h4 : rOk r
        · rw [decide_eq_true h4]
          exact rnear_j ⟨h1, h2, h3, h4⟩
        · rw [decide_eq_false h4, bad fun h => h4 h.2.2.2]; exact rnear_bad ..
      · refine ev_neg (by simpa using h3) ?_
        rw [bad fun h => h3 h.2.2.1]; exact rnear_bad ..
    · refine ev_neg (by simpa using h2) ?_
      rw [bad fun h => h2 h.2.1]; exact rnear_bad ..
  · refine ev_neg (by simpa using h1) ?_
    rw [bad fun h => h1 h.1]; exact rnear_bad ..
theorem nearV_rev (p0 p1 a0 a1 b0 b1 r : Int) : nearV p0 p1 b0 b1 a0 a1 r = nearV p0 p1 a0 a1 b0 b1 r := by
  unfold nearV
  have := nst_rev (a0 - p0) (a1 - p1) (b0 - a0) (b1 - a1) (r * r)
  rw [show a0 - p0 + (b0 - a0) = b0 - p0 by omega, show a1 - p1 + (b1 - a1) = b1 - p1 by omega, show -(b0 - a0) = a0 - b0 by omega, show -(b1 - a1) = a1 - b1 by omega] at this
  rw [this]
  by_cases h : (cOk p0 ∧ cOk p1) ∧ (cOk a0 ∧ cOk a1) ∧ (cOk b0 ∧ cOk b1) ∧ rOk r
  · rw [if_pos h, if_pos ⟨h.1, h.2.2.1, h.2.1, h.2.2.2⟩]
  · rw [if_neg h, if_neg fun x => h ⟨x.1, x.2.2.1, x.2.1, x.2.2.2⟩]

/-- Whether a moving disc can be: its ends and its radius. -/
def mOk (a0 a1 b0 b1 r : Int) : Prop := (cOk a0 ∧ cOk a1) ∧ (cOk b0 ∧ cOk b1) ∧ rOk r
instance (a0 a1 b0 b1 r : Int) : Decidable (mOk a0 a1 b0 b1 r) := by unfold mOk; exact inferInstance
def touchV (a0 a1 a2 a3 a4 b0 b1 b2 b3 b4 : Int) : Bool × Int :=
  if mOk a0 a1 a2 a3 a4 ∧ mOk b0 b1 b2 b3 b4 then (decide (nst (a0 - b0) (a1 - b1) ((a2 - a0) - (b2 - b0)) ((a3 - a1) - (b3 - b1)) ((a4 + b4) * (a4 + b4)) < 0), 0) else (false, 1)
theorem touch_ev (a0 a1 a2 a3 a4 b0 b1 b2 b3 b4 : Int) : Ev (fun k => geom_Touch.f k a0 a1 a2 a3 a4 b0 b1 b2 b3 b4) (touchV a0 a1 a2 a3 a4 b0 b1 b2 b3 b4) := by
  have v := valid_ev (ps := [(⟨a0, a1⟩ : S23), (⟨a2, a3⟩ : S23), (⟨b0, b1⟩ : S23), (⟨b2, b3⟩ : S23)]) (rs := [a4, b4]) (by simp) (by simp)
  simp only [geom_Touch.f]
  unfold touchV mOk
  by_cases h : ((cOk a0 ∧ cOk a1) ∧ (cOk a2 ∧ cOk a3) ∧ rOk a4) ∧ ((cOk b0 ∧ cOk b1) ∧ (cOk b2 ∧ cOk b3) ∧ rOk b4)
  · rw [if_pos h]
    obtain ⟨⟨⟨p, p'⟩, ⟨a, a'⟩, hr⟩, ⟨⟨q, q'⟩, ⟨b, b'⟩, hs⟩⟩ := h
    refine Ev.bind v (ev_pos (by simp [pOk, p, p', a, a', hr, q, q', b, b', hs]) ?_)
    rw [minus_ok p p' q q', minus_ok a a' p p', minus_ok b b' q q']
    unfold cOk rOk at *
    simp only [Option.bind_some]
    have em : geom_minus.f (a2 - a0) (a3 - a1) (b2 - b0) (b3 - b1) = some ((a2 - a0) - (b2 - b0), (a3 - a1) - (b3 - b1)) := by
      unfold geom_minus.f
      rw [w64 (by omega) (by omega), w64 (by omega) (by omega)]
    rw [em]
    simp only [Option.bind_some]
    have rr := mul_bound (a := a4 + b4) (b := a4 + b4) (m := 65536) (n := 65536) (by omega) (by omega)
    have r0 := Int.mul_nonneg (a := a4 + b4) (b := a4 + b4) (by omega) (by omega)
    rw [w64 (n := a4 + b4) (by omega) (by omega), w64 (n := (a4 + b4) * (a4 + b4)) (by omega) (by omega)]
    exact (nearest_ev (by omega) (by omega) (by omega) (by omega) (by omega) (by omega) (by omega)).bind (ev_now _)
  · rw [if_neg h]
    refine Ev.bind v (ev_neg (fun x => h ?_) (ev_now _))
    simp [pOk] at x
    exact ⟨⟨x.1.1, x.1.2.1, x.2.1⟩, ⟨x.1.2.2.1, x.1.2.2.2, x.2.2⟩⟩
theorem motion_some (a0 a1 a2 a3 a4 : Int) : dancestudioref03_motion.f a0 a1 a2 a3 a4 = some (decide (mOk a0 a1 a2 a3 a4)) := by
  unfold dancestudioref03_motion.f mOk
  rw [rValid, rValid, rRadius]
  by_cases h1 : cOk a0 ∧ cOk a1
  · by_cases h2 : cOk a2 ∧ cOk a3
    · simp [h1, h2]
    · simp [h1, h2]
  · simp [h1]
theorem rtouch_bad (a0 a1 a2 a3 a4 b0 b1 b2 b3 b4 : Int) : Ev (fun k => dancestudioref03_Touch.j0 k true a0 a1 a2 a3 a4 b0 b1 b2 b3 b4) (false, 1) :=
  ev_step (fun k => by simp only [dancestudioref03_Touch.j0] <;> exact rfl) (ev_pos (show true = true from rfl) (ev_now _))
theorem cmp3_neg {a b : Int} : decide (cmp3 a b < 0) = decide (a < b) := by
  rcases cmp3_cases a b with ⟨h, e⟩ | ⟨h, e⟩ | ⟨h, e⟩ <;> rw [e] <;> exact decide_eq_decide.2 (by omega)
theorem rtouch_j1 {r dx dy vx vy : Int} (hr : 0 ≤ r ∧ r ≤ 65536) (h1 : -65536 ≤ dx ∧ dx ≤ 65536) (h2 : -65536 ≤ dy ∧ dy ≤ 65536) (h3 : -131072 ≤ vx ∧ vx ≤ 131072) (h4 : -131072 ≤ vy ∧ vy ≤ 131072) (q : Bool)
    (hq : q = decide (dt dx dy dx dy < r * r ∨ dt (dx + vx) (dy + vy) (dx + vx) (dy + vy) < r * r)) :
    Ev (fun k => dancestudioref03_Touch.j1 k r dx dy vx vy q) (decide (nst dx dy vx vy (r * r) < 0), 0) := by
  have key := nst_touch dx dy vx vy (r * r)
  refine ev_step (fun k => by simp only [dancestudioref03_Touch.j1] <;> exact rfl) ?_
  by_cases hd : dt dx dy dx dy < r * r ∨ dt (dx + vx) (dy + vy) (dx + vx) (dy + vy) < r * r
  · refine ev_pos (by rw [hq]; simpa using hd) ?_
    rw [decide_eq_true (key.2 (by omega))]
    exact ev_now _
  · refine ev_neg (by rw [hq]; simpa using hd) ?_
    have m1 := mul_bound (a := dx) (b := vx) (m := 65536) (n := 131072) (by omega) (by omega)
    have m2 := mul_bound (a := dy) (b := vy) (m := 65536) (n := 131072) (by omega) (by omega)
    have m3 := mul_bound (a := dx) (b := vy) (m := 65536) (n := 131072) (by omega) (by omega)
    have m4 := mul_bound (a := dy) (b := vx) (m := 65536) (n := 131072) (by omega) (by omega)
    have m5 := mul_bound (a := vx) (b := vx) (m := 131072) (n := 131072) (by omega) (by omega)
    have m6 := mul_bound (a := vy) (b := vy) (m := 131072) (n := 131072) (by omega) (by omega)
    have m7 := mul_bound (a := r) (b := r) (m := 65536) (n := 65536) (by omega) (by omega)
    rw [w64 (n := dx * vx) (by omega) (by omega), w64 (n := dy * vy) (by omega) (by omega), w64 (n := dx * vy) (by omega) (by omega), w64 (n := dy * vx) (by omega) (by omega), w64 (n := vx * vx) (by omega) (by omega), w64 (n := vy * vy) (by omega) (by omega), w64 (n := r * r) (by omega) (by omega), w64 (n := dx * vx + dy * vy) (by omega) (by omega), w64 (n := dx * vy - dy * vx) (by omega) (by omega), w64 (n := vx * vx + vy * vy) (by omega) (by omega), w64 (n := -(dx * vx + dy * vy)) (by omega) (by omega)]
    by_cases c1 : -dt dx dy vx vy ≤ 0
    · refine ev_pos c1 ?_
      rw [decide_eq_false fun x => by have := key.1 x; omega]
      exact ev_now _
    · refine ev_neg c1 ?_
      by_cases c2 : -dt dx dy vx vy ≥ dt vx vy vx vy
      · refine ev_pos c2 ?_
        rw [decide_eq_false fun x => by have := key.1 x; omega]
        exact ev_now _
      · refine ev_neg c2 ?_
        have sc := sm_of (a := dx * vy - dy * vx) (by omega) (by omega)
        refine Ev.bind (rcompare_ev sc sc (sm_of (by omega) (by omega)) (sm_of (a := vx * vx + vy * vy) (by omega) (by omega))) (ev_eq (ev_now _) ?_)
        rw [cmp3_neg]
        congr 1
        refine decide_eq_decide.2 ?_
        rw [key]
        constructor
        · intro x; exact Or.inr (Or.inr ⟨by omega, by omega, x⟩)
        · intro x; rcases x with x | x | x
          · exact absurd (Or.inl x) hd
          · exact absurd (Or.inr x) hd
          · exact x.2.2
theorem rtouch_ev (a0 a1 a2 a3 a4 b0 b1 b2 b3 b4 : Int) : Ev (fun k => dancestudioref03_Touch.f k a0 a1 a2 a3 a4 b0 b1 b2 b3 b4) (touchV a0 a1 a2 a3 a4 b0 b1 b2 b3 b4) := by
  have bad : ¬ (mOk a0 a1 a2 a3 a4 ∧ mOk b0 b1 b2 b3 b4) → touchV a0 a1 a2 a3 a4 b0 b1 b2 b3 b4 = (false, 1) := fun h => by unfold touchV; rw [if_neg h]
  simp only [dancestudioref03_Touch.f, motion_some, Option.bind_some]
  by_cases h1 : mOk a0 a1 a2 a3 a4
  · refine ev_pos (by simpa using h1) ?_
    by_cases h2 : mOk b0 b1 b2 b3 b4
    · rw [decide_eq_true h2]
      unfold touchV
      rw [if_pos ⟨h1, h2⟩]
      refine ev_step (fun k => by simp only [dancestudioref03_Touch.j0] <;> exact rfl) (ev_neg (by simp) ?_)
      obtain ⟨⟨p, p'⟩, ⟨a, a'⟩, hr⟩ := h1
      obtain ⟨⟨q, q'⟩, ⟨b, b'⟩, hs⟩ := h2
      rw [sq_dt p p' q q', sq_dt a a' b b']
      unfold cOk rOk at *
      simp only [Option.bind_some]
      have rr := mul_bound (a := a4 + b4) (b := a4 + b4) (m := 65536) (n := 65536) (by omega) (by omega)
      rw [w64 (n := a4 + b4) (by omega) (by omega), w64 (n := (a4 + b4) * (a4 + b4)) (by omega) (by omega), w64 (n := a0 - b0) (by omega) (by omega), w64 (n := a1 - b1) (by omega) (by omega), w64 (n := a2 - b2) (by omega) (by omega), w64 (n := a3 - b3) (by omega) (by omega), w64 (n := a2 - b2 - (a0 - b0)) (by omega) (by omega), w64 (n := a3 - b3 - (a1 - b1)) (by omega) (by omega)]
      have ex : a2 - a0 - (b2 - b0) = a2 - b2 - (a0 - b0) := by omega
      have ey : a3 - a1 - (b3 - b1) = a3 - b3 - (a1 - b1) := by omega
      have fx : a0 - b0 + (a2 - b2 - (a0 - b0)) = a2 - b2 := by omega
      have fy : a1 - b1 + (a3 - b3 - (a1 - b1)) = a3 - b3 := by omega
      rw [ex, ey]
      by_cases c : dt (a0 - b0) (a1 - b1) (a0 - b0) (a1 - b1) < (a4 + b4) * (a4 + b4)
      · refine ev_pos c (rtouch_j1 (by omega) (by omega) (by omega) (by omega) (by omega) _ ?_)
        rw [decide_eq_true (Or.inl c)]
      · refine ev_neg c (rtouch_j1 (by omega) (by omega) (by omega) (by omega) (by omega) _ ?_)
        rw [fx, fy]
        exact decide_eq_decide.2 ⟨Or.inr, fun x => x.elim (fun y => absurd y c) id⟩
    · rw [decide_eq_false h2, bad fun h => h2 h.2]; exact rtouch_bad ..
  · refine ev_neg (by simpa using h1) ?_
    rw [bad fun h => h1 h.1]; exact rtouch_bad ..
theorem touchV_swap (a0 a1 a2 a3 a4 b0 b1 b2 b3 b4 : Int) : touchV b0 b1 b2 b3 b4 a0 a1 a2 a3 a4 = touchV a0 a1 a2 a3 a4 b0 b1 b2 b3 b4 := by
  unfold touchV
  have := nst_neg (a0 - b0) (a1 - b1) ((a2 - a0) - (b2 - b0)) ((a3 - a1) - (b3 - b1)) ((a4 + b4) * (a4 + b4))
  rw [show -(a0 - b0) = b0 - a0 by omega, show -(a1 - b1) = b1 - a1 by omega, show -((a2 - a0) - (b2 - b0)) = (b2 - b0) - (a2 - a0) by omega, show -((a3 - a1) - (b3 - b1)) = (b3 - b1) - (a3 - a1) by omega] at this
  rw [show (b4 + a4) = a4 + b4 by omega, this]
  by_cases h : mOk a0 a1 a2 a3 a4 ∧ mOk b0 b1 b2 b3 b4
  · rw [if_pos h, if_pos h.symm]
  · rw [if_neg h, if_neg fun x => h x.symm]
theorem touchV_rev (a0 a1 a2 a3 a4 b0 b1 b2 b3 b4 : Int) : touchV a2 a3 a0 a1 a4 b2 b3 b0 b1 b4 = touchV a0 a1 a2 a3 a4 b0 b1 b2 b3 b4 := by
  unfold touchV
  have := nst_rev (a0 - b0) (a1 - b1) ((a2 - a0) - (b2 - b0)) ((a3 - a1) - (b3 - b1)) ((a4 + b4) * (a4 + b4))
  rw [show a0 - b0 + ((a2 - a0) - (b2 - b0)) = a2 - b2 by omega, show a1 - b1 + ((a3 - a1) - (b3 - b1)) = a3 - b3 by omega, show -((a2 - a0) - (b2 - b0)) = (a0 - a2) - (b0 - b2) by omega, show -((a3 - a1) - (b3 - b1)) = (a1 - a3) - (b1 - b3) by omega] at this
  rw [this]
  have sy : ∀ x0 x1 x2 x3 x4 : Int, mOk x2 x3 x0 x1 x4 ↔ mOk x0 x1 x2 x3 x4 := by
    intro x0 x1 x2 x3 x4; unfold mOk; exact ⟨fun h => ⟨h.2.1, h.1, h.2.2⟩, fun h => ⟨h.2.1, h.1, h.2.2⟩⟩
  simp only [sy]
end Go.Proofs.Ytmilejcbkpkplaa.PAll
