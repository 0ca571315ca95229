/- RehearseFewer. -/
import Derived.Test.YtjppjppapdflmaaPAllf15
import Derived.Test.YtjppjppapdflmaaPAllf25
import Derived.Test.YtjppjppapdflmaaPAllf8
import Derived.Test.YtjppjppapdflmaaRPg
import Derived.Test.YtjppjppapdflmaaRehSol
import Derived.Test.YtjppjppapdflmaaRehAwake
namespace Go.Proofs.Ytjppjppapdflmaa.PAll
set_option linter.unusedVariables false
set_option linter.unusedSectionVars false
set_option linter.unusedSimpArgs false
open Go Go.RowKit Go.Proofs.YtjppjppapdflmaaW.PrintWords Go.Proofs.YtjppjppapdflmaaW.PrintLast Go.Proofs.YtjppjppapdflmaaW.PrintMore Go.Proofs.Ytjppjppapdflmaa.MathNum Go.Proofs.Ytjppjppapdflmaa.EvWords

theorem awake_out5 : Ev (fun k => (dancestudiolaw50_awake.f k).bind fun t => some t) true := Ev.bind awake_ev (ev_now _)
theorem hl_mk5 {q out : List Int} {t : Tk} {e : Nat} (he : (e : Int) ≤ 32) (s : SolS t e q) (o : Okt t) : Hl (mkS q out) := by
  intro x hx
  obtain ⟨i, hi, rfl⟩ := List.mem_iff_getElem.1 hx
  have hi' : i < t.sc.length := by rw [mkS_len, s.len] at hi; exact hi
  rw [mkS_get]
  have := s.slot i hi'
  have := o.ln i hi'
  show -9223372036854775808 ≤ rd q i ∧ rd q i ≤ 9223372036854775807
  omega
/-- A task that has a plan that ends at e or before: sooner says so. -/
theorem sooner_ev {t : Tk} (hc : Hc t) {e : Nat} {l : List S48} (v : Vld t l) (he : endU t l t.sc.length ≤ e) : Ev (fun k => dancestudiolaw50_sooner.f k t.sc t.ro t.bu t.sl (e : Int)) true := by
  have o := v.ok
  have h32 := o.s2
  unfold dancestudiolaw50_sooner.f dancestudiolaw50_of.f
  refine ev_let (Ev.bind (Plan_ev t hc) ?_)
  rw [show planR t = planO t from if_pos (chk_ok.2 o)]
  rcases plan_cases o with ⟨_, hno⟩ | ⟨e2, q, out, hp, he2, hq, hr, s, r, hleast, hend⟩
  · exact absurd v (hno l)
  · obtain ⟨e3, q3, out3, _, h3, _, _, s3, r3, _⟩ := plan_of_valid v
    have hle : e2 ≤ e := by
      by_cases c : e2 ≤ e3
      · omega
      · exact absurd (hleast e3 (by omega)) (planE_of o s3 r3)
    have v2 := sol_valid o he2 s r
    have ev := End_ev t hc (mkS q out) (hl_mk5 (by omega) s o)
    rw [show endS t (mkS q out) = ((e2 : Int), 0) by unfold endS; rw [if_pos (valid_ok.2 v2), hend]] at ev
    rw [hp]
    refine ev_let (Ev.bind ev (ev_pos rfl (ev_pos rfl (ev_eq (ev_now _) (decide_eq_true (by omega))))))
/-! ### less, or more -/
theorem Hc.mono {t t' : Tk} (hc : Hc t) (h : ∀ s ∈ t'.sc, s ∈ t.sc) : Hc t' := fun s hs => hc s (h s hs)
theorem rd53_take {l : List S53} {m i : Nat} (h : i < m) (hm : m ≤ l.length) : rd_T53 (l.take m) (i : Int) = rd_T53 l i := by
  rw [rd53 _ (show i < (l.take m).length by rw [List.length_take]; omega), rd53 _ (show i < l.length by omega), List.getElem_take]
theorem rd48_take {l : List S48} {m i : Nat} (h : i < m) (hm : m ≤ l.length) : rd_T48 (l.take m) (i : Int) = rd_T48 l i := by
  rw [rd48 _ (show i < (l.take m).length by rw [List.length_take]; omega), rd48 _ (show i < l.length by omega), List.getElem_take]
theorem endU_congr {t t' : Tk} {l l' : List S48} : ∀ n : Nat, (∀ i, i < n → st l i = st l' i ∧ slAt t i = slAt t' i) → endU t l n = endU t' l' n
 | 0, _ => rfl
 | n + 1, h => by
  unfold endU
  rw [endU_congr n (fun i hi => h i (by omega)), (h n (by omega)).1, (h n (by omega)).2]
theorem endU_mono {t : Tk} {l : List S48} : ∀ {n m : Nat}, n ≤ m → endU t l n ≤ endU t l m := fun {n m} h =>
  endU_of (endU_nn m) n (fun i hi => endU_le m i (by omega))
/-- Without the last scene. -/
theorem fewer_sc {t : Tk} {l : List S48} (v : Vld t l) {m : Nat} (hm : m ≤ t.sc.length) : Vld ⟨t.sc.take m, t.ro, t.bu, t.sl⟩ (l.take m) ∧ endU ⟨t.sc.take m, t.ro, t.bu, t.sl⟩ (l.take m) (t.sc.take m).length ≤ endU t l t.sc.length := by
  have o := v.ok
  have hl := v.len
  have tl : (t.sc.take m).length = m := by rw [List.length_take]; omega
  have eq : ∀ i, i < m → rd_T53 (t.sc.take m) (i : Int) = rd_T53 t.sc i := fun i hi => rd53_take hi hm
  have eq8 : ∀ i, i < m → rd_T48 (l.take m) (i : Int) = rd_T48 l i := fun i hi => rd48_take hi (by omega)
  have cs : ∀ i, i < m → castAt ⟨t.sc.take m, t.ro, t.bu, t.sl⟩ i = castAt t i := fun i hi => by unfold castAt; rw [eq i hi]
  have ss : ∀ i, i < m → slAt ⟨t.sc.take m, t.ro, t.bu, t.sl⟩ i = slAt t i := fun i hi => by unfold slAt; rw [eq i hi]
  have sts : ∀ i, i < m → st (l.take m) i = st l i := fun i hi => by unfold st; rw [eq8 i hi]
  have rms : ∀ i, i < m → rm (l.take m) i = rm l i := fun i hi => by unfold rm; rw [eq8 i hi]
  have o' : Okt ⟨t.sc.take m, t.ro, t.bu, t.sl⟩ := by
    refine ⟨o.s1, o.s2, by show (t.sc.take m).length ≤ 10; rw [tl]; have := o.n; omega, fun i hi => ?_, fun i hi => ?_, fun i hi => ?_, fun i hi => ?_, fun i hi => ?_, o.r1, o.r4, o.sz, o.bn, o.bu⟩ <;>
      (have hi' : i < m := by (have hi2 : i < (t.sc.take m).length := hi); omega)
    · show nameOk (rd_T53 (t.sc.take m) i).f0.data.toList
      rw [eq i hi']; exact o.nm i (by omega)
    · rw [ss i hi']; exact o.ln i (by omega)
    · rw [cs i hi']; exact o.ne i (by omega)
    · rw [cs i hi']; exact o.rg i (by omega)
    · rw [cs i hi']; exact o.nd i (by omega)
  have lt : ∀ i, i < (Tk.mk (t.sc.take m) t.ro t.bu t.sl).sc.length → i < m := fun i hi => by (have hi2 : i < (t.sc.take m).length := hi); omega
  have mt : ∀ i k, i < m → k < m → ∀ a b, meetB ⟨t.sc.take m, t.ro, t.bu, t.sl⟩ i a k b = meetB t i a k b := fun i k hi hk a b => by unfold meetB; rw [ss i hi, ss k hk]
  refine ⟨⟨o', by show (l.take m).length = (t.sc.take m).length; rw [List.length_take, List.length_take, hl], fun i hi => ?_, fun i hi => ?_, fun i hi => ?_, fun i hi => ?_, fun h => ?_, fun h => ?_⟩, ?_⟩
  · have hi' := lt i hi
    unfold scn; rw [eq8 i hi']; exact v.form i (by omega)
  · have hi' := lt i hi
    rw [rms i hi']
    have := v.room i (by omega)
    refine ⟨this.1, this.2.1, ?_⟩
    have h3 := this.2.2
    unfold fitsB at h3 ⊢
    rw [cs i hi']; exact h3
  · have hi' := lt i hi
    rw [sts i hi', ss i hi']; exact v.slot i (by omega)
  · have hi' := lt i hi
    rw [sts i hi']
    have := v.away i (by omega)
    unfold awayB at this ⊢
    rw [cs i hi', ss i hi']; exact this
  · obtain ⟨a, b, h1, h2, h3, h4⟩ := some2_first.1 h
    have ha := lt a h2
    rw [sts a ha, sts b (by omega), mt a b ha (by omega)] at h3
    rw [rms a ha, rms b (by omega)] at h4
    exact v.nrc (some2_first.2 ⟨a, b, h1, by omega, h3, h4⟩)
  · obtain ⟨a, b, h1, h2, h3, h4⟩ := some2_first.1 h
    have ha := lt a h2
    rw [sts a ha, sts b (by omega), mt a b ha (by omega)] at h3
    refine v.ncc (some2_first.2 ⟨a, b, h1, by omega, h3, ?_⟩)
    unfold shareB at h4 ⊢
    rw [cs a ha, cs b (by omega)] at h4; exact h4
  · rw [tl, endU_congr (t' := t) (l' := l) m (fun i hi => ⟨sts i hi, ss i hi⟩)]
    exact endU_mono hm
/-- Without the last element of Busy. -/
theorem fewer_bu {t : Tk} {l : List S48} (v : Vld t l) (m : Nat) : Vld ⟨t.sc, t.ro, t.bu.take m, t.sl⟩ l ∧ endU ⟨t.sc, t.ro, t.bu.take m, t.sl⟩ l t.sc.length = endU t l t.sc.length := by
  have o := v.ok
  refine ⟨⟨⟨o.s1, o.s2, o.n, o.nm, o.ln, o.ne, o.rg, o.nd, o.r1, o.r4, o.sz, ?_, fun i hi => ?_⟩, v.len, v.form, v.room, v.slot, fun i hi => ?_, v.nrc, v.ncc⟩, endU_congr _ (fun i _ => ⟨rfl, rfl⟩)⟩
  · show (t.bu.take m).length ≤ 512
    rw [List.length_take]; have := o.bn; omega
  · have hi2 : i < (t.bu.take m).length := hi
    rw [List.length_take] at hi2
    show ¬ badB (rd_T59 (t.bu.take m) i) t.sl
    rw [rd59 _ hi, List.getElem_take]
    have := o.bu i (by omega)
    rwa [rd59 _ (show i < t.bu.length by omega)] at this
  · have h := v.away i hi
    unfold awayB at h ⊢
    rw [List.any_eq_false] at h ⊢
    exact fun b hb => h b (List.mem_of_mem_take hb)
/-- With one more room. -/
theorem more_ro {t : Tk} {l : List S48} (v : Vld t l) (h4 : t.ro.length < 4) : Vld ⟨t.sc, t.ro ++ [⟨1⟩], t.bu, t.sl⟩ l ∧ endU ⟨t.sc, t.ro ++ [⟨1⟩], t.bu, t.sl⟩ l t.sc.length = endU t l t.sc.length := by
  have o := v.ok
  have ll : (t.ro ++ [(⟨1⟩ : S55)]).length = t.ro.length + 1 := by rw [List.length_append, List.length_singleton]
  have old : ∀ r, r < t.ro.length → rd_T55 (t.ro ++ [(⟨1⟩ : S55)]) (r : Int) = rd_T55 t.ro r := fun r hr => by
    rw [rd55 _ (show r < (t.ro ++ [(⟨1⟩ : S55)]).length by omega), rd55 _ hr, List.getElem_append_left hr]
  refine ⟨⟨⟨o.s1, o.s2, o.n, o.nm, o.ln, o.ne, o.rg, o.nd, by show 1 ≤ (t.ro ++ [(⟨1⟩ : S55)]).length; omega, by show (t.ro ++ [(⟨1⟩ : S55)]).length ≤ 4; omega, fun r hr => ?_, o.bn, o.bu⟩, v.len, v.form, fun i hi => ?_, v.slot, v.away, v.nrc, v.ncc⟩, endU_congr _ (fun i _ => ⟨rfl, rfl⟩)⟩
  · have hr2 : r < (t.ro ++ [(⟨1⟩ : S55)]).length := hr
    show 1 ≤ (rd_T55 (t.ro ++ [(⟨1⟩ : S55)]) r).f0 ∧ (rd_T55 (t.ro ++ [(⟨1⟩ : S55)]) r).f0 ≤ 24
    by_cases c : r < t.ro.length
    · rw [old r c]; exact o.sz r c
    · obtain rfl : r = t.ro.length := by omega
      rw [rd55 _ hr2]; simp
  · obtain ⟨a, b, c⟩ := v.room i hi
    refine ⟨a, by show rm l i < ((t.ro ++ [(⟨1⟩ : S55)]).length : Int); omega, ?_⟩
    unfold fitsB szAt at c ⊢
    rw [old _ (by omega)]; exact c
def tail3 (A B C : Nat → Option Bool) (k : Nat) : Option Bool := (A k).bind fun t1 => if t1 = true then (B k).bind fun t2 => if t2 = true then (C k).bind fun t3 => if t3 = true then (dancestudiolaw50_awake.f k).bind fun t4 => some t4 else none else none else none
theorem fewer_ev (t : Tk) (hc : Hc t) : Ev (fun k => dancestudiolaw50_RehearseFewer.f k t.sc t.ro t.bu t.sl) true := by
  unfold dancestudiolaw50_RehearseFewer.f
  obtain ⟨b, hb⟩ : ∃ b, dancestudiolaw50_small.f t.sc t.ro t.bu t.sl = some b := by
    unfold dancestudiolaw50_small.f
    by_cases h1 : (t.sc.length : Int) ≤ 4
    · rw [if_pos h1]
      by_cases h2 : t.sl ≤ 6
      · rw [if_pos h2]; exact ⟨_, rfl⟩
      · rw [if_neg h2]; exact ⟨_, rfl⟩
    · rw [if_neg h1]; exact ⟨_, rfl⟩
  rw [hb]
  refine ev_let ?_
  cases b with
  | false => exact ev_neg (by simp) awake_out5
  | true =>
    refine ev_pos (c := true = true) rfl ?_
    unfold dancestudiolaw50_of.f
    refine ev_let (Ev.bind (Plan_ev t hc) ?_)
    by_cases h : chkT t = 0
    · have o := chk_ok.1 h
      have h32 := o.s2; have hn := o.n; have hbn := o.bn
      rw [show planR t = planO t from if_pos h]
      rcases plan_cases o with ⟨hp, _⟩ | ⟨e, q, out, hp, he, hq, hr, s, r, hleast, hend⟩
      · rw [hp]; exact ev_neg (by simp) awake_out5
      · rw [hp]
        have v := sol_valid o he s r
        have ev := End_ev t hc (mkS q out) (hl_mk5 (by omega) s o)
        rw [show endS t (mkS q out) = ((e : Int), 0) by unfold endS; rw [if_pos (valid_ok.2 v), hend]] at ev
        refine ev_pos rfl (ev_let (Ev.bind ev (ev_pos rfl ?_)))
        have base := sooner_ev hc v (e := e) (by omega)
        have hA : Ev (fun k => dancestudiolaw50_sooner.f k (t.sc.take (t.sc.length - 1)) t.ro t.bu t.sl (e : Int)) true := by
          obtain ⟨v2, h2⟩ := fewer_sc v (m := t.sc.length - 1) (by omega)
          exact sooner_ev (t := ⟨t.sc.take (t.sc.length - 1), t.ro, t.bu, t.sl⟩) (hc.mono fun s hs => List.mem_of_mem_take hs) v2 (by rw [hend] at h2; exact h2)
        have hB : Ev (fun k => dancestudiolaw50_sooner.f k t.sc t.ro (t.bu.take (t.bu.length - 1)) t.sl (e : Int)) true := by
          obtain ⟨v2, h2⟩ := fewer_bu v (t.bu.length - 1)
          exact sooner_ev (t := ⟨t.sc, t.ro, t.bu.take (t.bu.length - 1), t.sl⟩) hc v2 (by show endU _ _ t.sc.length ≤ _; rw [h2, hend]; exact Int.le_refl _)
        have hC : t.ro.length < 4 → Ev (fun k => dancestudiolaw50_sooner.f k t.sc (t.ro ++ [⟨1⟩]) t.bu t.sl (e : Int)) true := fun h4 => by
          obtain ⟨v2, h2⟩ := more_ro v h4
          exact sooner_ev (t := ⟨t.sc, t.ro ++ [⟨1⟩], t.bu, t.sl⟩) hc v2 (by show endU _ _ t.sc.length ≤ _; rw [h2, hend]; exact Int.le_refl _)
        have tail : ∀ {A B C : Nat → Option Bool}, Ev A true → Ev B true → Ev C true → Ev (fun k => (A k).bind fun t1 => if t1 = true then (B k).bind fun t2 => if t2 = true then (C k).bind fun t3 => if t3 = true then (dancestudiolaw50_awake.f k).bind fun t4 => some t4 else none else none else none) true := fun a b c =>
          Ev.bind a (ev_pos (c := true = true) rfl (Ev.bind b (ev_pos (c := true = true) rfl (Ev.bind c (ev_pos (c := true = true) rfl awake_out5)))))
        have w1 : t.sc.length > 0 → wrap64 ((t.sc.length : Int) - 1) = ((t.sc.length - 1 : Nat) : Int) := fun g => by rw [w64 (by omega) (by omega)]; omega
        have w2 : t.bu.length > 0 → wrap64 ((t.bu.length : Int) - 1) = ((t.bu.length - 1 : Nat) : Int) := fun g => by rw [w64 (by omega) (by omega)]; omega
        have rooms : ∀ {X : Nat → Option Bool} {Y : List S55 → Nat → Option Bool}, (¬ t.ro.length < 4 → Ev X true) → (t.ro.length < 4 → Ev (Y (t.ro ++ [⟨1⟩])) true) →
            Ev (fun k => if (t.ro.length : Int) < 4 then ((some (([] : List (S55)) : List (S55))).bind fun y => (if y.length + t.ro.length < 17592186044416 then ((some (y ++ t.ro : List (S55))).bind fun y2 => (if y2.length < 17592186044416 then (Y (y2 ++ [⟨1⟩]) k) else none)) else none)) else X k) true := fun hx hy => by
          by_cases g : t.ro.length < 4
          · refine ev_pos (by omega) (ev_let (ev_pos (by simp; omega) (ev_let (ev_pos (by rw [List.nil_append]; omega) ?_))))
            rw [List.nil_append]; exact hy g
          · exact ev_neg (by omega) (hx g)
        by_cases g1 : t.sc.length > 0
        · refine ev_pos (by omega) ?_
          rw [w1 g1]
          refine ev_pos (by omega) (ev_pos (by omega) (ev_let ?_))
          rw [Int.toNat_natCast]
          by_cases g2 : t.bu.length > 0
          · refine ev_pos (by omega) ?_
            rw [w2 g2]
            refine ev_pos (by omega) (ev_pos (by omega) (ev_let ?_))
            rw [Int.toNat_natCast]
            exact rooms (Y := fun c => tail3 (fun k => dancestudiolaw50_sooner.f k (t.sc.take (t.sc.length - 1)) t.ro t.bu t.sl (e : Int)) (fun k => dancestudiolaw50_sooner.f k t.sc t.ro (t.bu.take (t.bu.length - 1)) t.sl (e : Int)) (fun k => dancestudiolaw50_sooner.f k t.sc c t.bu t.sl (e : Int))) (fun _ => tail hA hB base) (fun g => tail hA hB (hC g))
          · exact ev_neg (by omega) (rooms (Y := fun c => tail3 (fun k => dancestudiolaw50_sooner.f k (t.sc.take (t.sc.length - 1)) t.ro t.bu t.sl (e : Int)) (fun k => dancestudiolaw50_sooner.f k t.sc t.ro (t.bu) t.sl (e : Int)) (fun k => dancestudiolaw50_sooner.f k t.sc c t.bu t.sl (e : Int))) (fun _ => tail hA base base) (fun g => tail hA base (hC g)))
        · refine ev_neg (by omega) ?_
          by_cases g2 : t.bu.length > 0
          · refine ev_pos (by omega) ?_
            rw [w2 g2]
            refine ev_pos (by omega) (ev_pos (by omega) (ev_let ?_))
            rw [Int.toNat_natCast]
            exact rooms (Y := fun c => tail3 (fun k => dancestudiolaw50_sooner.f k (t.sc) t.ro t.bu t.sl (e : Int)) (fun k => dancestudiolaw50_sooner.f k t.sc t.ro (t.bu.take (t.bu.length - 1)) t.sl (e : Int)) (fun k => dancestudiolaw50_sooner.f k t.sc c t.bu t.sl (e : Int))) (fun _ => tail base hB base) (fun g => tail base hB (hC g))
          · exact ev_neg (by omega) (rooms (Y := fun c => tail3 (fun k => dancestudiolaw50_sooner.f k (t.sc) t.ro t.bu t.sl (e : Int)) (fun k => dancestudiolaw50_sooner.f k t.sc t.ro (t.bu) t.sl (e : Int)) (fun k => dancestudiolaw50_sooner.f k t.sc c t.bu t.sl (e : Int))) (fun _ => tail base base base) (fun g => tail base base (hC g)))
    · rw [show planR t = ([], chkT t) from if_neg h]
      exact ev_neg h awake_out5
theorem pure_RehearseFewer (t : Tk) (hs : t.sc.length ≤ maxLen ∧ Hc t) (_ : t.ro.length ≤ maxLen) (_ : t.bu.length ≤ maxLen) (_ : -9223372036854775808 ≤ t.sl ∧ t.sl ≤ 9223372036854775807) : ∃ k, dancestudiolaw50_RehearseFewer.f k t.sc t.ro t.bu t.sl = some true :=
  ev_some (fewer_ev t hs.2)
end Go.Proofs.Ytjppjppapdflmaa.PAll
