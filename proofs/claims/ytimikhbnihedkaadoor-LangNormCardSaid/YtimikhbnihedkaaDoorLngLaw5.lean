/- Normal forms: the same length and names, their own normal forms (plain). -/
import Derived.Test.YtimikhbnihedkaaDoorLngChain
import Derived.Test.YtimikhbnihedkaaDoorLngLong
import Derived.Test.YtimikhbnihedkaaDoorPAllf7
namespace Go.Proofs.YtimikhbnihedkaaDoor.PAll
set_option linter.unusedVariables false
set_option linter.unusedSectionVars false
set_option linter.unusedSimpArgs false
open Go Go.RowKit Go.Proofs.YtimikhbnihedkaaDoorW.PrintWords Go.Proofs.YtimikhbnihedkaaDoorW.PrintLast Go.Proofs.YtimikhbnihedkaaDoorW.PrintMore Go.Proofs.YtimikhbnihedkaaDoor.MathNum Go.Proofs.YtimikhbnihedkaaDoor.EvWords

/-! ### names -/
theorem und_f0 (s : S43) (x : S63) : (undL s x).f0 = x.f0 := by
  unfold undL
  (repeat' split) <;> rfl
theorem rep_mem {n : Nat} (hn : 1 ≤ n) {l : List S63} {x : S63} : x ∈ repL n l ↔ x ∈ l := by
  refine ⟨repL_mem, fun h => ?_⟩
  obtain ⟨m, rfl⟩ : ∃ m, n = m + 1 := ⟨n - 1, by omega⟩
  exact List.mem_append_left _ h
theorem r7_mem {s : S43} (hs : isOp s) {l : List S63} {x : S63} : x ∈ rep7 s (rev4 s l) ↔ x ∈ l := by
  have h4 : x ∈ rev4 s l ↔ x ∈ l := by unfold rev4; split <;> simp
  rw [← h4]
  unfold rep7
  by_cases h7 : s.f0 = 7
  · have hr := hs.2.2.2.1.2.1 (.inr h7)
    rw [if_pos h7]; exact rep_mem (by omega)
  · rw [if_neg h7]
theorem finL_eq {s : S43} {l : List S63} (h : (finL s l).2 = true) : (finL s l).1 = (rep7 s (rev4 s l)).map (undL s) := by
  unfold finL at h ⊢
  by_cases h7 : s.f0 = 7 ∧ (l.length : Int) * s.f2 > 64
  · rw [if_pos h7] at h; cases h
  rw [if_neg h7] at h ⊢
  unfold endL at h ⊢
  by_cases ho : ovr s (rep7 s (rev4 s l)) = true
  · rw [if_pos ho] at h; cases h
  · rw [if_neg ho]
theorem fin_names {s : S43} (hs : isOp s) {l : List S63} (h : (finL s l).2 = true) (y : ByteArray) : (∃ x, x ∈ (finL s l).1 ∧ x.f0 = y) ↔ ∃ x, x ∈ l ∧ x.f0 = y := by
  rw [finL_eq h]
  constructor
  · rintro ⟨x, hx, rfl⟩
    obtain ⟨z, hz, rfl⟩ := List.mem_map.1 hx
    exact ⟨z, (r7_mem hs).1 hz, (und_f0 s z).symm⟩
  · rintro ⟨x, hx, rfl⟩
    exact ⟨undL s x, List.mem_map.2 ⟨x, (r7_mem hs).2 hx, rfl⟩, und_f0 s x⟩
theorem node_true {s : S43} (h1 : ¬ s.f0 = 1) {cs : List (List S63 × Bool)} (h : (nodeL s cs).2 = true) : cs.all (·.2) = true ∧ (finL s (catL cs)).2 = true ∧ nodeL s cs = finL s (catL cs) := by
  unfold nodeL at h ⊢
  rw [if_neg h1] at h ⊢
  by_cases ha : cs.all (·.2) = true
  · rw [if_pos ha] at h ⊢; exact ⟨ha, h, rfl⟩
  · rw [if_neg ha] at h; cases h
theorem node_names {s : S43} {k : Fo} (hs : ndE s = 0) (ih : k.lvs.all (·.2) = true → ∀ y, (∃ x, x ∈ catL k.lvs ∧ x.f0 = y) ↔ ∃ t, t ∈ k.flat ∧ t.f0 = 1 ∧ t.f1 = y) (hk1 : s.f0 = 1 → k.flat = []) (h : (nodeL s k.lvs).2 = true) (y : ByteArray) :
    (∃ x, x ∈ (nodeL s k.lvs).1 ∧ x.f0 = y) ↔ ∃ t, t ∈ s :: k.flat ∧ t.f0 = 1 ∧ t.f1 = y := by
  by_cases h1 : s.f0 = 1
  · have e : nodeL s k.lvs = ([⟨s.f1, 0, false, false, 1⟩], true) := if_pos h1
    rw [e, hk1 h1]
    constructor
    · rintro ⟨x, hx, rfl⟩
      rw [List.mem_singleton.1 hx]
      exact ⟨s, by simp, h1, rfl⟩
    · rintro ⟨t, ht, _, rfl⟩
      rw [List.mem_singleton.1 ht]
      exact ⟨_, List.mem_singleton.2 rfl, rfl⟩
  · obtain ⟨n1, n2, n3⟩ := node_true h1 h
    have hop : isOp s := (ndE_iff.1 hs).resolve_left (fun q => h1 q.1)
    rw [n3, fin_names hop n2 y, ih n1 y]
    constructor
    · rintro ⟨t, ht, q⟩; exact ⟨t, by simp [ht], q⟩
    · rintro ⟨t, ht, q1, q2⟩
      rcases List.mem_cons.1 ht with rfl | ht
      · exact absurd q1 h1
      · exact ⟨t, ht, q1, q2⟩
theorem name_leaf {s : S43} {k : Fo} (hs : ndE s = 0) (h3 : s.f3 = (k.count : Int)) (h1 : s.f0 = 1) : k.flat = [] := by
  have hc : k.count = 0 := by
    rcases ndE_iff.1 hs with h | h
    · have := h.2.2.2; omega
    · have := h.1; omega
  cases k with
  | nil => rfl
  | cons _ _ _ => simp only [Fo.count] at hc; omega
theorem Fo.names : ∀ f : Fo, f.ok → f.nds → f.lvs.all (·.2) = true → ∀ y, (∃ x, x ∈ catL f.lvs ∧ x.f0 = y) ↔ ∃ t, t ∈ f.flat ∧ t.f0 = 1 ∧ t.f1 = y
  | .nil, _, _, _, y => by simp [Fo.lvs, catL, Fo.flat]
  | .cons s k r, ho, hn, ha, y => by
    obtain ⟨h3, hk, hr⟩ := ho
    obtain ⟨hs, hkn, hrn⟩ := Fo.nds_cons hn
    simp only [Fo.lvs, List.all_cons, Bool.and_eq_true] at ha
    have i1 := node_names hs (Fo.names k hk hkn) (name_leaf hs h3) ha.1 y
    have i2 := Fo.names r hr hrn ha.2 y
    have ec : catL (Fo.cons s k r).lvs = (nodeL s k.lvs).1 ++ catL r.lvs := by simp [Fo.lvs, catL]
    have ef : (Fo.cons s k r).flat = (s :: k.flat) ++ r.flat := by simp [Fo.flat]
    rw [ec, ef]
    constructor
    · rintro ⟨x, hx, q⟩
      rcases List.mem_append.1 hx with hx | hx
      · obtain ⟨t, ht, q'⟩ := i1.1 ⟨x, hx, q⟩; exact ⟨t, List.mem_append_left _ ht, q'⟩
      · obtain ⟨t, ht, q'⟩ := i2.1 ⟨x, hx, q⟩; exact ⟨t, List.mem_append_right _ ht, q'⟩
    · rintro ⟨t, ht, q⟩
      rcases List.mem_append.1 ht with ht | ht
      · obtain ⟨x, hx, q'⟩ := i1.2 ⟨t, ht, q⟩; exact ⟨x, List.mem_append_left _ hx, q'⟩
      · obtain ⟨x, hx, q'⟩ := i2.2 ⟨t, ht, q⟩; exact ⟨x, List.mem_append_right _ hx, q'⟩
theorem tree_names {s : S43} {k : Fo} (hk : k.ok) (h3 : s.f3 = (k.count : Int)) (hs : ndE s = 0) (hkn : k.nds) (h : (nodeL s k.lvs).2 = true) (y : ByteArray) :
    y ∈ namesT (s :: k.flat) [] ↔ ∃ x, x ∈ (nodeL s k.lvs).1 ∧ x.f0 = y := by
  rw [node_names hs (Fo.names k hk hkn) (name_leaf hs h3) h y, namesT_mem]
  simp
theorem namesT_nodup : ∀ (l : List S43) (acc : List ByteArray), acc.Nodup → (namesT l acc).Nodup
  | [], acc, h => h
  | s :: l, acc, h => by
    simp only [namesT]
    split
    · split
      · exact namesT_nodup l acc h
      · rename_i q
        refine namesT_nodup l _ ?_
        rw [List.nodup_append]
        refine ⟨h, by simp, fun a ha b hb e => q ?_⟩
        rw [List.mem_singleton.1 hb] at e
        rw [idxI_mem, ← e]; exact ha
    · exact namesT_nodup l acc h
theorem nodup_le {α : Type} [DecidableEq α] : ∀ {a b : List α}, a.Nodup → (∀ x, x ∈ a → x ∈ b) → a.length ≤ b.length
  | [], b, _, _ => by simp
  | x :: a, b, h, hs => by
    rw [List.nodup_cons] at h
    have hx := hs x (by simp)
    have := nodup_le (a := a) (b := b.erase x) h.2 (fun y hy => (List.mem_erase_of_ne (fun (q : y = x) => h.1 (by rw [← q]; exact hy))).2 (hs y (by simp [hy])))
    rw [List.length_erase_of_mem hx] at this
    have : 1 ≤ b.length := List.length_pos_of_mem hx
    simp only [List.length_cons]; omega
/-! ### lengths -/
section
variable (nms : List ByteArray) (len : List Int)
def wtL : List S63 → Int
  | [] => 0
  | x :: l => nmV nms len x.f0 * x.f4 + wtL l
theorem wtL_app : ∀ (a b : List S63), wtL nms len (a ++ b) = wtL nms len a + wtL nms len b
  | [], b => by simp [wtL]
  | x :: a, b => by rw [List.cons_append, wtL, wtL, wtL_app a b]; omega
theorem wtL_rev : ∀ (a : List S63), wtL nms len a.reverse = wtL nms len a
  | [] => rfl
  | x :: a => by rw [List.reverse_cons, wtL_app, wtL_rev a, wtL, wtL, wtL]; omega
theorem wtL_rep : ∀ (n : Nat) (a : List S63), wtL nms len (repL n a) = (n : Int) * wtL nms len a
  | 0, a => by simp [repL, wtL]
  | n + 1, a => by rw [repL, wtL_app, wtL_rep n a, Int.natCast_add, Int.add_mul]; omega
theorem wtL_und (s : S43) : ∀ (l : List S63), wtL nms len (l.map (undL s)) = wtL nms len l * (if s.f0 = 6 then s.f2 else 1)
  | [] => by simp [wtL]
  | x :: l => by
    rw [List.map_cons, wtL, wtL, wtL_und s l, und_f0, und_f4]
    by_cases h : s.f0 = 6
    · rw [if_pos h, if_pos h, Int.add_mul, Int.mul_assoc]
    · rw [if_neg h, if_neg h, Int.mul_one, Int.mul_one]
theorem wtL_nonneg : ∀ (l : List S63), (∀ x, x ∈ l → Inv x) → (∀ x, x ∈ l → okL nms len x.f0 = 0) → 0 ≤ wtL nms len l
  | [], _, _ => Int.le_refl _
  | x :: l, hi, ho => by
    have h1 := wtL_nonneg l (fun y hy => hi y (by simp [hy])) (fun y hy => ho y (by simp [hy]))
    have h2 := okL_zero nms len (ho x (by simp))
    have h3 := (hi x (by simp)).2.2.2.1
    have : 0 ≤ nmV nms len x.f0 * x.f4 := Int.mul_nonneg (by omega) (by omega)
    rw [wtL]; omega
theorem wt_fin {s : S43} (hs : isOp s) {l : List S63} (h : (finL s l).2 = true) : wtL nms len (finL s l).1 = wtL nms len l * mulS s := by
  rw [finL_eq h, wtL_und]
  have e4 : wtL nms len (rev4 s l) = wtL nms len l := by
    unfold rev4
    split
    · exact wtL_rev nms len l
    · rfl
  unfold rep7 mulS
  by_cases h7 : s.f0 = 7
  · have hr := hs.2.2.2.1.2.1 (.inr h7)
    rw [if_pos h7, if_neg (by omega), if_pos (.inr h7), wtL_rep, e4, Int.mul_one, Int.mul_comm, show ((s.f2.toNat : Nat) : Int) = s.f2 by omega]
  · rw [if_neg h7, e4]
    by_cases h6 : s.f0 = 6
    · rw [if_pos h6, if_pos (.inl h6)]
    · rw [if_neg h6, if_neg (by omega)]
theorem mn_add {a b c d : Int} (ha : 0 ≤ a) (hb : 0 ≤ b) (hc : 0 ≤ c) (hd : 0 ≤ d) (h1 : mn a 8193 = mn c 8193) (h2 : mn b 8193 = mn d 8193) : mn (a + b) 8193 = mn (c + d) 8193 := by
  unfold mn at *
  (repeat' split at h1) <;> (repeat' split at h2) <;> (repeat' split) <;> omega
theorem mn_mn (a : Int) : mn (mn a 8193) 8193 = mn a 8193 := by
  unfold mn
  (repeat' split) <;> omega
def TW (t : Int) (v : List S63 × Bool) : Prop := v.2 = true → t = mn (wtL nms len v.1) 8193
theorem node_wt {s : S43} {k : Fo} (hk : k.ok) (hs : ndE s = 0) (hkn : k.nds) (h3 : s.f3 = (k.count : Int)) (ho : (s.f0 = 1 → okL nms len s.f1 = 0) ∧ k.nok nms len)
    (ih : k.lvs.all (·.2) = true → mn (sumI (k.tks nms len)) 8193 = mn (wtL nms len (catL k.lvs)) 8193) : TW nms len (nodeK nms len s (k.tks nms len)) (nodeL s k.lvs) := by
  intro h
  by_cases h1 : s.f0 = 1
  · have e : nodeL s k.lvs = ([⟨s.f1, 0, false, false, 1⟩], true) := if_pos h1
    have hz := okL_zero nms len (ho.1 h1)
    unfold nodeK
    rw [if_pos h1, e]
    show nmV nms len s.f1 = mn (nmV nms len s.f1 * 1 + 0) 8193
    rw [Int.mul_one, Int.add_zero]
    unfold mn; rw [if_neg (by omega)]
  · obtain ⟨n1, n2, n3⟩ := node_true h1 h
    have hop : isOp s := (ndE_iff.1 hs).resolve_left (fun q => h1 q.1)
    have hr := Fo.tks_range nms len k hkn ho.2
    have hsm := sumI_range _ hr
    have hmu := mulS_range hs
    have hg := catL_good (Fo.lvs_good k hk hkn) n1
    have hw := wtL_nonneg nms len (catL k.lvs) hg.1 (fun x hx => by
      obtain ⟨t, ht, q1, q2⟩ := (Fo.names k hk hkn n1 x.f0).1 ⟨x, hx, rfl⟩
      rw [← q2]; exact ho.2 t ht q1)
    unfold nodeK
    rw [if_neg h1, n3, wt_fin nms len hop n2, ← mn_mul hsm.1 hmu.1, ih n1, mn_mul hw hmu.1]
theorem Fo.wt : ∀ f : Fo, f.ok → f.nds → f.nok nms len → f.lvs.all (·.2) = true → mn (sumI (f.tks nms len)) 8193 = mn (wtL nms len (catL f.lvs)) 8193
  | .nil, _, _, _, _ => rfl
  | .cons s k r, ho, hn, hx, ha => by
    obtain ⟨h3, hk, hr⟩ := ho
    obtain ⟨hs, hkn, hrn⟩ := Fo.nds_cons hn
    obtain ⟨x1, x2, x3⟩ := Fo.nok_cons nms len hx
    have ha' := ha
    simp only [Fo.lvs, List.all_cons, Bool.and_eq_true] at ha
    have e1 := node_wt nms len hk hs hkn h3 ⟨x1, x2⟩ (Fo.wt k hk hkn x2) ha.1
    have e2 := Fo.wt r hr hrn x3 ha.2
    have ec : catL (Fo.cons s k r).lvs = (nodeL s k.lvs).1 ++ catL r.lvs := by simp [Fo.lvs, catL]
    have hg := catL_good (Fo.lvs_good (.cons s k r) ⟨h3, hk, hr⟩ hn) ha'
    rw [ec] at hg
    have hnn : ∀ x, x ∈ (nodeL s k.lvs).1 ++ catL r.lvs → okL nms len x.f0 = 0 := fun x hx' => by
      rw [← ec] at hx'
      obtain ⟨t, ht, q1, q2⟩ := (Fo.names (.cons s k r) ⟨h3, hk, hr⟩ hn ha' x.f0).1 ⟨x, hx', rfl⟩
      rw [← q2]; exact hx t ht q1
    have hr0 := sumI_range _ (Fo.tks_range nms len r hrn x3)
    have hk0 := Fo.tks_range nms len (.cons s k r) hn hx (nodeK nms len s (k.tks nms len)) (by simp only [Fo.tks, List.mem_cons, true_or])
    rw [ec, wtL_app]
    simp only [Fo.tks, sumI]
    refine mn_add hk0.1 hr0.1 (wtL_nonneg nms len _ (fun x q => hg.1 x (List.mem_append_left _ q)) (fun x q => hnn x (List.mem_append_left _ q))) (wtL_nonneg nms len _ (fun x q => hg.1 x (List.mem_append_right _ q)) (fun x q => hnn x (List.mem_append_right _ q))) ?_ e2
    rw [e1, mn_mn]
theorem lnT_ok {used : List ByteArray} {fin : Int × Int} (h : ∀ y, y ∈ used → okL nms len y = 0) : lnT nms len used fin = fin := by
  induction used with
  | nil => rfl
  | cons y l ih => rw [lnT, if_pos (h y (by simp)), ih (fun z hz => h z (by simp [hz]))]
theorem lnT_bad {used : List ByteArray} {fin : Int × Int} (h : ¬ ∀ y, y ∈ used → okL nms len y = 0) : ∃ e, e ≠ 0 ∧ lnT nms len used fin = (0, e) := by
  induction used with
  | nil => exact absurd (fun y hy => by cases hy) h
  | cons y l ih =>
    by_cases hy : okL nms len y = 0
    · obtain ⟨e, h1, h2⟩ := ih (fun q => h (fun z hz => by rcases List.mem_cons.1 hz with rfl | hz; exact hy; exact q z hz))
      exact ⟨e, h1, by rw [lnT, if_pos hy, h2]⟩
    · exact ⟨_, hy, by rw [lnT, if_neg hy]⟩
theorem tree_nok {s : S43} {k : Fo} (h : ∀ y, y ∈ namesT (s :: k.flat) [] → okL nms len y = 0) : (s.f0 = 1 → okL nms len s.f1 = 0) ∧ k.nok nms len :=
  ⟨fun h1 => h _ ((namesT_mem _ _ _).2 (.inr ⟨s, by simp, h1, rfl⟩)), fun t ht h1 => h _ ((namesT_mem _ _ _).2 (.inr ⟨t, by simp [ht], h1, rfl⟩))⟩
/-- Two valid expressions with the same leaves have the same length. -/
theorem len_same {s s' : S43} {k k' : Fo} (hk : k.ok) (h3 : s.f3 = (k.count : Int)) (hs : ndE s = 0) (hkn : k.nds) (hk' : k'.ok) (h3' : s'.f3 = (k'.count : Int)) (hs' : ndE s' = 0) (hkn' : k'.nds)
    (h : (nodeL s k.lvs).2 = true) (e : nodeL s' k'.lvs = nodeL s k.lvs) : (lenT nms len s k).1 = (lenT nms len s' k').1 ∧ ((lenT nms len s k).2 = 0 ↔ (lenT nms len s' k').2 = 0) := by
  have hn := tree_names hk h3 hs hkn h
  have hn' := tree_names hk' h3' hs' hkn' (by rw [e]; exact h)
  have hsame : ∀ y, y ∈ namesT (s :: k.flat) [] ↔ y ∈ namesT (s' :: k'.flat) [] := fun y => by rw [hn y, hn' y, e]
  unfold lenT
  by_cases hall : ∀ y, y ∈ namesT (s :: k.flat) [] → okL nms len y = 0
  · have hall' : ∀ y, y ∈ namesT (s' :: k'.flat) [] → okL nms len y = 0 := fun y hy => hall y ((hsame y).2 hy)
    have a := tree_nok nms len hall
    have a' := tree_nok nms len hall'
    have t1 := node_wt nms len hk hs hkn h3 a (Fo.wt nms len k hk hkn a.2) h
    have t2 := node_wt nms len hk' hs' hkn' h3' a' (Fo.wt nms len k' hk' hkn' a'.2) (by rw [e]; exact h)
    rw [e] at t2
    rw [lnT_ok nms len hall, lnT_ok nms len hall', t1, t2]
    exact ⟨rfl, Iff.rfl⟩
  · obtain ⟨x, hx1, hx2⟩ := lnT_bad nms len (fin := if nodeK nms len s (k.tks nms len) > 8192 then (0, 1) else (nodeK nms len s (k.tks nms len), 0)) hall
    obtain ⟨y, hy1, hy2⟩ := lnT_bad nms len (used := namesT (s' :: k'.flat) []) (fin := if nodeK nms len s' (k'.tks nms len) > 8192 then (0, 1) else (nodeK nms len s' (k'.tks nms len), 0)) (fun q => hall (fun y hy => q y ((hsame y).1 hy)))
    rw [hx2, hy2]
    exact ⟨rfl, ⟨fun q => absurd q hx1, fun q => absurd q hy1⟩⟩
end
/-! ### the law's loops -/
theorem nl2_ev {l : List S43} (hl : l.length ≤ 1000) (h : ∀ t, t ∈ l → nfS t) (d : Nat) : ∀ i : Nat, i + d = l.length → Ev (fun k => dancestudiolaw35_LangNorm.l2 k l (i : Int)) true := by
  induction d with
  | zero => intro i hi; exact ev_step (fun k => by simp only [dancestudiolaw35_LangNorm.l2] <;> exact rfl) (ev_neg (by omega) awake_out)
  | succ d ih =>
    intro i hi
    have hlt : i < l.length := by omega
    have ht := h l[i] (List.getElem_mem hlt)
    refine ev_step (fun k => by simp only [dancestudiolaw35_LangNorm.l2] <;> exact rfl) (ev_pos (by omega) (ev_pos (by omega) ?_))
    rw [rd43 l hlt, w64 (by omega) (by omega)]
    refine ev_neg ht.1 (ev_ite (fun h2 => ev_neg (by have := ht.2 h2; omega) (ih (i + 1) (by omega))) (fun h2 => ih (i + 1) (by omega)))
theorem nl1_ev {x7 : List S43} {a b : List ByteArray} (ha : a.length ≤ 1000) (hb : b.length ≤ 1000) {i : Nat} (hi : i < a.length) (hnext : Ev (fun k => dancestudiolaw35_LangNorm.l0 k x7 a b ((i + 1 : Nat) : Int)) true) (d : Nat) :
    ∀ (j : Nat) (f : Bool), j + d = b.length → (f = true ∨ a[i] ∈ b.drop j) → Ev (fun k => dancestudiolaw35_LangNorm.l1 k x7 a b (i : Int) f (j : Int)) true := by
  induction d with
  | zero =>
    intro j f hj hf
    have hf' : f = true := hf.resolve_right (by rw [List.drop_eq_nil_of_le (by omega)]; simp)
    refine ev_step (fun k => by simp only [dancestudiolaw35_LangNorm.l1] <;> exact rfl) (ev_neg (by omega) (ev_pos hf' ?_))
    rw [w64 (by omega) (by omega)]; exact hnext
  | succ d ih =>
    intro j f hj hf
    have hlt : j < b.length := by omega
    refine ev_step (fun k => by simp only [dancestudiolaw35_LangNorm.l1] <;> exact rfl) (ev_pos (by omega) ?_)
    rw [w64 (by omega) (by omega), show (j : Int) + 1 = ((j + 1 : Nat) : Int) by omega]
    refine ev_ite (fun h => ih (j + 1) true (by omega) (.inl rfl)) (fun h => ?_)
    refine ev_pos (by omega) (ev_pos (by omega) (ev_pos (by omega) ?_))
    refine ih (j + 1) _ (by omega) ?_
    rw [rdS a hi, rdS b hlt]
    have hm := hf.resolve_left h
    rw [List.drop_eq_getElem_cons hlt] at hm
    rcases List.mem_cons.1 hm with q | q
    · exact .inl (by rw [q]; simp)
    · exact .inr q
theorem nl0_ev {x7 : List S43} {a b : List ByteArray} (ha : a.length ≤ 1000) (hb : b.length ≤ 1000) (h7 : x7.length ≤ 1000) (hn : ∀ t, t ∈ x7 → nfS t) (hs : ∀ y, y ∈ a → y ∈ b) (d : Nat) : ∀ i : Nat, i + d = a.length → Ev (fun k => dancestudiolaw35_LangNorm.l0 k x7 a b (i : Int)) true := by
  induction d with
  | zero => intro i hi; exact ev_step (fun k => by simp only [dancestudiolaw35_LangNorm.l0] <;> exact rfl) (ev_neg (by omega) (nl2_ev h7 hn _ 0 (Nat.zero_add _)))
  | succ d ih =>
    intro i hi
    have hlt : i < a.length := by omega
    exact ev_step (fun k => by simp only [dancestudiolaw35_LangNorm.l0] <;> exact rfl) (ev_pos (by omega) (nl1_ev ha hb hlt (ih (i + 1) (by omega)) _ 0 false (Nat.zero_add _) (.inr (by rw [List.drop_zero]; exact hs _ (List.getElem_mem hlt)))))
theorem pure_LangNorm (l : List S43) (_ : l.length ≤ maxLen) (_ : ∀ a ∈ l, True) (nms : List ByteArray) (_ : nms.length ≤ 8796093022208) (len : List Int) (_ : len.length ≤ maxLen) (_ : ∀ z ∈ len, (Lit.int .i64 z).wf = true) : ∃ k, dancestudiolaw35_LangNorm.f k l nms len = some true := by
  apply Ev.rounds
  unfold dancestudiolaw35_LangNorm.f
  have out : ∀ b : Bool, b = true → Ev (fun k => dancestudiolaw35_LangNorm.j0 k l nms len b) true := fun b hb =>
    ev_step (fun k => by simp only [dancestudiolaw35_LangNorm.j0] <;> exact rfl) (ev_pos hb awake_out)
  obtain ⟨b, _, hb⟩ := short_ev l
  refine Ev.bind hb (ev_ite (fun h => ?_) (fun h => out true rfl))
  refine ev_ite (fun h2 => out true rfl) (fun h2 => ?_)
  by_cases h20 : (len.length : Int) > 20
  · exact out _ (decide_eq_true h20)
  rw [decide_eq_false h20]
  have hnl : nms.length ≤ 1000 := by omega
  have fail : ∀ c : Int, c ≠ 0 → Ev (fun n => lang_Norm.f n l) (([] : List S43), c) → Ev (fun k => dancestudiolaw35_LangNorm.j0 k l nms len false) true := fun c hc e => by
    refine ev_step (fun k => by simp only [dancestudiolaw35_LangNorm.j0] <;> exact rfl) (ev_neg (by simp) ?_)
    refine Ev.bind e (ev_neg hc ?_)
    exact ev_pos (show (([] : List S43).length : Int) = 0 from rfl) awake_out
  by_cases hc : chkE l = 0
  · obtain ⟨s, k, rfl, hk, h3, hs, hkn, hlen⟩ := tree_of hc
    have eN := norm_tree hk h3 hs hkn hlen
    have eG := (leaves_ev hk h3 hs hkn (by omega)).2
    by_cases ht : (nodeL s k.lvs).2 = true
    · obtain ⟨g1, g2, g3⟩ := eG ht
      obtain ⟨s', k', e1, hk', h3', hs', hkn', e2, hnf⟩ := nf_val g1 g3 g2
      by_cases h64 : ((oneV ((nodeL s k.lvs).1.map wrN)).length : Int) > 64
      · refine fail 3 (by decide) ?_
        have : nrmV (nodeL s k.lvs) = ([], 3) := by unfold nrmV endV; rw [if_pos ht, if_pos h64]
        rw [this] at eN; exact eN
      · have ev : nrmV (nodeL s k.lvs) = (s' :: k'.flat, 0) := by unfold nrmV endV; rw [if_pos ht, if_neg h64, e1]
        have hl' : k'.flat.length < 64 := by rw [e1] at h64; simp only [List.length_cons] at h64; omega
        have eN' := norm_tree hk' h3' hs' hkn' hl'
        have e3 : nodeL s' k'.lvs = nodeL s k.lvs := by rw [e2, ← ht]
        rw [e3, ev] at eN'
        rw [ev] at eN
        have L := len_same nms len hk h3 hs hkn hk' h3' hs' hkn' ht e3
        have eL := (len_tree nms len hnl hk h3 hs hkn hlen).1
        have eL' := (len_tree nms len hnl hk' h3' hs' hkn' hl').1
        refine ev_step (fun k => by simp only [dancestudiolaw35_LangNorm.j0] <;> exact rfl) (ev_neg (by simp) ?_)
        refine Ev.bind eN (ev_pos (show (0 : Int) = 0 from rfl) ?_)
        refine Ev.bind eN' (Ev.bind eL (Ev.bind eL' (ev_pos (show (0 : Int) = 0 from rfl) ?_)))
        refine Ev.bind (same_ev (s' :: k'.flat) (by simp only [List.length_cons]; omega)) ?_
        refine ev_pos (show true = true from rfl) (ev_pos L.1 ?_)
        have hb1 : (((lenT nms len s k).2 == 0) != ((lenT nms len s' k').2 == 0)) = false := by
          by_cases q : (lenT nms len s k).2 = 0
          · rw [q, L.2.1 q]; rfl
          · have q' : ¬ (lenT nms len s' k').2 = 0 := fun z => q (L.2.2 z)
            rw [show ((lenT nms len s k).2 == 0) = false from by simpa using q, show ((lenT nms len s' k').2 == 0) = false from by simpa using q']; rfl
        rw [hb1]
        have hc' := chk_tree s' k' hk' h3' hs' hkn' hl'
        have p1 := pnms_ev (s :: k.flat)
        have p2 := pnms_ev (s' :: k'.flat)
        have m1 : nmsE (s :: k.flat) = (namesT (s :: k.flat) [], 0) := by unfold nmsE; rw [if_pos hc]
        have m2 : nmsE (s' :: k'.flat) = (namesT (s' :: k'.flat) [], 0) := by unfold nmsE; rw [if_pos hc']
        rw [m1] at p1
        rw [m2] at p2
        have hn := tree_names hk h3 hs hkn ht
        have hn' := tree_names hk' h3' hs' hkn' (by rw [e3]; exact ht)
        have hsame : ∀ y, y ∈ namesT (s :: k.flat) [] ↔ y ∈ namesT (s' :: k'.flat) [] := fun y => by rw [hn y, hn' y, e3]
        have d1 := namesT_nodup (s :: k.flat) [] (by simp)
        have d2 := namesT_nodup (s' :: k'.flat) [] (by simp)
        have elen : (namesT (s :: k.flat) []).length = (namesT (s' :: k'.flat) []).length := Nat.le_antisymm (nodup_le d1 (fun y hy => (hsame y).1 hy)) (nodup_le d2 (fun y hy => (hsame y).2 hy))
        refine ev_step (fun k => by simp only [dancestudiolaw35_LangNorm.j1] <;> exact rfl) (ev_neg (by simp) ?_)
        refine Ev.bind p1 (Ev.bind p2 (ev_pos (show (0 : Int) = 0 from rfl) (ev_pos (show (0 : Int) = 0 from rfl) ?_)))
        refine ev_step (fun k => by simp only [dancestudiolaw35_LangNorm.j2] <;> exact rfl) (ev_neg (by rw [elen]; simp) ?_)
        exact nl0_ev (names_short (by simp only [List.length_cons]; omega)) (names_short (by simp only [List.length_cons]; omega)) (by simp only [List.length_cons]; omega) hnf (fun y hy => (hsame y).1 hy) _ 0 (Nat.zero_add _)
    · refine fail 3 (by decide) ?_
      have : nrmV (nodeL s k.lvs) = ([], 3) := by unfold nrmV; rw [if_neg ht]
      rw [this] at eN; exact eN
  · exact fail _ hc (norm_bad hc)
end Go.Proofs.YtimikhbnihedkaaDoor.PAll
