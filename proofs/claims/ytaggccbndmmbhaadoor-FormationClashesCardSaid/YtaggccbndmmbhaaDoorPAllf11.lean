-- Written by wip/tools/handprint.py: walks of the functions that the law reaches; Lean checks them.
import Derived.Test.YtaggccbndmmbhaaDoorBase
import Derived.Test.YtaggccbndmmbhaaDoorPAllf29
namespace Go.Proofs.YtaggccbndmmbhaaDoor.PAll
open Go.RowKit Go.Proofs.YtaggccbndmmbhaaDoorW.PrintWords Go.Proofs.YtaggccbndmmbhaaDoorW.PrintLast Go.Proofs.YtaggccbndmmbhaaDoorW.PrintMore
attribute [local go_sem] max2_int min2_int max_two min_two max_three min_three max_four min_four   -- for this text's walks alone
set_option linter.unusedVariables false
set_option linter.unusedSimpArgs false

/-! ### formation_Check: function 11 -/
def ptV (p : S52) : Value := .agg #[.int .i64 p.f0, .int .i64 p.f1]
def ptP (p : S52) : Int × Int := (p.f0, p.f1)
def formation_Check.f (k : Nat) (a0_0 : ByteArray) (l0_1 : List (S52)) : Option (Int) := (ident_Valid.f k a0_0).bind fun t112 => (if t112 = true then (if (l0_1.length : Int) = 0 then (some 4) else (if (l0_1.length : Int) > 16 then (some 3) else ((api_Point_30.f k l0_1).bind fun t113 => (if t113 = true then (some 1) else (if (l0_1.map ptP).Nodup then (some 0) else (some 7)))))) else (some 8))
theorem chk3 (n : Nat) (x : Int) (b : Bool) (w : World) : (Instr.checkKey b (n + 1) 3 (.int .i64 x)).run Tryd.prog w = .ok () w := by
 have h3 : Tryd.prog.underlying 3 = some (.int .i64) := Tryd.underlying3
 simp [Instr.checkKey, run_underlying h3]
theorem chk52' (n : Nat) (x y : Int) (b : Bool) (w : World) : (Instr.checkKey b (n + 2) 52 (.agg #[.int .i64 x, .int .i64 y])).run Tryd.prog w = .ok () w := by
 have h52 : Tryd.prog.underlying 52 = some (.struct #[⟨"X", 3, 0, false, "", "", 0⟩, ⟨"Y", 3, 1, false, "", "", 8⟩]) := Tryd.underlying52
 have hp0 : (part 3 #[.int .i64 x, .int .i64 y] 0).run Tryd.prog w = .ok (.int .i64 x) w := by kernel_rfl
 have hp1 : (part 3 #[.int .i64 x, .int .i64 y] 1).run Tryd.prog w = .ok (.int .i64 y) w := by kernel_rfl
 unfold Instr.checkKey
 simp [run_underlying h52, hp0, hp1, chk3, Result.andThen]
theorem chk52 (x y : Int) (b : Bool) (w : World) : (Instr.checkKey b 10000 52 (.agg #[.int .i64 x, .int .i64 y])).run Tryd.prog w = .ok () w := chk52' 9998 x y b w
theorem eqV52 (x y x' y' : Int) (w : World) : (Op.equal 52 (.agg #[.int .i64 x, .int .i64 y]) (.agg #[.int .i64 x', .int .i64 y'])).run Tryd.prog w = .ok (x == x' && (y == y')) w := eqA52 _ w x x' y y'
theorem ask52 (x y : Int) (w : World) : ∀ (ps : List S52) (es : List MapEntry) (i : Nat), es.map (·.key) = ps.map ptV → (∀ e ∈ es, e.val = .bool true) →
  ∃ r, (Instr.findAsking 52 (.agg #[.int .i64 x, .int .i64 y]) es i).run Tryd.prog w = .ok r w ∧ (((x, y) ∈ ps.map ptP ∧ ∃ j, r = some (j, .bool true)) ∨ ((x, y) ∉ ps.map ptP ∧ r = none))
 | [], [], i, _, _ => ⟨none, by simp [Instr.findAsking], Or.inr ⟨by simp, rfl⟩⟩
 | p :: ps, e :: es, i, hk, hv => by
  simp only [List.map_cons, List.cons.injEq] at hk
  have hq := eqV52 x y p.f0 p.f1 w
  have hek : e.key = .agg #[.int .i64 p.f0, .int .i64 p.f1] := hk.1
  unfold Instr.findAsking
  rw [hek]
  by_cases h : x = p.f0 ∧ y = p.f1
  ·
   obtain ⟨rfl, rfl⟩ := h
   refine ⟨some (i, .bool true), ?_, Or.inl ⟨by simp [ptP], ⟨i, rfl⟩⟩⟩
   simp [hq, hv e (by simp), Result.andThen]
  have hb : (x == p.f0 && (y == p.f1)) = false := by
   cases hh : (x == p.f0 && (y == p.f1)) with
   | false => rfl
   | true => simp at hh; exact absurd hh h
  obtain ⟨r, h1, h2⟩ := ask52 x y w ps es (i + 1) hk.2 (fun e' he' => hv e' (by simp [he']))
  refine ⟨r, ?_, ?_⟩
  ·
   simp [hq, hb, h1, Result.andThen]
  ·
   have hne : ¬ ((x, y) = ptP p) := fun e1 => h (by simpa [ptP] using e1)
   simpa [hne] using h2
 | [], _ :: _, _, hk, _ => by simp at hk
 | _ :: _, [], _, hk, _ => by simp at hk
theorem key52 (x y : Int) (w : World) (ps : List S52) (es : List MapEntry) (hk : es.map (·.key) = ps.map ptV) (hv : ∀ e ∈ es, e.val = .bool true) :
  ∃ r, (Instr.findKey 52 (.agg #[.int .i64 x, .int .i64 y]) es).run Tryd.prog w = .ok r w ∧ (((x, y) ∈ ps.map ptP ∧ ∃ j, r = some (j, .bool true)) ∨ ((x, y) ∉ ps.map ptP ∧ r = none)) := by
 have h52 : Tryd.prog.underlying 52 = some (.struct #[⟨"X", 3, 0, false, "", "", 0⟩, ⟨"Y", 3, 1, false, "", "", 8⟩]) := Tryd.underlying52
 cases es with
 | nil =>
  cases ps with
  | nil => exact ⟨none, by simp [Instr.findKey, run_underlying h52, Instr.findNow, Result.andThen], Or.inr ⟨by simp, rfl⟩⟩
  | cons p ps => simp at hk
 | cons e es =>
  obtain ⟨r, h1, h2⟩ := ask52 x y w ps (e :: es) 0 hk hv
  refine ⟨r, ?_, h2⟩
  have hn : Instr.findNow (.struct #[⟨"X", 3, 0, false, "", "", 0⟩, ⟨"Y", 3, 1, false, "", "", 8⟩]) (.agg #[.int .i64 x, .int .i64 y]) (e :: es) 0 = none := by simp [Instr.findNow, Instr.sameNow]
  simp [Instr.findKey, run_underlying h52, hn, h1, Result.andThen]
theorem look52 {w : World} {b : Nat} {es : Array MapEntry} {clock : Nat} (hb : w.heap[b]? = some (.map es clock)) {ps : List S52} (hk : es.toList.map (·.key) = ps.map ptV) (hv : ∀ e ∈ es.toList, e.val = .bool true) (x y : Int) :
  (Instr.lookup 60 (.map (some b)) (.agg #[.int .i64 x, .int .i64 y]) false).run Tryd.prog w = .ok (.bool (decide ((x, y) ∈ ps.map ptP))) w := by
 have h60 : Tryd.prog.underlying 60 = some (.map 52 4) := Tryd.underlying60
 obtain ⟨r, h1, h2⟩ := key52 x y w ps es.toList hk hv
 have hz : (zeroValue 4).run Tryd.prog w = .ok (.bool false) w := by kernel_rfl
 rcases h2 with ⟨hm, j, rfl⟩ | ⟨hm, rfl⟩
 ·
  simp only [hm, decide_true]
  simp [Instr.lookup, run_underlying h60, MapKept.run_getObj_map hb, chk52, h1, Result.andThen]
 ·
  simp only [hm, decide_false]
  simp [Instr.lookup, run_underlying h60, MapKept.run_getObj_map hb, chk52, h1, hz, Result.andThen]
theorem upd52 {w : World} {b : Nat} {es : Array MapEntry} {clock : Nat} (hb : w.heap[b]? = some (.map es clock)) {ps : List S52} (hk : es.toList.map (·.key) = ps.map ptV) (hv : ∀ e ∈ es.toList, e.val = .bool true) (p : S52) (hn : ptP p ∉ ps.map ptP) :
  ∃ w1, (Instr.mapUpdate 60 (.map (some b)) (.agg #[.int .i64 p.f0, .int .i64 p.f1]) (.bool true)).run Tryd.prog w = .ok () w1 ∧ w1.heap[b]? = some (.map (es.push ⟨ptV p, .bool true, clock⟩) (clock + 1)) ∧
   (es.push ⟨ptV p, .bool true, clock⟩).toList.map (·.key) = (ps ++ [p]).map ptV ∧ (∀ e ∈ (es.push ⟨ptV p, .bool true, clock⟩).toList, e.val = .bool true) ∧ w.grownBy w1 (some b) := by
 have h60 : Tryd.prog.underlying 60 = some (.map 52 4) := Tryd.underlying60
 obtain ⟨r, h1, h2⟩ := key52 p.f0 p.f1 w ps es.toList hk hv
 rcases h2 with ⟨hm, j, rfl⟩ | ⟨hm, rfl⟩
 ·
  exact absurd hm hn
 ·
  refine ⟨ChangeMaps.setBlock w b (.map (es.push ⟨ptV p, .bool true, clock⟩) (clock + 1)), ?_, ChangeMaps.heap_setBlock_same hb _, ?_, ?_, ⟨rfl, rfl, rfl, by simp [ChangeMaps.setBlock], fun i _ hi => ChangeMaps.heap_setBlock_other hb _ (fun e => hi (by rw [e]))⟩⟩
  ·
   simp [Instr.mapUpdate, run_underlying h60, MapKept.run_getObj_map hb, chk52, h1, MapKept.run_setObj_map _ hb, Result.andThen, ChangeMaps.setBlock, ptV]
  ·
   simp [hk]
  ·
   intro e he
   simp only [Array.toList_push, List.mem_append, List.mem_singleton] at he
   rcases he with he | rfl
   ·
    exact hv e he
   ·
    rfl
theorem map_far {w : World} {g : Nat} {es : Array MapEntry} {clock : Nat} (h : w.heap[g]? = some (.map es clock)) {p : Nat} (hp : g ≠ p) {i : Nat} (u : Value) : (w.setCell ⟨p, i, none⟩ u).heap[g]? = some (.map es clock) := (Below.heap_setCell w ⟨p, i, none⟩ u g hp).trans h
theorem take_step (l : List S52) (x : Int) (h : x.toNat < l.length) (h0 : 0 ≤ x) : l.take (x + 1).toNat = l.take x.toNat ++ [rd_T52 l x] := by
 have e : (x + 1).toNat = x.toNat + 1 := by omega
 rw [e, List.take_add_one, List.getElem?_eq_getElem h]
 simp [rd_T52, h]
theorem nodup_snoc {ps : List S52} {p : S52} (h : (ps.map ptP).Nodup) (hn : ptP p ∉ ps.map ptP) : ((ps ++ [p]).map ptP).Nodup := by
 rw [List.map_append, List.map_singleton, List.nodup_append]
 exact ⟨h, by simp, fun a ha b hb => by simp at hb; subst hb; exact fun e => hn (e ▸ ha)⟩
theorem dup_take (l : List S52) (x : Int) (h : x.toNat < l.length) (h0 : 0 ≤ x) (hm : ptP (rd_T52 l x) ∈ (l.take x.toNat).map ptP) (hn : (l.map ptP).Nodup) : False := by
 have h1 : (l.take (x + 1).toNat).Sublist l := List.take_sublist _ _
 have h2 := hn.sublist (h1.map ptP)
 rw [take_step l x h h0, List.map_append, List.map_singleton, List.nodup_append] at h2
 exact h2.2.2 _ hm _ (by simp) rfl
section
variable {P : Program} {ops : Array Oper} {rest : List Oper} {o : Oper} {a : Act} {Q : Exit → Act → World → Prop}
theorem map_event {W : World} (hgd : o.guard = none) (hrun : (execOp a.eval o).run P W = .ok (.value (.map (some W.heap.size))) (W.alloc (.map #[] 0)))
  (h : ∀ g, g = W.heap.size → ∀ w1, w1.heap[g]? = some (.map #[] 0) → Below W.heap.size W w1 → wpList P ops Q rest (a.put o.dst (.map (some g))) w1) : wpList P ops Q (o :: rest) a W :=
 Kd.event_run hgd hrun (h _ rfl _ (blk_new W _) (below_alloc (Below.refl _ _) _))
theorem upd_event {w w1 : World} (hg : o.guard = none) (m x v : Operand) (t : TypeId) (hop : o.op = Op.mapUpdate t m x v) (mv xv vv : Value) (hm : a.eval m = mv) (hx : a.eval x = xv) (hv : a.eval v = vv)
  (hrun : (Instr.mapUpdate t mv xv vv).run P w = .ok () w1) (hK : wpList P ops Q rest (a.put o.dst undef) w1) : wpList P ops Q (o :: rest) a w := by
 refine wpList_plain hg fun K' hK' => ?_
 unfold Oper.wp
 simp [execOp, hop, hm, hx, hv, hrun, Result.andThen]
 exact hK' _ _ hK
theorem look_event {w : World} (hg : o.guard = none) (m x : Operand) (t : TypeId) (hop : o.op = Op.lookup t m x false) (mv xv r : Value) (hm : a.eval m = mv) (hx : a.eval x = xv)
  (hrun : (Instr.lookup t mv xv false).run P w = .ok r w) (hK : wpList P ops Q rest (a.put o.dst r) w) : wpList P ops Q (o :: rest) a w := by
 refine wpList_plain hg fun K' hK' => ?_
 unfold Oper.wp
 simp [execOp, hop, hm, hx, hrun, Result.andThen]
 exact hK' _ _ hK
end
set_option maxHeartbeats 8000000 in
set_option maxRecDepth 100000 in
theorem formation_Check.calls (k : Nat) (a0_0 : ByteArray) (A0_1 : Option Addr) (c0_1 : Nat) (l0_1 : List (S52)) (r : Int) (w : World) (hr0_1 : Kd.C k52 w A0_1 l0_1.length l0_1) (hc0_1 : l0_1.length ≤ c0_1) (hmx : Mx w) (h : formation_Check.f k a0_0 l0_1 = some r) :
  Calls Tryd.prog 11 #[.agg #[.string a0_0, .slice A0_1 l0_1.length c0_1]] w fun e w' => e = .returned (.int .i64 r) ∧ Below w.heap.size w w' := by
 have HMX_ := Aside0.mk hmx
 clear hmx
 have hu24 := Tryd.underlying24
 have HR0_1 := Aside0.mk hr0_1
 have HC0_1 := Aside0.mk hc0_1
 clear hr0_1 hc0_1
 have HB := Aside0.mk (Below.refl w.heap.size w)
 have H := h
 unfold formation_Check.f at H
 clear h
 replace H := Option.bind_eq_some_iff.mp H
 obtain ⟨t112, A20, H⟩ := H
 try dsimp only at H
 have A2 := Aside0.mk A20
 clear A20
 by_cases c3 : t112 = true
 rotate_left
 ·
  replace c3 := Bool.eq_false_iff.mpr c3
  subst c3
  rw [if_neg (show ¬ (false = true) by decide)] at H
  obtain rfl := Option.some.inj H
  go_enter Tryd.func11, Tryd.ntmps11
  go_wp2_with (first | ((with_reducible refine gate_dst (N := 1) rfl ?_); refine box_event rfl (N := 1) rfl (cs := #[.string a0_0, .slice A0_1 l0_1.length c0_1]) (t := 24) (by first | (go_simp; done) | (go_simp; rfl)) ?_; intro gb1 hg w18 hbox hb; have BK1 := Aside0.mk hbox; have GW1 := mGw HB hg; have GE1 := GW1; replace HB := mSt HB hb; clear hb hbox hg; have hcz19 := blk_cell BK1.out; have hfz19 := blk_frozen BK1.out) | ((with_reducible refine gate_callee (f := 29) rfl ?_); refine goesL_ (some 8) rfl rfl Tryd.func29 (by kernel_rfl) rfl #[.string a0_0] rfl (mA1 rfl) ?_; (with_reducible refine (ident_Valid.calls k a0_0 false _ (Mx.below HMX_.out HB.out) A2.out).mono ?_); rintro e w' ⟨rfl, ⟨nd, rfl⟩⟩; refine ⟨_, rfl, ?_⟩))
  go_ret
  exact ⟨rfl, hO HB⟩
 subst c3
 rw [if_pos rfl] at H
 by_cases c4 : (l0_1.length : Int) = 0
 ·
  rw [if_pos c4] at H
  have c4b0 := beq_iff_eq.mpr c4
  have c4b1 := bne_eq_false_iff_eq.mpr c4
  clear c4
  obtain rfl := Option.some.inj H
  go_enter Tryd.func11, Tryd.ntmps11
  go_wp2_with (first | ((with_reducible refine gate_dst (N := 1) rfl ?_); refine box_event rfl (N := 1) rfl (cs := #[.string a0_0, .slice A0_1 l0_1.length c0_1]) (t := 24) (by first | (go_simp; done) | (go_simp; rfl)) ?_; intro gb1 hg w5 hbox hb; have BK1 := Aside0.mk hbox; have GW1 := mGw HB hg; have GE1 := GW1; replace HB := mSt HB hb; clear hb hbox hg; have hcz6 := blk_cell BK1.out; have hfz6 := blk_frozen BK1.out) | ((with_reducible refine gate_callee (f := 29) rfl ?_); refine goesL_ (some 8) rfl rfl Tryd.func29 (by kernel_rfl) rfl #[.string a0_0] rfl (mA1 rfl) ?_; (with_reducible refine (ident_Valid.calls k a0_0 true _ (Mx.below HMX_.out HB.out) A2.out).mono ?_); rintro e w' ⟨rfl, ⟨nd, rfl⟩⟩; refine ⟨_, rfl, ?_⟩))
  go_ret
  exact ⟨rfl, hO HB⟩
 rw [if_neg c4] at H
 have c4b0 := beq_eq_false_iff_ne.mpr c4
 have c4b1 := bne_iff_ne.mpr c4
 have c4b2 : ¬ (l0_1 = []) := fun h_ => c4 (by rw [h_]; rfl)
 by_cases c7 : (l0_1.length : Int) > 16
 ·
  rw [if_pos c7] at H
  have c7b0 := decide_eq_true c7
  have c7b1 : decide (16 < l0_1.length) = true := decide_eq_true (by omega)
  clear c7
  obtain rfl := Option.some.inj H
  go_enter Tryd.func11, Tryd.ntmps11
  go_wp2_with (first | ((with_reducible refine gate_dst (N := 1) rfl ?_); refine box_event rfl (N := 1) rfl (cs := #[.string a0_0, .slice A0_1 l0_1.length c0_1]) (t := 24) (by first | (go_simp; done) | (go_simp; rfl)) ?_; intro gb1 hg w8 hbox hb; have BK1 := Aside0.mk hbox; have GW1 := mGw HB hg; have GE1 := GW1; replace HB := mSt HB hb; clear hb hbox hg; have hcz9 := blk_cell BK1.out; have hfz9 := blk_frozen BK1.out) | ((with_reducible refine gate_callee (f := 29) rfl ?_); refine goesL_ (some 8) rfl rfl Tryd.func29 (by kernel_rfl) rfl #[.string a0_0] rfl (mA1 rfl) ?_; (with_reducible refine (ident_Valid.calls k a0_0 true _ (Mx.below HMX_.out HB.out) A2.out).mono ?_); rintro e w' ⟨rfl, ⟨nd, rfl⟩⟩; refine ⟨_, rfl, ?_⟩))
  go_ret
  exact ⟨rfl, hO HB⟩
 rw [if_neg c7] at H
 have c7b0 := decide_eq_false c7
 have c7b1 : decide (16 < l0_1.length) = false := decide_eq_false (by omega)
 clear c7
 replace H := Option.bind_eq_some_iff.mp H
 obtain ⟨t113, A100, H⟩ := H
 try dsimp only at H
 have A10 := Aside0.mk A100
 clear A100
 by_cases c11 : t113 = true
 ·
  subst c11
  rw [if_pos rfl] at H
  obtain rfl := Option.some.inj H
  go_enter Tryd.func11, Tryd.ntmps11
  go_wp2_with (first | ((with_reducible refine gate_dst (N := 1) rfl ?_); refine box_event rfl (N := 1) rfl (cs := #[.string a0_0, .slice A0_1 l0_1.length c0_1]) (t := 24) (by first | (go_simp; done) | (go_simp; rfl)) ?_; intro gb1 hg w12 hbox hb; have n0_ := mSx HB hb; have n1_ := Aside0.mk (hbox); have n2_ := Aside0.mk ((by rw [hg]; exact (below_size (hO HB)) : w.heap.size ≤ gb1)); have n3_ := Aside0.mk ((by rw [hg]; exact (below_size (hO HB)) : w.heap.size ≤ gb1)); clear HB; have HB := n0_; have BK1 := n1_; have GW1 := n2_; have GE1 := n3_; clear n0_ n1_ n2_ n3_; clear hb hbox hg; have hcz13_0 : w12.cell? ⟨gb1, 0, none⟩ = some (.string a0_0) := (blk_cell BK1.out 0).trans rfl; have hcz13_1 : w12.cell? ⟨gb1, 1, none⟩ = some (.slice A0_1 l0_1.length c0_1) := (blk_cell BK1.out 1).trans rfl; have hfz13_0 := blk_frozen BK1.out 0; have hfz13_1 := blk_frozen BK1.out 1) | ((with_reducible refine gate_callee (f := 29) rfl ?_); refine goesL_ (some 8) rfl rfl Tryd.func29 (by kernel_rfl) rfl #[.string a0_0] rfl (mA1 rfl) ?_; (with_reducible refine (ident_Valid.calls k a0_0 true _ (Mx.below HMX_.out HB.out) A2.out).mono ?_); rintro e w' ⟨rfl, ⟨nd, rfl⟩⟩; refine ⟨_, rfl, ?_⟩) | ((with_reducible refine gate_callee (f := 30) rfl ?_); refine goesL_ (some 20) rfl rfl Tryd.func30 (by kernel_rfl) rfl #[.slice A0_1 l0_1.length c0_1, .func (.func 31) #[] #[]] rfl (mA2 rfl rfl) ?_; (with_reducible refine (api_Point_30.calls k _ _ l0_1 true _ ?side1 ?side2 A10.out).mono ?_); (case side1 => repeat (first | exact (Kd.C_below HR0_1.out (hO HB)) | (with_reducible refine Kd.C_alloc ?_ _) | (with_reducible refine Kd.C_drewN ?_ _) | (with_reducible refine Kd.C_drew ?_))); (case side2 => exact HC0_1.out); rintro e w14 ⟨rfl, hb⟩; refine ⟨_, rfl, ?_⟩; have n0_ := Aside0.mk (blk_below (g := gb1) (o := .cells #[.string a0_0, .slice A0_1 l0_1.length c0_1] 24 (0, 0)) (bO BK1) hb); have n1_ := mSx HB hb; clear BK1; clear HB; have BK1 := n0_; have HB := n1_; clear n0_ n1_; (try clear hb); (try clear hb2); (try clear hk); (try clear hi)))
  go_ret
  exact ⟨rfl, HB.out⟩
 replace c11 := Bool.eq_false_iff.mpr c11
 subst c11
 rw [if_neg (show ¬ (false = true) by decide)] at H
 have hle_ : l0_1.length ≤ 16 := by have h_ := c7b1; simpa using h_
 have hmm := @run_makeMap Tryd.prog
 go_enter Tryd.func11, Tryd.ntmps11
 go_wp2_with (first | ((with_reducible refine gate_dst (N := 1) rfl ?_); refine box_event rfl (N := 1) rfl (cs := #[.string a0_0, .slice A0_1 l0_1.length c0_1]) (t := 24) (by first | (go_simp; done) | (go_simp; rfl)) ?_; intro gb1 hg w15 hbox hb; have n0_ := mSx HB hb; have n1_ := Aside0.mk (hbox); have n2_ := Aside0.mk ((by rw [hg]; exact (below_size (hO HB)) : w.heap.size ≤ gb1)); have n3_ := Aside0.mk ((by rw [hg]; exact (below_size (hO HB)) : w.heap.size ≤ gb1)); clear HB; have HB := n0_; have BK1 := n1_; have GW1 := n2_; have GE1 := n3_; clear n0_ n1_ n2_ n3_; clear hb hbox hg; have hcz16_0 : w15.cell? ⟨gb1, 0, none⟩ = some (.string a0_0) := (blk_cell BK1.out 0).trans rfl; have hcz16_1 : w15.cell? ⟨gb1, 1, none⟩ = some (.slice A0_1 l0_1.length c0_1) := (blk_cell BK1.out 1).trans rfl; have hfz16_0 := blk_frozen BK1.out 0; have hfz16_1 := blk_frozen BK1.out 1) | ((with_reducible refine gate_callee (f := 29) rfl ?_); refine goesL_ (some 8) rfl rfl Tryd.func29 (by kernel_rfl) rfl #[.string a0_0] rfl (mA1 rfl) ?_; (with_reducible refine (ident_Valid.calls k a0_0 true _ (Mx.below HMX_.out HB.out) A2.out).mono ?_); rintro e w' ⟨rfl, ⟨nd, rfl⟩⟩; refine ⟨_, rfl, ?_⟩) | ((with_reducible refine gate_callee (f := 30) rfl ?_); refine goesL_ (some 20) rfl rfl Tryd.func30 (by kernel_rfl) rfl #[.slice A0_1 l0_1.length c0_1, .func (.func 31) #[] #[]] rfl (mA2 rfl rfl) ?_; (with_reducible refine (api_Point_30.calls k _ _ l0_1 false _ ?side1 ?side2 A10.out).mono ?_); (case side1 => repeat (first | exact (Kd.C_below HR0_1.out (hO HB)) | (with_reducible refine Kd.C_alloc ?_ _) | (with_reducible refine Kd.C_drewN ?_ _) | (with_reducible refine Kd.C_drew ?_))); (case side2 => exact HC0_1.out); rintro e w17 ⟨rfl, hb⟩; refine ⟨_, rfl, ?_⟩; have n0_ := Aside0.mk (blk_below (g := gb1) (o := .cells #[.string a0_0, .slice A0_1 l0_1.length c0_1] 24 (0, 0)) (bO BK1) hb); have n1_ := mSx HB hb; clear BK1; clear HB; have BK1 := n0_; have HB := n1_; clear n0_ n1_; (try clear hb); (try clear hb2); (try clear hk); (try clear hi)) | ((with_reducible refine gate_dst (N := 21) rfl ?_); refine map_event rfl ?hr ?_; (case hr => first | (go_simp; done) | (go_simp; rfl)); intro gm hg wm hbox hb; have n0_ := Aside0.mk (blk_below (g := gb1) (o := .cells #[.string a0_0, .slice A0_1 l0_1.length c0_1] 24 (0, 0)) (bO BK1) hb); have n1_ := mSx HB hb; have n2_ := Aside0.mk hbox; have n3_ := Aside0.mk ((by rw [hg]; exact (below_size (hO HB))) : w.heap.size ≤ gm); clear BK1; clear HB; have BK1 := n0_; have HB := n1_; have BKM := n2_; have GEM := n3_; clear n0_ n1_ n2_ n3_; clear hb hbox hg; have hczm_0 : wm.cell? ⟨gb1, 0, none⟩ = some (.string a0_0) := (blk_cell BK1.out 0).trans rfl; have hczm_1 : wm.cell? ⟨gb1, 1, none⟩ = some (.slice A0_1 l0_1.length c0_1) := (blk_cell BK1.out 1).trans rfl))
 go_loopg [25] (l0_1.length + 1) (fun kq v25 w' => ∃ (x_ : Int) (es : Array MapEntry) (clock : Nat), v25 = .int .i64 x_ ∧ kq = l0_1.length + 1 - x_.toNat ∧ Aside0 (0 ≤ x_ ∧ x_ ≤ (l0_1.length : Int)) ∧ Aside0 (w'.heap[gm]? = some (.map es clock)) ∧ Aside0 (es.toList.map (·.key) = (l0_1.take x_.toNat).map ptV) ∧ Aside0 (∀ e ∈ es.toList, e.val = .bool true) ∧ Aside0 (((l0_1.take x_.toNat).map ptP).Nodup) ∧ Aside0 (Below w.heap.size w w'))
 case atStart => exact ⟨0, #[], 0, rfl, rfl, ⟨by omega⟩, BKM, ⟨by simp⟩, ⟨by simp⟩, ⟨by simp⟩, HB⟩
 case round =>
  try clear hczm_0 hczm_1
  obtain ⟨x_, es, clock, rfl, rfl, HJ, BKM, HKY, HVL, HND, HB⟩ := hrel
  by_cases c1_ : x_ < (l0_1.length : Int)
  rotate_left
  ·
   have hx_ : x_ = (l0_1.length : Int) := by have := HJ.out.2; omega
   have c1b_ : decide (x_ < (l0_1.length : Int)) = false := decide_eq_false c1_
   have hnd_ : (l0_1.map ptP).Nodup := by have := HND.out; rw [hx_] at this; simpa using this
   have hr0 : r = 0 := by rw [if_pos hnd_] at H; exact (Option.some.inj H).symm
   subst hr0
   clear H
   go_wp2
   go_ret
   exact ⟨rfl, HB.out⟩
  have p1_ : 0 ≤ x_ := HJ.out.1
  obtain ⟨ad_, e_, hx_0, hx_1⟩ := at_T52 HR0_1.out x_ p1_ c1_
  cases e_
  replace hx_0 := mHx HB hx_0
  replace hx_1 := mHx HB hx_1
  have c1b_ : decide (x_ < (l0_1.length : Int)) = true := decide_eq_true c1_
  have hlen_ : x_.toNat < l0_1.length := by omega
  have p1b_ := eq_true p1_
  have c1t_ := eq_true c1_
  by_cases hm_ : ptP (rd_T52 l0_1 x_) ∈ (l0_1.take x_.toNat).map ptP
  ·
   have hin : decide (((rd_T52 l0_1 x_).f0, (rd_T52 l0_1 x_).f1) ∈ (l0_1.take x_.toNat).map ptP) = true := decide_eq_true hm_
   have hr7 : r = 7 := by rw [if_neg (fun h_ => dup_take l0_1 x_ hlen_ p1_ hm_ h_)] at H; exact (Option.some.inj H).symm
   subst hr7
   clear H
   go_wp2_with (first | ((with_reducible refine gate_dst (N := 5) rfl ?_); refine box_event rfl (N := 5) rfl (cs := #[.int .i64 0, .int .i64 0]) (t := 52) (by first | (go_simp; done) | (go_simp; rfl)) ?_; intro gp hg wp hbox hb; have BKP := Aside0.mk hbox; have GEP := Aside0.mk ((by rw [hg]; exact (below_size HB.out)) : w.heap.size ≤ gp); replace HB := mSt HB hb; have NMP := Aside0.mk ((by rw [hg]; exact Nat.ne_of_lt (blk_lt (g := gm) (o := .map es clock) BKM.out)) : gm ≠ gp); replace BKM := mBb BKM hb; clear hb hbox hg; have hczp := blk_cell BKP.out; have hfzp := blk_frozen BKP.out) | (at_lookup; refine look_event rfl _ _ 60 rfl _ _ _ rfl rfl (look52 (map_far (map_far BKM.out NMP.out _) NMP.out _) HKY.out HVL.out _ _) ?_; rw [hin]))
   go_ret
   exact ⟨rfl, (hO HB)⟩
  have hout : ptP (rd_T52 l0_1 x_) ∉ (l0_1.take x_.toNat).map ptP := hm_
  have hin : decide (((rd_T52 l0_1 x_).f0, (rd_T52 l0_1 x_).f1) ∈ (l0_1.take x_.toNat).map ptP) = false := decide_eq_false hm_
  have hst := take_step l0_1 x_ hlen_ p1_
  have hwr : wrap64 (x_ + 1) = x_ + 1 := by have := hle_; unfold wrap64; omega
  go_wp2_with (first | ((with_reducible refine gate_dst (N := 5) rfl ?_); refine box_event rfl (N := 5) rfl (cs := #[.int .i64 0, .int .i64 0]) (t := 52) (by first | (go_simp; done) | (go_simp; rfl)) ?_; intro gp hg wp hbox hb; have BKP := Aside0.mk hbox; have GEP := Aside0.mk ((by rw [hg]; exact (below_size (hO HB))) : w.heap.size ≤ gp); replace HB := mSx HB hb; have NMP := Aside0.mk ((by rw [hg]; exact Nat.ne_of_lt (blk_lt (g := gm) (o := .map es clock) BKM.out)) : gm ≠ gp); replace BKM := mBb BKM hb; clear hb hbox hg; have hczp := blk_cell BKP.out; have hfzp := blk_frozen BKP.out) | (at_lookup; refine look_event rfl _ _ 60 rfl _ _ _ rfl rfl (look52 (map_far (map_far BKM.out NMP.out _) NMP.out _) HKY.out HVL.out _ _) ?_; rw [hin]) | (at_mapUpdate; obtain ⟨w1, hrun, BKM1, HKY1, HVL1, hgr⟩ := upd52 (map_far (map_far BKM.out NMP.out _) NMP.out _) HKY.out HVL.out (rd_T52 l0_1 x_) hout; refine upd_event rfl _ _ _ 60 rfl _ _ _ rfl rfl rfl hrun ?_; have HB1 := (Below.grown (hO HB) hgr (below_size (hO HB)) (fun j hj => by cases hj; exact GEM.out))))
  go_roundg (l0_1.length + 1 - (x_ + 1).toNat)
  case measure => omega
  case rel => exact ⟨x_ + 1, _, _, by first | rfl | (rw [hwr]) | (simp [hwr]), rfl, ⟨by omega⟩, ⟨BKM1⟩, ⟨by rw [hst]; exact HKY1⟩, ⟨HVL1⟩, ⟨by rw [hst]; exact nodup_snoc HND.out hout⟩, ⟨HB1⟩⟩
end Go.Proofs.YtaggccbndmmbhaaDoor.PAll
