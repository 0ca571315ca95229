/- Texts of the proof, laid end to end. -/
import Derived.Test.YtimikhbnihedkaaDoorZKw1
import Derived.Shelf.Strings.OnBuilder
import Derived.Shelf.Strconv.Itoa3
import Derived.Shelf.Strings.Search3
import Derived.Test.YtimikhbnihedkaaDoorProg
import Derived.Below
import Derived.Deep.Draws
import Derived.Deep.AppendLies
import Derived.Maps.AppendAt
import Derived.OwnWalk
import Derived.Laws.BytesArg
import Derived.Laws.MakeOwn
import Derived.Laws.OwnMore
import Derived.Deep.OwnRows
import Derived.Tactics
import Derived.Lib.ConvBytes
import Derived.Laws.Slices
import Derived.WalkKit
import Derived.KernelRfl
import Derived.RowKit3
import Derived.Deep.LoopGhost
import Derived.Deep.QuietTactic
import Derived.BigQuiet
import Derived.WideLaws
import Derived.Deep.DeepCutAuto
import Derived.Deep.CutBlock
import Derived.Deep.RegionHeld3
import Derived.Laws.Rows
import Derived.Lib.AppendStr
import Derived.ArgAppend
import Derived.Laws.IdiomCopy
import Derived.OrdersHeld
import Derived.Laws.BitsLemmas
import Derived.RowKit
import Derived.Lib.IndexMore
/- Small words for facts that a walk carries on. -/
namespace Go.Proofs.YtimikhbnihedkaaDoorW.PrintWords
open Go Go.RowKit
theorem mBb {w w1 : World} {g : Nat} {o : Obj} (h : Aside0 (w.heap[g]? = some o)) (hb : Below w.heap.size w w1) : Aside0 (w1.heap[g]? = some o) := ⟨blk_below h.out hb⟩
theorem mNe {w : World} {g g' : Nat} {o : Obj} (h : Aside0 (w.heap[g]? = some o)) (hg : g' = w.heap.size) : Aside0 (g ≠ g') := ⟨by rw [hg]; exact Nat.ne_of_lt (blk_lt h.out)⟩
theorem mSy {g g' : Nat} (h : Aside0 (g ≠ g')) : Aside0 (g' ≠ g) := ⟨h.out.symm⟩
theorem mGw {w0 w : World} {g : Nat} (h : Aside0 (Below w0.heap.size w0 w)) (hg : g = w.heap.size) : Aside0 (w0.heap.size ≤ g) := ⟨by rw [hg]; exact below_size h.out⟩
theorem mSt {w0 w w1 : World} (h : Aside0 (Below w0.heap.size w0 w)) (hb : Below w.heap.size w w1) : Aside0 (Below w0.heap.size w0 w1) := ⟨below_step h.out hb⟩
theorem mIf {c : Prop} {_ : Decidable c} {α : Type} {A : Option α} {r : α} (H : (if c then A else none) = some r) : c ∧ A = some r := by
  by_cases h : c
  · rw [if_pos h] at H; exact ⟨h, H⟩
  · rw [if_neg h] at H; cases H
theorem mIfn {c : Prop} {_ : Decidable c} {α : Type} {A : Option α} {r : α} (H : (if c then none else A) = some r) : ¬ c ∧ A = some r := by
  by_cases h : c
  · rw [if_pos h] at H; cases H
  · rw [if_neg h] at H; exact ⟨h, H⟩
end Go.Proofs.YtimikhbnihedkaaDoorW.PrintWords
/- Shorter words yet, for steps of a region that draws its order. -/
namespace Go.Proofs.YtimikhbnihedkaaDoorW.PrintLast
open Go Go.RowKit Go.Proofs.YtimikhbnihedkaaDoorW.PrintWords
theorem mP : (∀ (a : Act) (n : Tmp) (v : Value), a.put (some n) v = { a with tmps := a.tmps.setIfInBounds n v }) ∧ (∀ (a : Act) (v : Value), a.put none v = a) ∧ (∀ (l : List Value) (i : Nat) (v : Value), l.toArray.setIfInBounds i v = (l.set i v).toArray) ∧
    (∀ (x : Value) (l : List Value) (v : Value), (x :: l).set 0 v = v :: l) ∧ (∀ (x : Value) (l : List Value) (n : Nat) (v : Value), (x :: l).set (n + 1) v = x :: l.set n v) ∧ (∀ n : Int, IntKind.i64.wrap n = wrap64 n) ∧ (∀ n : Int, IntKind.i32.wrap n = wrap32 n) :=
  ⟨fun _ _ _ => rfl, fun _ _ => rfl, fun _ _ _ => List.setIfInBounds_toArray _ _ _, fun _ _ _ => rfl, fun _ _ _ _ => rfl, i64_w, i32_w⟩
section
variable {P : Program} {md : Region.Mode} {ops : Array Oper} {Q : Exit → Act → World → Prop} {S : World → Prop} {ds : List Nat} {T : Bool × List (List Nat × List Nat)} {N : Option Tmp} {oi : Oper} {v : Value} {fuel : Nat} {l : Array Bool} {a a' : Act} {w : World}
def nxt (l : Array Bool) (i : Nat) : Array Bool := (l.toList.set i true).toArray
theorem pM {l' : Array Bool} (i n : Nat) (hT : Aside0 (rtab md ops = T)) (h : wpAnyLast P md ops Q S ds fuel l' a' w) (hl : nxt l i = l' := by (simp only [nxt, List.toList_toArray, List.set_cons_zero, List.set_cons_succ]); rfl) (hi : ops[i]? = some oi := by exact rfl) (hN : oi.dst = some n := by exact rfl) (hc : anyT T l.toList l'.toList i = true := by kernel_rfl) (hQ : ∀ c a w, Q (.panic c) (a.put oi.dst v) w → Q (.panic c) a w := by exact fun _ _ _ h => h)
    (hw : Region.wanted oi (yielded ops a.tmps) = true := by rfl) (hy : ∀ w, (execOp a.eval oi).run P w = .ok (.value v) w := by intro w'; go_simp; with_reducible rfl) (ha : a.put (some n) v = a' := by (simp only [Act.put, List.setIfInBounds_toArray, List.set_cons_zero, List.set_cons_succ, i64_w, i32_w]); rfl) : wpAnyLast P md ops Q S ds (fuel + 1) l a w :=
  have _ := hl; pure_ _ hi hN (any_of hT.out hc) hQ (Or.inl ⟨hw, hy⟩) ha h
theorem tM {l' : Array Bool} {B : List Nat} (i n : Nat) (hi : ops[i]? = some oi) (hT : Aside0 (rtab md ops = T)) (hB : Aside0 (waitsOk T.2 B = true)) (hy : ∀ w, S w → (execOp a.eval oi).run P w = .ok (.value v) w) (hS : S w) (h : wpAnyLast P md ops Q S ds fuel l' a' w) (hl : nxt l i = l' := by (simp only [nxt, List.toList_toArray, List.set_cons_zero, List.set_cons_succ]); rfl) (hN : oi.dst = some n := by exact rfl)
    (hc : takeW T B ds l.toList l'.toList i = true := by kernel_rfl) (hQ : ∀ c a w, Q (.panic c) (a.put oi.dst v) w → Q (.panic c) a w := by exact fun _ _ _ h => h) (hw : Region.wanted oi (yielded ops a.tmps) = true := by rfl) (ha : a.put (some n) v = a' := by (simp only [Act.put, List.setIfInBounds_toArray, List.set_cons_zero, List.set_cons_succ, i64_w, i32_w]); rfl) : wpAnyLast P md ops Q S ds (fuel + 1) l a w :=
  have _ := hl; take_ _ hi hN (take_ofW hT.out hB.out hc) hQ (Or.inl ⟨hw, hy⟩) hS ha h
end
section
variable {f : Operand → Value} {a b c d e g h i : Operand} {a' b' c' d' e' g' h' i' : Value}
theorem mA0 : (#[] : Array Operand).map f = #[] := by simp
theorem mA1 (h1 : f a = a') : #[a].map f = #[a'] := by subst h1; simp
theorem mA2 (h1 : f a = a') (h2 : f b = b') : #[a, b].map f = #[a', b'] := by subst h1 h2; simp
theorem mA3 (h1 : f a = a') (h2 : f b = b') (h3 : f c = c') : #[a, b, c].map f = #[a', b', c'] := by subst h1 h2 h3; simp
theorem mA4 (h1 : f a = a') (h2 : f b = b') (h3 : f c = c') (h4 : f d = d') : #[a, b, c, d].map f = #[a', b', c', d'] := by subst h1 h2 h3 h4; simp
theorem mA5 (h1 : f a = a') (h2 : f b = b') (h3 : f c = c') (h4 : f d = d') (h5 : f e = e') : #[a, b, c, d, e].map f = #[a', b', c', d', e'] := by subst h1 h2 h3 h4 h5; simp
end
theorem mHx {w w' : World} {a : Addr} {v : Value} (hb : Aside0 (Below w.heap.size w w')) (h : w.cell? a = some v) : w'.cell? a = some v := (hb.out.cell (World.block_lt_of_cell? w _ h)).trans h
theorem mNo {c : Prop} [Decidable c] {α : Type} {A : Option α} {r : α} {G : Prop} (h : ¬ c) (H : (if c then A else none) = some r) : G := by rw [if_neg h] at H; cases H
theorem bO {P Q : Prop} (X : Aside0 Q) (h : Q → P := by intro hx_; (with_reducible repeat (first | refine blk_drewN ?_ _ | refine blk_drew ?_ | refine blk_alloc ?_ _)); exact hx_) : P := h X.out
theorem rO {P Q : Prop} (X : Aside0 Q) (h : Q → P := by intro hx_; (with_reducible repeat (first | apply Kd.R_alloc | apply Kd.R_drewN | apply Kd.R_drew)); exact hx_) : P := h X.out
theorem hO {P Q : Prop} (X : Aside0 Q) (h : Q → P := by intro hx_; repeat (first | (with_reducible first | exact hx_ | apply below_alloc | apply pw_below_drewN | apply below_drew1 | refine below_set ?_ (Aside0.out (by assumption))) | exact hx_)) : P := h X.out
theorem mSx {w0 w w1 w2 : World} (X : Aside0 (Below w0.heap.size w0 w)) (hb : Below w2.heap.size w2 w1) (h : Below w0.heap.size w0 w → Below w0.heap.size w0 w2 := by intro hx_; repeat (first | (with_reducible first | exact hx_ | apply below_alloc | apply pw_below_drewN | apply below_drew1 | refine below_set ?_ (Aside0.out (by assumption))) | exact hx_)) : Aside0 (Below w0.heap.size w0 w1) := ⟨below_step (h X.out) hb⟩
theorem mGx {w0 w w2 : World} {g : Nat} (X : Aside0 (Below w0.heap.size w0 w)) (hg : g = w2.heap.size) (h : Below w0.heap.size w0 w → Below w0.heap.size w0 w2 := by intro hx_; repeat (first | (with_reducible first | exact hx_ | apply below_alloc | apply pw_below_drewN | apply below_drew1 | refine below_set ?_ (Aside0.out (by assumption))) | exact hx_)) : Aside0 (w0.heap.size ≤ g) := ⟨by rw [hg]; exact below_size (h X.out)⟩
theorem cO {P Q : Prop} (X : Q) (h : Q → P := by intro hx_; repeat (first | exact hx_ | (with_reducible refine Kd.C_alloc ?_ _) | (with_reducible refine Kd.C_drewN ?_ _) | (with_reducible refine Kd.C_drew ?_))) : P := h X
end Go.Proofs.YtimikhbnihedkaaDoorW.PrintLast
/- The contracts of strings.Contains, strings.Join and strconv.Itoa, laid at this program by the kit's shelf tools. -/
namespace Go.Proofs
open Go.Shelf
def Tryd.lays156_ren : Go.Shelf.Ren := ⟨fun | 156 => 53 | 165 => 74 | 166 => 75 | 169 => 76 | 240 => 88 | 241 => 89 | 276 => 98 | 277 => 99 | n => n, fun | 31 => 28 | 9 => 9 | 3 => 3 | 4 => 4 | 0 => 0 | 20 => 20 | 72 => 94 | 76 => 98 | 70 => 91 | 37 => 92 | 75 => 97 | 127 => 104 | 164 => 112 | 5 => 5 | 80 => 100 | n => n, fun | n => n⟩
theorem Tryd.lays156 : Go.Proofs.Lays.n156 Tryd.prog Tryd.lays156_ren := {
  mixed := by kernel_rfl
  f156 := Tryd.func53.trans (congrArg some (by kernel_rfl))
  f165 := Tryd.func74.trans (congrArg some (by kernel_rfl))
  f166 := Tryd.func75.trans (congrArg some (by kernel_rfl))
  f169 := Tryd.func76.trans (congrArg some (by kernel_rfl))
  f240 := Tryd.func88.trans (congrArg some (by kernel_rfl))
  f241 := Tryd.func89.trans (congrArg some (by kernel_rfl))
  f276 := Tryd.func98.trans (congrArg some (by kernel_rfl))
  f277 := Tryd.func99.trans (congrArg some (by kernel_rfl))
  t0 := Tryd.underlying0
  a0 := Tryd.isAgg0
  z0 := Tryd.sizeOf0
  v0 := Tryd.zeroValue0
  t3 := Tryd.underlying3
  a3 := Tryd.isAgg3
  z3 := Tryd.sizeOf3
  v3 := Tryd.zeroValue3
  t4 := Tryd.underlying4
  a4 := Tryd.isAgg4
  z4 := Tryd.sizeOf4
  v4 := Tryd.zeroValue4
  t9 := Tryd.underlying9
  a9 := Tryd.isAgg9
  z9 := Tryd.sizeOf9
  v9 := Tryd.zeroValue9
  t20 := Tryd.underlying20
  a20 := Tryd.isAgg20
  z20 := Tryd.sizeOf20
  v20 := Tryd.zeroValue20
  t31 := Tryd.underlying28
  a31 := Tryd.isAgg28
  z31 := Tryd.sizeOf28
  v31 := Tryd.zeroValue28
  t37 := Tryd.underlying92
  a37 := Tryd.isAgg92
  z37 := Tryd.sizeOf92
  v37 := Tryd.zeroValue92
  t70 := Tryd.underlying91
  a70 := Tryd.isAgg91
  z70 := Tryd.sizeOf91
  v70 := Tryd.zeroValue91
  t72 := Tryd.underlying94
  a72 := Tryd.isAgg94
  z72 := Tryd.sizeOf94
  v72 := Tryd.zeroValue94
  t75 := Tryd.underlying97
  a75 := Tryd.isAgg97
  z75 := Tryd.sizeOf97
  v75 := Tryd.zeroValue97
  t76 := Tryd.underlying98
  a76 := Tryd.isAgg98
  z76 := Tryd.sizeOf98
  v76 := Tryd.zeroValue98
  t127 := Tryd.underlying104
  a127 := Tryd.isAgg104
  z127 := Tryd.sizeOf104
  v127 := Tryd.zeroValue104
  t164 := Tryd.underlying112
  a164 := Tryd.isAgg112
  z164 := Tryd.sizeOf112
  v164 := Tryd.zeroValue112 }
theorem Tryd.Builder_Extra_156 : Builder.Extra Tryd.prog Tryd.lays156_ren := {
  sizeBuilder := by kernel_rfl
  liesBuilder := by kernel_rfl
  t5 := Tryd.underlying5
  a5 := Tryd.isAgg5
  z5 := Tryd.sizeOf5
  v5 := Tryd.zeroValue5
  infoByte := by kernel_rfl
  cellsByte := by kernel_rfl
  sizeByte := by kernel_rfl
  neB5 := by decide }
open Go.RowKit in
/-- No element: the empty string; the world is as it was. (Whatever the slice's address and capacity: a nil slice too.) (LAID: no walk: one application.) -/
theorem Tryd.strings_Join_none (a : Option Addr) (c : Nat) (sep : ByteArray) (w : World) :
    Calls Tryd.prog 53 #[.slice a 0 c, .string sep] w fun e w' => e = .returned (.string ⟨#[]⟩) ∧ w' = w := Any.strings_Join_none Tryd.lays156 Tryd.Builder_Extra_156 a c sep w
open Go.RowKit in
/-- strings.Join: "Join concatenates the elements of its first argument to create a single string. The separator string sep is placed between elements in the resulting string.": HOWEVER MANY ELEMENTS. Below the heap's end the world is as it was. (LAID: no walk: one application.) -/
theorem Tryd.strings_Join (bk o c : Nat) (xs : List ByteArray) (sep : ByteArray) (w : World) (hcells : ∀ (j : Nat) x, xs[j]? = some x → w.cell? ⟨bk, o + j, none⟩ = some (.string x)) (hbk : bk < w.heap.size) (hN : xs.length ≤ 140737488355328) (hcap : xs.length ≤ c) (hlen : (Lib.join (xs.map (·.data.toList)) sep.data.toList).length ≤ 140737488355328) :
    Calls Tryd.prog 53 #[.slice (some ⟨bk, o, none⟩) xs.length c, .string sep] w fun e w' => e = .returned (.string ⟨(Lib.join (xs.map (·.data.toList)) sep.data.toList).toArray⟩) ∧ Below w.heap.size w w' := Any.strings_Join Tryd.lays156 Tryd.Builder_Extra_156 bk o c xs sep w hcells hbk hN hcap hlen
def Tryd.lays171_ren : Go.Shelf.Ren := ⟨fun | 171 => 51 | 243 => 73 | 246 => 87 | 283 => 94 | 284 => 95 | 285 => 96 | 286 => 97 | 129 => 102 | 317 => 101 | 318 => 103 | 319 => 104 | 320 => 105 | 337 => 110 | 338 => 111 | n => n, fun | 3 => 3 | 9 => 9 | 2 => 2 | 4 => 4 | 171 => 106 | 0 => 0 | 53 => 107 | 37 => 92 | 5 => 5 | 173 => 110 | 212 => 117 | 51 => 118 | 20 => 20 | 213 => 119 | 46 => 120 | 232 => 126 | 233 => 127 | n => n, fun | 17 => 0 | 18 => 2 | 19 => 3 | n => n⟩
theorem Tryd.lays171 : Go.Proofs.Lays.n171 Tryd.prog Tryd.lays171_ren := {
  mixed := by kernel_rfl
  f129 := Tryd.func102.trans (congrArg some (by kernel_rfl))
  f171 := Tryd.func51.trans (congrArg some (by kernel_rfl))
  f243 := Tryd.func73.trans (congrArg some (by kernel_rfl))
  f246 := Tryd.func87.trans (congrArg some (by kernel_rfl))
  f283 := Tryd.func94.trans (congrArg some (by kernel_rfl))
  f284 := Tryd.func95.trans (congrArg some (by kernel_rfl))
  f285 := Tryd.func96.trans (congrArg some (by kernel_rfl))
  f286 := Tryd.func97.trans (congrArg some (by kernel_rfl))
  f317 := Tryd.func101.trans (congrArg some (by kernel_rfl))
  f318 := Tryd.func103.trans (congrArg some (by kernel_rfl))
  f319 := Tryd.func104.trans (congrArg some (by kernel_rfl))
  f320 := Tryd.func105.trans (congrArg some (by kernel_rfl))
  f337 := Tryd.func110.trans (congrArg some (by kernel_rfl))
  f338 := Tryd.func111.trans (congrArg some (by kernel_rfl))
  t0 := Tryd.underlying0
  a0 := Tryd.isAgg0
  z0 := Tryd.sizeOf0
  v0 := Tryd.zeroValue0
  t2 := Tryd.underlying2
  a2 := Tryd.isAgg2
  z2 := Tryd.sizeOf2
  v2 := Tryd.zeroValue2
  t3 := Tryd.underlying3
  a3 := Tryd.isAgg3
  z3 := Tryd.sizeOf3
  v3 := Tryd.zeroValue3
  t4 := Tryd.underlying4
  a4 := Tryd.isAgg4
  z4 := Tryd.sizeOf4
  v4 := Tryd.zeroValue4
  t5 := Tryd.underlying5
  a5 := Tryd.isAgg5
  z5 := Tryd.sizeOf5
  v5 := Tryd.zeroValue5
  t9 := Tryd.underlying9
  a9 := Tryd.isAgg9
  z9 := Tryd.sizeOf9
  v9 := Tryd.zeroValue9
  t20 := Tryd.underlying20
  a20 := Tryd.isAgg20
  z20 := Tryd.sizeOf20
  v20 := Tryd.zeroValue20
  t37 := Tryd.underlying92
  a37 := Tryd.isAgg92
  z37 := Tryd.sizeOf92
  v37 := Tryd.zeroValue92
  t46 := Tryd.underlying120
  a46 := Tryd.isAgg120
  z46 := Tryd.sizeOf120
  v46 := Tryd.zeroValue120
  t51 := Tryd.underlying118
  a51 := Tryd.isAgg118
  z51 := Tryd.sizeOf118
  v51 := Tryd.zeroValue118
  t53 := Tryd.underlying107
  a53 := Tryd.isAgg107
  z53 := Tryd.sizeOf107
  v53 := Tryd.zeroValue107
  t171 := Tryd.underlying106
  a171 := Tryd.isAgg106
  z171 := Tryd.sizeOf106
  v171 := Tryd.zeroValue106
  t173 := Tryd.underlying110
  a173 := Tryd.isAgg110
  z173 := Tryd.sizeOf110
  v173 := Tryd.zeroValue110
  t212 := Tryd.underlying117
  a212 := Tryd.isAgg117
  z212 := Tryd.sizeOf117
  v212 := Tryd.zeroValue117
  t213 := Tryd.underlying119
  a213 := Tryd.isAgg119
  z213 := Tryd.sizeOf119
  t232 := Tryd.underlying126
  a232 := Tryd.isAgg126
  z232 := Tryd.sizeOf126
  v232 := Tryd.zeroValue126
  t233 := Tryd.underlying127
  a233 := Tryd.isAgg127
  z233 := Tryd.sizeOf127
  v233 := Tryd.zeroValue127
  g17 := by kernel_rfl
  g18 := by kernel_rfl
  g19 := by kernel_rfl }
open Go.RowKit Go.Sort Go.Lib in
/-- THE ROAD WITHOUT THE TABLE: 0 <= i < 100: NO PREMISE ON THE WORLD, AND THE WORLD IS AS IT WAS: a row that keeps its argument in that range need list no table ('laid = []'). (LAID: no walk: one application.) -/
theorem Tryd.strconv_Itoa_small (i : Nat) (hi : i < 100) (w : World) :
    Calls Tryd.prog 51 #[.int .i64 i] w fun e w' => e = .returned (.string ⟨(Lib.decDigits i).toArray⟩) ∧ w' = w := Any.strconv_Itoa_small Tryd.lays171 i hi w
def Tryd.lays144_ren : Go.Shelf.Ren := ⟨fun | 144 => 79 | 143 => 91 | 219 => 100 | 217 => 106 | 225 => 107 | 224 => 108 | 267 => 109 | 266 => 112 | 314 => 113 | n => n, fun | 9 => 9 | 4 => 4 | 3 => 3 | 5 => 5 | 46 => 120 | 146 => 124 | 51 => 118 | n => n, fun | 1 => 1 | n => n⟩
theorem Tryd.lays144 : Go.Proofs.Lays.n144 Tryd.prog Tryd.lays144_ren := {
  mixed := by kernel_rfl
  f143 := Tryd.func91.trans (congrArg some (by kernel_rfl))
  f144 := Tryd.func79.trans (congrArg some (by kernel_rfl))
  f217 := Tryd.func106.trans (congrArg some (by kernel_rfl))
  f219 := Tryd.func100.trans (congrArg some (by kernel_rfl))
  f224 := Tryd.func108.trans (congrArg some (by kernel_rfl))
  f225 := Tryd.func107.trans (congrArg some (by kernel_rfl))
  f266 := Tryd.func112.trans (congrArg some (by kernel_rfl))
  f267 := Tryd.func109.trans (congrArg some (by kernel_rfl))
  f314 := Tryd.func113.trans (congrArg some (by kernel_rfl))
  t3 := Tryd.underlying3
  a3 := Tryd.isAgg3
  z3 := Tryd.sizeOf3
  v3 := Tryd.zeroValue3
  t4 := Tryd.underlying4
  a4 := Tryd.isAgg4
  z4 := Tryd.sizeOf4
  v4 := Tryd.zeroValue4
  t5 := Tryd.underlying5
  a5 := Tryd.isAgg5
  z5 := Tryd.sizeOf5
  v5 := Tryd.zeroValue5
  t9 := Tryd.underlying9
  a9 := Tryd.isAgg9
  z9 := Tryd.sizeOf9
  v9 := Tryd.zeroValue9
  t46 := Tryd.underlying120
  a46 := Tryd.isAgg120
  z46 := Tryd.sizeOf120
  v46 := Tryd.zeroValue120
  t51 := Tryd.underlying118
  a51 := Tryd.isAgg118
  z51 := Tryd.sizeOf118
  v51 := Tryd.zeroValue118
  t146 := Tryd.underlying124
  a146 := Tryd.isAgg124
  z146 := Tryd.sizeOf124
  v146 := Tryd.zeroValue124
  g1 := by kernel_rfl }
open Go.RowKit Go.Lib in
/-- strings.Contains: "Contains reports whether substr is within s.": IT RETURNS 'Lib.contains s substr'; the world is as it was. (LAID: no walk: one application.) -/
theorem Tryd.strings_Contains (s sub : ByteArray) (m : Int) (w : World) (hs : s.size < 4294967281) (hm : w.cell? ⟨1, 0, none⟩ = some (.int .i64 m)) :
    Calls Tryd.prog 79 #[.string s, .string sub] w fun e w' => e = .returned (.bool (Lib.contains s.data.toList sub.data.toList)) ∧ w' = w := Any.strings_Contains Tryd.lays144 s sub m w hs hm
end Go.Proofs
/- internal/bytealg.MaxLen holds a number: what the library's searches ask of the world, handed on. -/
namespace Go.Proofs.YtimikhbnihedkaaDoorW.PrintWords
open Go Go.RowKit
def Mx (w : World) : Prop := ∃ m, w.cell? ⟨1, 0, none⟩ = some (.int .i64 m)
theorem Mx.below {w w' : World} (h : Mx w) (hb : Below w.heap.size w w') : Mx w' := by
  obtain ⟨m, hm⟩ := h
  exact ⟨m, (hb.cell (World.block_lt_of_cell? w _ hm)).trans hm⟩
theorem Mx.drewN {w : World} {n : Nat} (h : Mx w) : Mx (w.drewN n) := h
theorem isE_ (l : List UInt8) : l.isEmpty = !(l != []) := by cases l <;> rfl
theorem Mx.drew {w : World} (h : Mx w) : Mx w.drew := h
end Go.Proofs.YtimikhbnihedkaaDoorW.PrintWords
namespace Go.Proofs.YtimikhbnihedkaaDoor.PAll
open Go.RowKit Go.Proofs.YtimikhbnihedkaaDoorW.PrintWords Go.Proofs.YtimikhbnihedkaaDoorW.PrintLast Go.Proofs.YtimikhbnihedkaaDoorW.PrintMore
attribute [local go_sem] max2_int min2_int max_two min_two max_three min_three max_four min_four
set_option linter.unusedVariables false
set_option linter.unusedSimpArgs false



def errW : Option Int → Value
  | none => .nilIface
  | some c => .iface 0 (.int .i64 c)
theorem errW_none : errW none = .nilIface := rfl
theorem errW_some (c : Int) : errW (some c) = .iface 0 (.int .i64 c) := rfl

theorem info3 : (Tryd.prog.info? 3).map (fun i => (i.zero, i.size, i.bytes)) = some (some (.int .i64 0), 1, 8) := by kernel_rfl
theorem info5 : (Tryd.prog.info? 5).map (fun i => (i.zero, i.size, i.bytes)) = some (some (.int .u8 0), 1, 1) := by kernel_rfl
theorem info9 : (Tryd.prog.info? 9).map (fun i => (i.zero, i.size, i.bytes)) = some (some (.string ⟨#[]⟩), 1, 16) := by kernel_rfl
theorem info22 : (Tryd.prog.info? 22).map (fun i => (i.zero, i.size, i.bytes)) = some (some (.slice none 0 0), 1, 24) := by kernel_rfl
theorem info43 : (Tryd.prog.info? 43).map (fun i => (i.zero, i.size, i.bytes)) = some (some (.agg #[(.int .i64 0), (.string ⟨#[]⟩), (.int .i64 0), (.int .i64 0)]), 4, 40) := by kernel_rfl
theorem info63 : (Tryd.prog.info? 63).map (fun i => (i.zero, i.size, i.bytes)) = some (some (.agg #[(.string ⟨#[]⟩), (.int .i64 0), (.bool false), (.bool false), (.int .i64 0)]), 5, 40) := by kernel_rfl
theorem info72 : (Tryd.prog.info? 72).map (fun i => (i.zero, i.size, i.bytes)) = some (some (.agg #[(.string ⟨#[]⟩), (.int .i64 0), (.bool false), (.bool false), (.int .i64 0)]), 5, 40) := by kernel_rfl
/-! #### struct type 43 -/
structure S43 where
  f0 : Int
  f1 : ByteArray
  f2 : Int
  f3 : Int
def z43 : S43 := ⟨(0 : Int), (⟨#[]⟩ : ByteArray), (0 : Int), (0 : Int)⟩
def k43 : Kd S43 := Kd.iso (Kd.pair (Kd.int .i64) (Kd.pair Kd.string (Kd.pair (Kd.int .i64) (Kd.int .i64)))) (fun x : S43 => (x.f0, x.f1, x.f2, x.f3))
theorem k43_heap : Kd.Heap k43 := Kd.heap_iso _ (Kd.heap_pair (Kd.heap_int .i64) (Kd.heap_pair Kd.heap_string (Kd.heap_pair (Kd.heap_int .i64) (Kd.heap_int .i64))))
theorem k43_open {w : World} {x : S43} {cs : List Value} (h : k43.K w x cs) : cs = [.int .i64 x.f0, .string x.f1, .int .i64 x.f2, .int .i64 x.f3] := by
  obtain ⟨_, _, rfl, rfl, ⟨_, _, rfl, rfl, ⟨_, _, rfl, rfl, rfl⟩⟩⟩ := h
  exact rfl
theorem k43_openM {w : World} {base : Nat} {ok : Nat → Prop} {x : S43} {cs : List Value} (h : k43.M w base ok x cs) : cs = [.int .i64 x.f0, .string x.f1, .int .i64 x.f2, .int .i64 x.f3] := by
  obtain ⟨_, _, rfl, rfl, ⟨_, _, rfl, rfl, ⟨_, _, rfl, rfl, rfl⟩⟩⟩ := h
  exact rfl
theorem k43_mk (w : World) (x : S43)  : k43.K w x [.int .i64 x.f0, .string x.f1, .int .i64 x.f2, .int .i64 x.f3] := ⟨[.int .i64 x.f0], [.string x.f1, .int .i64 x.f2, .int .i64 x.f3], rfl, rfl, ⟨[.string x.f1], [.int .i64 x.f2, .int .i64 x.f3], rfl, rfl, ⟨[.int .i64 x.f2], [.int .i64 x.f3], rfl, rfl, rfl⟩⟩⟩
theorem k43_mkM (w : World) (base : Nat) (ok : Nat → Prop) (x : S43)  : k43.M w base ok x [.int .i64 x.f0, .string x.f1, .int .i64 x.f2, .int .i64 x.f3] := ⟨[.int .i64 x.f0], [.string x.f1, .int .i64 x.f2, .int .i64 x.f3], rfl, rfl, ⟨[.string x.f1], [.int .i64 x.f2, .int .i64 x.f3], rfl, rfl, ⟨[.int .i64 x.f2], [.int .i64 x.f3], rfl, rfl, rfl⟩⟩⟩
theorem k43_mkF (W : World) (ok : Nat → Prop) (x : S43) : Kd.FK k43 W ok x [.int .i64 x.f0, .string x.f1, .int .i64 x.f2, .int .i64 x.f3] := fun W2 _ => k43_mk W2 x
def rd_T43 (xs : List S43) (i : Int) : S43 := xs.getD i.toNat z43
theorem at_T43 {w : World} {A : Option Addr} {n : Nat} {xs : List S43} (h : Kd.C k43 w A n xs) (i : Int) (h0 : 0 ≤ i) (h1 : i < n) : ∃ ad , A = some ad ∧ w.cell? (ad.add (i.toNat * 4)) = some (.int .i64 (rd_T43 xs i).f0) ∧ w.cell? ⟨(ad.add (i.toNat * 4)).block, (ad.add (i.toNat * 4)).off + 1, none⟩ = some (.string (rd_T43 xs i).f1) ∧ w.cell? ⟨(ad.add (i.toNat * 4)).block, (ad.add (i.toNat * 4)).off + 2, none⟩ = some (.int .i64 (rd_T43 xs i).f2) ∧ w.cell? ⟨(ad.add (i.toNat * 4)).block, (ad.add (i.toNat * 4)).off + 3, none⟩ = some (.int .i64 (rd_T43 xs i).f3) := by
  obtain ⟨ad, c, e, _, hK, hc0⟩ := Kd.C_get h z43 i h0 h1
  have hc : ∀ j u, c[j]? = some u → w.cell? (ad.add (i.toNat * 4 + j)) = some u := hc0
  obtain rfl := k43_open hK
  exact ⟨ad, e, hc 0 _ rfl, by rw [← add_field _ _ 1 (by omega)]; exact hc 1 _ rfl, by rw [← add_field _ _ 2 (by omega)]; exact hc 2 _ rfl, by rw [← add_field _ _ 3 (by omega)]; exact hc 3 _ rfl⟩

def rd_L3 (xs : List (List S43)) (i : Int) : (List S43) := xs.getD i.toNat ([] : List S43)
theorem at_L3 {w : World} {A : Option Addr} {n : Nat} {xs : List (List S43)} (h : Kd.C (Kd.slice 43 k43) w A n xs) (i : Int) (h0 : 0 ≤ i) (h1 : i < n) : ∃ ad A0 c0, A = some ad ∧ w.cell? (ad.add i.toNat) = some (.slice A0 (rd_L3 xs i).length c0) ∧ (rd_L3 xs i).length ≤ c0 ∧ k43.C w A0 (rd_L3 xs i).length (rd_L3 xs i) := by
  obtain ⟨ad, c, e, _, hK, hc0⟩ := Kd.C_get h ([] : List S43) i h0 h1
  have hc : ∀ j u, c[j]? = some u → w.cell? (ad.add (i.toNat * 1 + j)) = some u := hc0
  obtain ⟨A0, c0, rfl, l0, g0⟩ := hK
  exact ⟨ad, A0, c0, e, by have hq := hc 0 _ rfl; rwa [Nat.mul_one, Nat.add_zero] at hq, l0, g0⟩

/-! #### struct type 63 -/
structure S63 where
  f0 : ByteArray
  f1 : Int
  f2 : Bool
  f3 : Bool
  f4 : Int
def z63 : S63 := ⟨(⟨#[]⟩ : ByteArray), (0 : Int), false, false, (0 : Int)⟩
def k63 : Kd S63 := Kd.iso (Kd.pair Kd.string (Kd.pair (Kd.int .i64) (Kd.pair Kd.bool (Kd.pair Kd.bool (Kd.int .i64))))) (fun x : S63 => (x.f0, x.f1, x.f2, x.f3, x.f4))
theorem k63_heap : Kd.Heap k63 := Kd.heap_iso _ (Kd.heap_pair Kd.heap_string (Kd.heap_pair (Kd.heap_int .i64) (Kd.heap_pair Kd.heap_bool (Kd.heap_pair Kd.heap_bool (Kd.heap_int .i64)))))
theorem k63_open {w : World} {x : S63} {cs : List Value} (h : k63.K w x cs) : cs = [.string x.f0, .int .i64 x.f1, .bool x.f2, .bool x.f3, .int .i64 x.f4] := by
  obtain ⟨_, _, rfl, rfl, ⟨_, _, rfl, rfl, ⟨_, _, rfl, rfl, ⟨_, _, rfl, rfl, rfl⟩⟩⟩⟩ := h
  exact rfl
theorem k63_openM {w : World} {base : Nat} {ok : Nat → Prop} {x : S63} {cs : List Value} (h : k63.M w base ok x cs) : cs = [.string x.f0, .int .i64 x.f1, .bool x.f2, .bool x.f3, .int .i64 x.f4] := by
  obtain ⟨_, _, rfl, rfl, ⟨_, _, rfl, rfl, ⟨_, _, rfl, rfl, ⟨_, _, rfl, rfl, rfl⟩⟩⟩⟩ := h
  exact rfl
theorem k63_mk (w : World) (x : S63)  : k63.K w x [.string x.f0, .int .i64 x.f1, .bool x.f2, .bool x.f3, .int .i64 x.f4] := ⟨[.string x.f0], [.int .i64 x.f1, .bool x.f2, .bool x.f3, .int .i64 x.f4], rfl, rfl, ⟨[.int .i64 x.f1], [.bool x.f2, .bool x.f3, .int .i64 x.f4], rfl, rfl, ⟨[.bool x.f2], [.bool x.f3, .int .i64 x.f4], rfl, rfl, ⟨[.bool x.f3], [.int .i64 x.f4], rfl, rfl, rfl⟩⟩⟩⟩
theorem k63_mkM (w : World) (base : Nat) (ok : Nat → Prop) (x : S63)  : k63.M w base ok x [.string x.f0, .int .i64 x.f1, .bool x.f2, .bool x.f3, .int .i64 x.f4] := ⟨[.string x.f0], [.int .i64 x.f1, .bool x.f2, .bool x.f3, .int .i64 x.f4], rfl, rfl, ⟨[.int .i64 x.f1], [.bool x.f2, .bool x.f3, .int .i64 x.f4], rfl, rfl, ⟨[.bool x.f2], [.bool x.f3, .int .i64 x.f4], rfl, rfl, ⟨[.bool x.f3], [.int .i64 x.f4], rfl, rfl, rfl⟩⟩⟩⟩
theorem k63_mkF (W : World) (ok : Nat → Prop) (x : S63) : Kd.FK k63 W ok x [.string x.f0, .int .i64 x.f1, .bool x.f2, .bool x.f3, .int .i64 x.f4] := fun W2 _ => k63_mk W2 x
def rd_T63 (xs : List S63) (i : Int) : S63 := xs.getD i.toNat z63
theorem at_T63 {w : World} {A : Option Addr} {n : Nat} {xs : List S63} (h : Kd.C k63 w A n xs) (i : Int) (h0 : 0 ≤ i) (h1 : i < n) : ∃ ad , A = some ad ∧ w.cell? (ad.add (i.toNat * 5)) = some (.string (rd_T63 xs i).f0) ∧ w.cell? ⟨(ad.add (i.toNat * 5)).block, (ad.add (i.toNat * 5)).off + 1, none⟩ = some (.int .i64 (rd_T63 xs i).f1) ∧ w.cell? ⟨(ad.add (i.toNat * 5)).block, (ad.add (i.toNat * 5)).off + 2, none⟩ = some (.bool (rd_T63 xs i).f2) ∧ w.cell? ⟨(ad.add (i.toNat * 5)).block, (ad.add (i.toNat * 5)).off + 3, none⟩ = some (.bool (rd_T63 xs i).f3) ∧ w.cell? ⟨(ad.add (i.toNat * 5)).block, (ad.add (i.toNat * 5)).off + 4, none⟩ = some (.int .i64 (rd_T63 xs i).f4) := by
  obtain ⟨ad, c, e, _, hK, hc0⟩ := Kd.C_get h z63 i h0 h1
  have hc : ∀ j u, c[j]? = some u → w.cell? (ad.add (i.toNat * 5 + j)) = some u := hc0
  obtain rfl := k63_open hK
  exact ⟨ad, e, hc 0 _ rfl, by rw [← add_field _ _ 1 (by omega)]; exact hc 1 _ rfl, by rw [← add_field _ _ 2 (by omega)]; exact hc 2 _ rfl, by rw [← add_field _ _ 3 (by omega)]; exact hc 3 _ rfl, by rw [← add_field _ _ 4 (by omega)]; exact hc 4 _ rfl⟩

/-! #### struct type 72 -/
structure S72 where
  f0 : ByteArray
  f1 : Int
  f2 : Bool
  f3 : Bool
  f4 : Int
def z72 : S72 := ⟨(⟨#[]⟩ : ByteArray), (0 : Int), false, false, (0 : Int)⟩
def k72 : Kd S72 := Kd.iso (Kd.pair Kd.string (Kd.pair (Kd.int .i64) (Kd.pair Kd.bool (Kd.pair Kd.bool (Kd.int .i64))))) (fun x : S72 => (x.f0, x.f1, x.f2, x.f3, x.f4))
theorem k72_heap : Kd.Heap k72 := Kd.heap_iso _ (Kd.heap_pair Kd.heap_string (Kd.heap_pair (Kd.heap_int .i64) (Kd.heap_pair Kd.heap_bool (Kd.heap_pair Kd.heap_bool (Kd.heap_int .i64)))))
theorem k72_open {w : World} {x : S72} {cs : List Value} (h : k72.K w x cs) : cs = [.string x.f0, .int .i64 x.f1, .bool x.f2, .bool x.f3, .int .i64 x.f4] := by
  obtain ⟨_, _, rfl, rfl, ⟨_, _, rfl, rfl, ⟨_, _, rfl, rfl, ⟨_, _, rfl, rfl, rfl⟩⟩⟩⟩ := h
  exact rfl
theorem k72_openM {w : World} {base : Nat} {ok : Nat → Prop} {x : S72} {cs : List Value} (h : k72.M w base ok x cs) : cs = [.string x.f0, .int .i64 x.f1, .bool x.f2, .bool x.f3, .int .i64 x.f4] := by
  obtain ⟨_, _, rfl, rfl, ⟨_, _, rfl, rfl, ⟨_, _, rfl, rfl, ⟨_, _, rfl, rfl, rfl⟩⟩⟩⟩ := h
  exact rfl
theorem k72_mk (w : World) (x : S72)  : k72.K w x [.string x.f0, .int .i64 x.f1, .bool x.f2, .bool x.f3, .int .i64 x.f4] := ⟨[.string x.f0], [.int .i64 x.f1, .bool x.f2, .bool x.f3, .int .i64 x.f4], rfl, rfl, ⟨[.int .i64 x.f1], [.bool x.f2, .bool x.f3, .int .i64 x.f4], rfl, rfl, ⟨[.bool x.f2], [.bool x.f3, .int .i64 x.f4], rfl, rfl, ⟨[.bool x.f3], [.int .i64 x.f4], rfl, rfl, rfl⟩⟩⟩⟩
theorem k72_mkM (w : World) (base : Nat) (ok : Nat → Prop) (x : S72)  : k72.M w base ok x [.string x.f0, .int .i64 x.f1, .bool x.f2, .bool x.f3, .int .i64 x.f4] := ⟨[.string x.f0], [.int .i64 x.f1, .bool x.f2, .bool x.f3, .int .i64 x.f4], rfl, rfl, ⟨[.int .i64 x.f1], [.bool x.f2, .bool x.f3, .int .i64 x.f4], rfl, rfl, ⟨[.bool x.f2], [.bool x.f3, .int .i64 x.f4], rfl, rfl, ⟨[.bool x.f3], [.int .i64 x.f4], rfl, rfl, rfl⟩⟩⟩⟩
theorem k72_mkF (W : World) (ok : Nat → Prop) (x : S72) : Kd.FK k72 W ok x [.string x.f0, .int .i64 x.f1, .bool x.f2, .bool x.f3, .int .i64 x.f4] := fun W2 _ => k72_mk W2 x
def rd_T72 (xs : List S72) (i : Int) : S72 := xs.getD i.toNat z72
theorem at_T72 {w : World} {A : Option Addr} {n : Nat} {xs : List S72} (h : Kd.C k72 w A n xs) (i : Int) (h0 : 0 ≤ i) (h1 : i < n) : ∃ ad , A = some ad ∧ w.cell? (ad.add (i.toNat * 5)) = some (.string (rd_T72 xs i).f0) ∧ w.cell? ⟨(ad.add (i.toNat * 5)).block, (ad.add (i.toNat * 5)).off + 1, none⟩ = some (.int .i64 (rd_T72 xs i).f1) ∧ w.cell? ⟨(ad.add (i.toNat * 5)).block, (ad.add (i.toNat * 5)).off + 2, none⟩ = some (.bool (rd_T72 xs i).f2) ∧ w.cell? ⟨(ad.add (i.toNat * 5)).block, (ad.add (i.toNat * 5)).off + 3, none⟩ = some (.bool (rd_T72 xs i).f3) ∧ w.cell? ⟨(ad.add (i.toNat * 5)).block, (ad.add (i.toNat * 5)).off + 4, none⟩ = some (.int .i64 (rd_T72 xs i).f4) := by
  obtain ⟨ad, c, e, _, hK, hc0⟩ := Kd.C_get h z72 i h0 h1
  have hc : ∀ j u, c[j]? = some u → w.cell? (ad.add (i.toNat * 5 + j)) = some u := hc0
  obtain rfl := k72_open hK
  exact ⟨ad, e, hc 0 _ rfl, by rw [← add_field _ _ 1 (by omega)]; exact hc 1 _ rfl, by rw [← add_field _ _ 2 (by omega)]; exact hc 2 _ rfl, by rw [← add_field _ _ 3 (by omega)]; exact hc 3 _ rfl, by rw [← add_field _ _ 4 (by omega)]; exact hc 4 _ rfl⟩
/-- A state of type 81 at block g of W; what its slices lead to came in by w0. -/
def IsS81 (w0 W : World) (g : Nat) (f0 : ByteArray) (f1 : Int) : Prop := W.heap[g]? = some (.cells #[.string f0, .int .i64 f1] 81 (0, 0)) ∧ w0.heap.size ≤ g
theorem IsS81.grown {w0 W : World} {g : Nat} {f0 : ByteArray} {f1 : Int} {W1 : World} {row : Option Nat} (h : IsS81 w0 W g f0 f1) (hw : W.grownBy W1 row) (hne : some g ≠ row) : IsS81 w0 W1 g f0 f1 := by
 obtain ⟨hb, hg⟩ := h
 exact ⟨blk_grown hb hw hne, hg⟩
theorem IsS81.own_neN {w0 W : World} {g : Nat} {f0 : ByteArray} {f1 : Int} {α : Type} {d : Kd α} {e : Nat} {base : Nat} {ok : Nat → Prop} {v : Value} {xs : List α} (h : IsS81 w0 W g f0 f1) (ho : Kd.N d e W base ok v xs) (ht : e ≠ 81) : some g ≠ v.ownBlock := by
 obtain ⟨hb, hg⟩ := h
 exact Kd.N_ne ho hb ht
theorem IsS81.fresh {w0 W : World} {g : Nat} {f0 : ByteArray} {f1 : Int} (h : IsS81 w0 W g f0 f1) : ∀ k, W.heap.size ≤ k → k ≠ g := by
 obtain ⟨hb, hg⟩ := h
 exact Kd.freshB hb
theorem IsS81.kept {w0 W : World} {g : Nat} {f0 : ByteArray} {f1 : Int} {W1 : World} {S : Nat → Prop} (h : IsS81 w0 W g f0 f1) (hk : Kept W W1 S) (hne : ¬ S g) : IsS81 w0 W1 g f0 f1 := by
 obtain ⟨hb, hg⟩ := h
 exact ⟨blk_kept hb hk hne, hg⟩
theorem IsS81.below {w0 W : World} {g : Nat} {f0 : ByteArray} {f1 : Int} {W1 : World} (h : IsS81 w0 W g f0 f1) (hw : Below W.heap.size W W1) : IsS81 w0 W1 g f0 f1 := h.grown (grown_of_below hw none) (by simp)
theorem IsS81.alloc {w0 W : World} {g : Nat} {f0 : ByteArray} {f1 : Int} (h : IsS81 w0 W g f0 f1) (o : Obj) : IsS81 w0 (W.alloc o) g f0 f1 := h.below (below_alloc (Below.refl _ _) o)
theorem IsS81.drewN {w0 W : World} {g : Nat} {f0 : ByteArray} {f1 : Int} (h : IsS81 w0 W g f0 f1) (m : Nat) : IsS81 w0 (W.drewN m) g f0 f1 := h
theorem IsS81.drew {w0 W : World} {g : Nat} {f0 : ByteArray} {f1 : Int} (h : IsS81 w0 W g f0 f1) : IsS81 w0 W.drew g f0 f1 := h
theorem IsS81.at_ {w0 W : World} {g : Nat} {f0 : ByteArray} {f1 : Int} {w' : World} {m : Nat} (hq : W.drewN m = w') (h : IsS81 w0 W g f0 f1) : IsS81 w0 w' g f0 f1 := by subst hq; exact IsS81.drewN h m
theorem IsS81.apart {w0 W : World} {g : Nat} {f0 : ByteArray} {f1 : Int} {α : Type} {d : Kd α} {e : Nat} {base : Nat} {ok : Nat → Prop} {v : Value} {xs : List α} (h : IsS81 w0 W g f0 f1) (ho : d.R e W base ok v xs) (ht : ∀ q, q ∈ e :: d.E → q ≠ 81) : d.R e W base (fun k => ok k ∧ k ≠ g) v xs := by
 obtain ⟨hb, hg⟩ := h
 exact Kd.R_types ho hb ht
theorem IsS81.own_ne {w0 W : World} {g : Nat} {f0 : ByteArray} {f1 : Int} {α : Type} {d : Kd α} {e : Nat} {base : Nat} {ok : Nat → Prop} {v : Value} {xs : List α} (h : IsS81 w0 W g f0 f1) (ho : d.R e W base ok v xs) (ht : e ≠ 81) : some g ≠ v.ownBlock := by
 obtain ⟨hb, hg⟩ := h
 exact Kd.R_ne ho hb ht
theorem IsS81.apartQ {w0 W : World} {g : Nat} {f0 : ByteArray} {f1 : Int} {α : Type} {d : Kd α} {e : Nat} {base : Nat} {ok : Nat → Prop} {v : Value} {xs : List α} (h : IsS81 w0 W g f0 f1) (ho : d.Q e W base ok v xs) (ht : ∀ q, q ∈ e :: d.E → q ≠ 81) : d.Q e W base (fun k => ok k ∧ k ≠ g) v xs := by
 obtain ⟨hb, hg⟩ := h
 exact Kd.Q_types ho hb ht
theorem IsS81.own_neQ {w0 W : World} {g : Nat} {f0 : ByteArray} {f1 : Int} {α : Type} {d : Kd α} {e : Nat} {base : Nat} {ok : Nat → Prop} {v : Value} {xs : List α} (h : IsS81 w0 W g f0 f1) (ho : d.Q e W base ok v xs) (ht : e ≠ 81) : some g ≠ v.ownBlock := by
 obtain ⟨hb, hg⟩ := h
 exact Kd.Q_ne ho hb ht
theorem IsS81.apartS {w0 W : World} {g : Nat} {f0 : ByteArray} {f1 : Int} {α : Type} {d : Kd α} {e : Nat} {base : Nat} {ok : Nat → Prop} {v : Value} {xs : List α} (h : IsS81 w0 W g f0 f1) (ho : d.S e W base ok v xs) (ht : ∀ q, q ∈ e :: d.E → q ≠ 81) : d.S e W base (fun k => ok k ∧ k ≠ g) v xs := by
 obtain ⟨hb, hg⟩ := h
 exact Kd.S_types ho hb ht
theorem IsS81.own_neS {w0 W : World} {g : Nat} {f0 : ByteArray} {f1 : Int} {α : Type} {d : Kd α} {e : Nat} {base : Nat} {ok : Nat → Prop} {v : Value} {xs : List α} (h : IsS81 w0 W g f0 f1) (ho : d.S e W base ok v xs) (ht : e ≠ 81) : some g ≠ v.ownBlock := by
 obtain ⟨hb, hg⟩ := h
 exact Kd.S_ne ho hb ht
theorem IsS81.lt {w0 W : World} {g : Nat} {f0 : ByteArray} {f1 : Int} (h : IsS81 w0 W g f0 f1) : g < W.heap.size := by
 obtain ⟨hb, hg⟩ := h
 exact blk_lt hb
theorem IsS81.ge {w0 W : World} {g : Nat} {f0 : ByteArray} {f1 : Int} (h : IsS81 w0 W g f0 f1) : w0.heap.size ≤ g := by
 obtain ⟨hb, hg⟩ := h
 exact hg
theorem IsS81.ne_blk {w0 W : World} {g : Nat} {f0 : ByteArray} {f1 : Int} {a : Nat} {cs : Array Value} {t : TypeId} {fr : Nat × Nat} (h : IsS81 w0 W g f0 f1) (hb2 : W.heap[a]? = some (.cells cs t fr)) (ht : t ≠ 81) : g ≠ a := by
 obtain ⟨hb, hg⟩ := h
 rintro rfl
 rw [hb] at hb2
 injection hb2 with hb2
 injection hb2 with _ ht2
 exact ht ht2.symm
theorem IsS81.far {w0 W : World} {g : Nat} {f0 : ByteArray} {f1 : Int} {p : Addr} (h : IsS81 w0 W g f0 f1) (hne : g ≠ p.block) (u : Value) : IsS81 w0 (W.setCell p u) g f0 f1 := by
 obtain ⟨hb, hg⟩ := h
 exact ⟨blk_far hb hne u, hg⟩
theorem cellS81_0 {W : World} {g : Nat} {f0 : ByteArray} {f1 : Int} (h : W.heap[g]? = some (.cells #[.string f0, .int .i64 f1] 81 (0, 0))) : W.cell? ⟨g, 0, none⟩ = some (.string f0) := (blk_cell h 0).trans rfl
theorem IsS81.set_0 {w0 W : World} {g : Nat} {f0 : ByteArray} {f1 : Int} (h : IsS81 w0 W g f0 f1) (x : ByteArray) : IsS81 w0 (W.setCell ⟨g, 0, none⟩ (.string x)) g x f1 := by
 obtain ⟨hb, hg⟩ := h
 exact ⟨by simpa using blk_set hb 0 (.string x), hg⟩
theorem cellS81_1 {W : World} {g : Nat} {f0 : ByteArray} {f1 : Int} (h : W.heap[g]? = some (.cells #[.string f0, .int .i64 f1] 81 (0, 0))) : W.cell? ⟨g, 1, none⟩ = some (.int .i64 f1) := (blk_cell h 1).trans rfl
theorem IsS81.set_1 {w0 W : World} {g : Nat} {f0 : ByteArray} {f1 : Int} (h : IsS81 w0 W g f0 f1) (x : Int) : IsS81 w0 (W.setCell ⟨g, 1, none⟩ (.int .i64 x)) g f0 x := by
 obtain ⟨hb, hg⟩ := h
 exact ⟨by simpa using blk_set hb 1 (.int .i64 x), hg⟩
theorem IsS81.new (w0 W : World) (f0 : ByteArray) (f1 : Int) (hB : Below w0.heap.size w0 W) : IsS81 w0 (W.alloc (.cells #[.string f0, .int .i64 f1] 81)) W.heap.size f0 f1 := ⟨by simpa using heap_alloc_new W _, hB.size⟩
end Go.Proofs.YtimikhbnihedkaaDoor.PAll
namespace Go.Proofs.YtimikhbnihedkaaDoor.PAll
open Go.RowKit Go.Proofs.YtimikhbnihedkaaDoorW.PrintWords Go.Proofs.YtimikhbnihedkaaDoorW.PrintLast Go.Proofs.YtimikhbnihedkaaDoorW.PrintMore
attribute [local go_sem] max2_int min2_int max_two min_two max_three min_three max_four min_four
set_option linter.unusedVariables false
set_option linter.unusedSimpArgs false
def ident_small.f (a0 : Int) : Option (Bool) := if 97 ≤ a0 then (some (decide (a0 ≤ 122))) else (some false)
set_option maxHeartbeats 8000000 in
set_option maxRecDepth 100000 in
theorem ident_small.calls (a0 : Int) (r : Bool) (w : World) (h : ident_small.f a0 = some r) :
  Calls Tryd.prog 77 #[.int .u8 a0] w fun e w' => e = .returned (.bool r) ∧ Drawn0 w w' := by
 have H := h
 unfold ident_small.f at H
 clear h
 by_cases c2 : 97 ≤ a0
 rotate_left
 ·
  rw [if_neg c2] at H
  have c2b0 := decide_eq_false c2
  clear c2
  obtain rfl := Option.some.inj H
  go_enter Tryd.func77, Tryd.ntmps77
  go_wp2
  go_ret
  exact ⟨by first | rfl | (simp; done) | (simp [*]; done), by repeat (first | exact Drawn0.refl _ | apply Drawn0.step)⟩
 rw [if_pos c2] at H
 have c2b0 := decide_eq_true c2
 clear c2
 obtain rfl := Option.some.inj H
 go_enter Tryd.func77, Tryd.ntmps77
 go_wp2
 go_ret
 exact ⟨by first | rfl | (simp; done) | (simp [*]; done), by repeat (first | exact Drawn0.refl _ | apply Drawn0.step)⟩
def stringslite_HasSuffix.f (a0 : ByteArray) (a1 : ByteArray) : Option (Bool) := if (a0.size : Int) ≥ (a1.size : Int) then (if 0 ≤ (wrap64 ((a0.size : Int) - (a1.size : Int))) then (if (wrap64 ((a0.size : Int) - (a1.size : Int))) ≤ (a0.size : Int) then (some ((a0.extract ((wrap64 ((a0.size : Int) - (a1.size : Int))) : Int).toNat a0.size).toList == a1.toList)) else (none)) else (none)) else (some false)
set_option maxHeartbeats 8000000 in
set_option maxRecDepth 100000 in
theorem stringslite_HasSuffix.calls (a0 : ByteArray) (a1 : ByteArray) (r : Bool) (w : World) (h : stringslite_HasSuffix.f a0 a1 = some r) :
  Calls Tryd.prog 90 #[.string a0, .string a1] w fun e w' => e = .returned (.bool r) ∧ Drawn0 w w' := by
 have H := h
 unfold stringslite_HasSuffix.f at H
 clear h
 by_cases c3 : (a0.size : Int) ≥ (a1.size : Int)
 rotate_left
 ·
  rw [if_neg c3] at H
  have c3b0 := decide_eq_false c3
  have c3b1 : decide (a1.size ≤ a0.size) = false := decide_eq_false (fun h => c3 (Int.ofNat_le.mpr h))
  clear c3
  obtain rfl := Option.some.inj H
  go_enter Tryd.func90, Tryd.ntmps90
  go_wp2
  go_ret
  exact ⟨by first | rfl | (simp; done) | (simp [*]; done), by repeat (first | exact Drawn0.refl _ | apply Drawn0.step)⟩
 rw [if_pos c3] at H
 have c3b0 := decide_eq_true c3
 have c3b1 : decide (a1.size ≤ a0.size) = true := decide_eq_true (Int.ofNat_le.mp c3)
 clear c3
 obtain ⟨ji4, hji4⟩ : ∃ j_ : Int, (wrap64 ((a0.size : Int) - (a1.size : Int))) = j_ := ⟨_, rfl⟩
 replace H : (if 0 ≤ (ji4) then (if (ji4) ≤ (a0.size : Int) then (some ((a0.extract ((ji4) : Int).toNat a0.size).toList == a1.toList)) else (none)) else (none)) = some r := by first | (rw [hji4] at H; exact H) | (simp only [hji4] at H ⊢; exact H)
 have hji4w : (IntKind.i64.wrap ((a0.size : Int) - (a1.size : Int))) = ji4 := (i64_w _).trans hji4
 obtain ⟨c5, H⟩ : (0 ≤ (ji4)) ∧ _ := mIf H
 have c5b0 := eq_true c5
 have c5b1 := decide_eq_true c5
 clear c5
 obtain ⟨c6, H⟩ : ((ji4) ≤ (a0.size : Int)) ∧ _ := mIf H
 have c6b0 := eq_true c6
 have c6b1 := decide_eq_true c6
 clear c6
 obtain rfl := Option.some.inj H
 go_enter Tryd.func90, Tryd.ntmps90
 go_wp2
 go_ret
 exact ⟨by first | rfl | (simp; done) | (simp only [← hji4] <;> (first | rfl | simp)) | (simp [*]; done), by repeat (first | exact Drawn0.refl _ | apply Drawn0.step)⟩
def strings_HasSuffix.f (a0 : ByteArray) (a1 : ByteArray) : Option (Bool) := (stringslite_HasSuffix.f a0 a1).bind fun t102 => (some t102)
set_option maxHeartbeats 8000000 in
set_option maxRecDepth 100000 in
theorem strings_HasSuffix.calls (a0 : ByteArray) (a1 : ByteArray) (r : Bool) (w : World) (h : strings_HasSuffix.f a0 a1 = some r) :
  Calls Tryd.prog 78 #[.string a0, .string a1] w fun e w' => e = .returned (.bool r) ∧ Drawn0 w w' := by
 have H := h
 unfold strings_HasSuffix.f at H
 clear h
 replace H := Option.bind_eq_some_iff.mp H
 obtain ⟨t102, A30, H⟩ := H
 try dsimp only at H
 have A3 := Aside0.mk A30
 clear A30
 obtain rfl := Option.some.inj H
 go_enter Tryd.func78, Tryd.ntmps78
 go_wp2_with (first | ((with_reducible refine gate_callee (f := 90) rfl ?_); refine goesL_ (some 7) rfl rfl Tryd.func90 (by kernel_rfl) rfl #[.string a0, .string a1] rfl (mA2 rfl rfl) ?_; (with_reducible refine (stringslite_HasSuffix.calls a0 a1 t102 _ A3.out).mono ?_); rintro e w' ⟨rfl, ⟨nd, rfl⟩⟩; refine ⟨_, rfl, ?_⟩))
 go_ret
 exact ⟨by first | rfl | (simp; done) | (simp [*]; done), by repeat (first | exact Drawn0.refl _ | apply Drawn0.step)⟩
def strings_Contains.f (a0 : ByteArray) (a1 : ByteArray) : Option (Bool) := if a0.size < 4294967281 then (some (Lib.contains a0.data.toList a1.data.toList)) else none
theorem strings_Contains.calls (a0 : ByteArray) (a1 : ByteArray) (r : Bool) (w : World) (hmx : Mx w) (h : strings_Contains.f a0 a1 = some r) :
    Calls Tryd.prog 79 #[.string a0, .string a1] w fun e w' => e = .returned (.bool r) ∧ Drawn0 w w' := by
  unfold strings_Contains.f at h
  by_cases h0 : a0.size < 4294967281
  case neg => rw [if_neg h0] at h; exact absurd h (by simp)
  rw [if_pos h0] at h
  injection h with h; subst h
  obtain ⟨m_, hm_⟩ := hmx
  exact (Tryd.strings_Contains a0 a1 m_ w h0 hm_).mono fun e w' ⟨h1, h2⟩ => ⟨h1, by subst h2; exact Drawn0.refl _⟩
def ident_digit.f (a0 : Int) : Option (Bool) := if 48 ≤ a0 then (some (decide (a0 ≤ 57))) else (some false)
set_option maxHeartbeats 8000000 in
set_option maxRecDepth 100000 in
theorem ident_digit.calls (a0 : Int) (r : Bool) (w : World) (h : ident_digit.f a0 = some r) :
  Calls Tryd.prog 80 #[.int .u8 a0] w fun e w' => e = .returned (.bool r) ∧ Drawn0 w w' := by
 have H := h
 unfold ident_digit.f at H
 clear h
 by_cases c2 : 48 ≤ a0
 rotate_left
 ·
  rw [if_neg c2] at H
  have c2b0 := decide_eq_false c2
  clear c2
  obtain rfl := Option.some.inj H
  go_enter Tryd.func80, Tryd.ntmps80
  go_wp2
  go_ret
  exact ⟨by first | rfl | (simp; done) | (simp [*]; done), by repeat (first | exact Drawn0.refl _ | apply Drawn0.step)⟩
 rw [if_pos c2] at H
 have c2b0 := decide_eq_true c2
 clear c2
 obtain rfl := Option.some.inj H
 go_enter Tryd.func80, Tryd.ntmps80
 go_wp2
 go_ret
 exact ⟨by first | rfl | (simp; done) | (simp [*]; done), by repeat (first | exact Drawn0.refl _ | apply Drawn0.step)⟩
mutual
def ident_Valid.j0 : Nat → ByteArray → Bool → Option (Bool)
 | 0, _, _ => none
 | k + 1, x0, x24 => if x24 = true then (some false) else (ident_Valid.l0 k x0 (x0.size : Int) 0)
def ident_Valid.l0 : Nat → ByteArray → Int → Int → Option (Bool)
 | 0, _, _, _ => none
 | k + 1, x0, x26, x27 => if x27 < x26 then (if 0 ≤ x27 then (if x27 < (x0.size : Int) then ((ident_small.f (bt x0 x27)).bind fun t106 => (if t106 = true then (ident_Valid.l0 k x0 x26 (wrap64 (x27 + 1))) else ((ident_digit.f (bt x0 x27)).bind fun t107 => (if t107 = true then (ident_Valid.l0 k x0 x26 (wrap64 (x27 + 1))) else (if (bt x0 x27) = 45 then (ident_Valid.l0 k x0 x26 (wrap64 (x27 + 1))) else (some false)))))) else (none)) else (none)) else (some true)
end
def ident_Valid.f (k : Nat) (a0 : ByteArray) : Option (Bool) := if a0.toList = ([] : List UInt8) then (ident_Valid.j0 k a0 true) else (if (a0.size : Int) > 24 then (ident_Valid.j0 k a0 true) else (if 0 < (a0.size : Int) then ((ident_small.f (bt a0 0)).bind fun t103 => (if t103 = true then ((strings_HasSuffix.f a0 (⟨#[45]⟩ : ByteArray)).bind fun t104 => (if t104 = true then (ident_Valid.j0 k a0 true) else ((strings_Contains.f a0 (⟨#[45, 45]⟩ : ByteArray)).bind fun t105 => (ident_Valid.j0 k a0 t105)))) else (ident_Valid.j0 k a0 true))) else (none)))
set_option maxHeartbeats 8000000 in
set_option maxRecDepth 100000 in
theorem ident_Valid.calls (k : Nat) (a0 : ByteArray) (r : Bool) (w : World) (hmx : Mx w) (h : ident_Valid.f k a0 = some r) :
  Calls Tryd.prog 58 #[.string a0] w fun e w' => e = .returned (.bool r) ∧ Drawn0 w w' := by
 have HMX_ := Aside0.mk hmx
 clear hmx
 have H := h
 unfold ident_Valid.f at H
 clear h
 have HC2 := Aside0.mk H
 clear H
 go_enter Tryd.func58, Tryd.ntmps58
 go_upto_region 1 with (fail)
 go_cut [24] (fun v24 wc => ∃ (kq : Nat) (x24_1 : Bool), v24 = .bool x24_1 ∧ Aside0 (ident_Valid.j0 kq a0 x24_1 = some r) ∧ Aside0 (kq ≤ k) ∧ Drawn0 w wc)
 case first =>
  have H := HC2.out
  clear HC2
  by_cases c3 : a0.toList = ([] : List UInt8)
  ·
   rw [if_pos c3] at H
   have c3b0 := beq_iff_eq.mpr c3
   have c3b1 := bne_eq_false_iff_eq.mpr c3
   clear c3
   (first | rw [c3b0] | (simp only [i64_w, i32_w]; rw [c3b0]) | skip)
   have H' := Aside0.mk H
   clear H
   go_wp2
   go_meet
   case rel => exact ⟨_, (true), rfl, H', ⟨by first | omega | exact Nat.le_refl _⟩, by repeat (first | exact Drawn0.refl _ | apply Drawn0.step)⟩
  rw [if_neg c3] at H
  have c3b0 := beq_eq_false_iff_ne.mpr c3
  have c3b1 := bne_iff_ne.mpr c3
  (first | rw [c3b0] | (simp only [i64_w, i32_w]; rw [c3b0]) | skip)
  by_cases c4 : (a0.size : Int) > 24
  ·
   rw [if_pos c4] at H
   have c4b0 := decide_eq_true c4
   have c4b1 : decide (24 < a0.size) = true := decide_eq_true (by omega)
   clear c4
   have H' := Aside0.mk H
   clear H
   go_wp2
   go_meet
   case rel => exact ⟨_, (true), rfl, H', ⟨by first | omega | exact Nat.le_refl _⟩, by repeat (first | exact Drawn0.refl _ | apply Drawn0.step)⟩
  rw [if_neg c4] at H
  have c4b0 := decide_eq_false c4
  have c4b1 : decide (24 < a0.size) = false := decide_eq_false (by omega)
  clear c4
  obtain ⟨c5, H⟩ : (0 < (a0.size : Int)) ∧ _ := mIf H
  have c5b0 := decide_eq_true c5
  have c5b1 : decide (0 < a0.size) = true := decide_eq_true (by omega)
  clear c5
  replace H := Option.bind_eq_some_iff.mp H
  obtain ⟨t103, A70, H⟩ := H
  try dsimp only at H
  have A7 := Aside0.mk A70
  clear A70
  by_cases c8 : t103 = true
  rotate_left
  ·
   replace c8 := Bool.eq_false_iff.mpr c8
   subst c8
   rw [if_neg (show ¬ (false = true) by decide)] at H
   have H' := Aside0.mk H
   clear H
   have p6 : 0 ≤ (0 : Int) := (by omega)
   have q6 : 0 < a0.size := (by have : (0 : Int) < (a0.size : Int) := of_decide_eq_true (by assumption); omega)
   have hx6 : ∀ h : 0 < a0.size, ((a0[0]'h).toNat : Int) = bt a0 0 := bt_at a0 0
   clear p6
   have qi6 : (0 < (a0.size : Int)) = True := eq_true (of_decide_eq_true (by assumption))
   replace q6 := eq_true q6
   go_wp2_with (first | (go_at_call 77; (with_reducible refine (ident_small.calls (bt a0 0) false _ A7.out).mono ?_); rintro e w' ⟨rfl, ⟨nd, rfl⟩⟩))
   go_meet
   case rel => exact ⟨_, (true), rfl, H', ⟨by first | omega | exact Nat.le_refl _⟩, by repeat (first | exact Drawn0.refl _ | apply Drawn0.step)⟩
  subst c8
  rw [if_pos rfl] at H
  replace H := Option.bind_eq_some_iff.mp H
  obtain ⟨t104, A90, H⟩ := H
  try dsimp only at H
  have A9 := Aside0.mk A90
  clear A90
  by_cases c10 : t104 = true
  ·
   subst c10
   rw [if_pos rfl] at H
   have H' := Aside0.mk H
   clear H
   have p6 : 0 ≤ (0 : Int) := (by omega)
   have q6 : 0 < a0.size := (by have : (0 : Int) < (a0.size : Int) := of_decide_eq_true (by assumption); omega)
   have hx6 : ∀ h : 0 < a0.size, ((a0[0]'h).toNat : Int) = bt a0 0 := bt_at a0 0
   clear p6
   have qi6 : (0 < (a0.size : Int)) = True := eq_true (of_decide_eq_true (by assumption))
   replace q6 := eq_true q6
   go_wp2_with (first | (go_at_call 77; (with_reducible refine (ident_small.calls (bt a0 0) true _ A7.out).mono ?_); rintro e w' ⟨rfl, ⟨nd, rfl⟩⟩) | (go_at_call 78; (with_reducible refine (strings_HasSuffix.calls a0 (⟨#[45]⟩ : ByteArray) true _ A9.out).mono ?_); rintro e w' ⟨rfl, ⟨nd, rfl⟩⟩))
   go_meet
   case rel => exact ⟨_, (true), rfl, H', ⟨by first | omega | exact Nat.le_refl _⟩, by repeat (first | exact Drawn0.refl _ | apply Drawn0.step)⟩
  replace c10 := Bool.eq_false_iff.mpr c10
  subst c10
  rw [if_neg (show ¬ (false = true) by decide)] at H
  replace H := Option.bind_eq_some_iff.mp H
  obtain ⟨t105, A110, H⟩ := H
  try dsimp only at H
  have A11 := Aside0.mk A110
  clear A110
  have H' := Aside0.mk H
  clear H
  have p6 : 0 ≤ (0 : Int) := (by omega)
  have q6 : 0 < a0.size := (by have : (0 : Int) < (a0.size : Int) := of_decide_eq_true (by assumption); omega)
  have hx6 : ∀ h : 0 < a0.size, ((a0[0]'h).toNat : Int) = bt a0 0 := bt_at a0 0
  clear p6
  have qi6 : (0 < (a0.size : Int)) = True := eq_true (of_decide_eq_true (by assumption))
  replace q6 := eq_true q6
  go_wp2_with (first | (go_at_call 77; (with_reducible refine (ident_small.calls (bt a0 0) true _ A7.out).mono ?_); rintro e w' ⟨rfl, ⟨nd, rfl⟩⟩) | (go_at_call 78; (with_reducible refine (strings_HasSuffix.calls a0 (⟨#[45]⟩ : ByteArray) false _ A9.out).mono ?_); rintro e w' ⟨rfl, ⟨nd, rfl⟩⟩) | (go_at_call 79; (with_reducible refine (strings_Contains.calls a0 (⟨#[45, 45]⟩ : ByteArray) t105 _ ?sidem_ A11.out).mono ?_); (case sidem_ => first | ((repeat (first | exact HMX_.out | apply Mx.drewN | apply Mx.drew)); done) | (refine Mx.below HMX_.out ?_; (repeat (first | (with_reducible first | exact HB.out | apply below_alloc | apply pw_below_drewN | apply below_drew1 | refine below_set ?_ (Aside0.out (by assumption))) | exact HB.out)); done)); rintro e w' ⟨rfl, ⟨nd, rfl⟩⟩))
  go_meet
  case rel => exact ⟨_, (t105), rfl, H', ⟨by first | omega | exact Nat.le_refl _⟩, by repeat (first | exact Drawn0.refl _ | apply Drawn0.step)⟩
 case rest =>
  clear HC2; try clear c1; try clear p2; try clear c3; try clear c3b0; try clear c3b1; try clear c4; try clear c4b0; try clear c4b1; try clear c5; try clear c5b0; try clear c5b1; try clear p6; try clear q6; try clear hx6; try clear qi6; try clear c8; try clear c10
  obtain ⟨kq, x24_1, rfl, HA, HJ1, ⟨mc1, rfl⟩⟩ := hcut
  cases kq with
  | zero => exact absurd HA.out (by simp [ident_Valid.j0])
  | succ kj1 =>
   have H := HA.out
   clear HA
   simp only [ident_Valid.j0] at H
   by_cases c12 : x24_1 = true
   ·
    subst c12
    rw [if_pos rfl] at H
    obtain rfl := Option.some.inj H
    go_wp2
    go_ret
    exact ⟨by first | rfl | (simp; done) | (simp [*]; done), by repeat (first | exact Drawn0.refl _ | apply Drawn0.step)⟩
   replace c12 := Bool.eq_false_iff.mpr c12
   subst c12
   rw [if_neg (show ¬ (false = true) by decide)] at H
   have H' := Aside0.mk H
   clear H
   go_wp2
   go_loopg [27] kj1 (fun kq v27 w' => ∃ (x27_2 : Int), v27 = .int .i64 x27_2 ∧ Aside0 (ident_Valid.l0 kq a0 (a0.size : Int) x27_2 = some r) ∧ Aside0 (kq ≤ kj1) ∧ Drawn0 w w')
   case atStart => exact ⟨(0), rfl, H', ⟨Nat.le_refl _⟩, by repeat (first | exact Drawn0.refl _ | apply Drawn0.step)⟩
   case round =>
    clear H'
    try clear c1; try clear p2; try clear c3; try clear c3b0; try clear c3b1; try clear c4; try clear c4b0; try clear c4b1; try clear c5; try clear c5b0; try clear c5b1; try clear p6; try clear q6; try clear hx6; try clear qi6; try clear c8; try clear c10; try clear c12
    obtain ⟨x27_2, rfl, HA, HK2, ⟨m2, rfl⟩⟩ := hrel
    cases gk with
    | zero => exact absurd HA.out (by simp [ident_Valid.l0])
    | succ k2 =>
     have H := HA.out
     clear HA
     simp only [ident_Valid.l0] at H
     by_cases c13 : x27_2 < (a0.size : Int)
     rotate_left
     ·
      rw [if_neg c13] at H
      have c13b0 := decide_eq_false c13
      clear c13
      obtain rfl := Option.some.inj H
      go_wp2
      go_ret
      exact ⟨by first | rfl | (simp; done) | (simp [*]; done), by repeat (first | exact Drawn0.refl _ | apply Drawn0.step)⟩
     rw [if_pos c13] at H
     have c13b0 := decide_eq_true c13
     clear c13
     obtain ⟨c14, H⟩ : (0 ≤ x27_2) ∧ _ := mIf H
     have c14b0 := decide_eq_true c14
     clear c14
     obtain ⟨c15, H⟩ : (x27_2 < (a0.size : Int)) ∧ _ := mIf H
     have c15b0 := decide_eq_true c15
     clear c15
     replace H := Option.bind_eq_some_iff.mp H
     obtain ⟨t106, A170, H⟩ := H
     try dsimp only at H
     have A17 := Aside0.mk A170
     clear A170
     by_cases c18 : t106 = true
     ·
      subst c18
      rw [if_pos rfl] at H
      have H' := Aside0.mk H
      clear H
      have p16 : 0 ≤ (x27_2 : Int) := of_decide_eq_true (by assumption)
      have q16 : x27_2 < (a0.size : Int) := of_decide_eq_true (by assumption)
      have hx16 := bt_at a0 x27_2
      replace p16 := eq_true p16
      replace q16 := eq_true q16
      go_wp2_with (first | ((with_reducible refine gate_callee (f := 77) rfl ?_); refine goesL_ (some 33) rfl rfl Tryd.func77 (by kernel_rfl) rfl #[.int .u8 (bt a0 x27_2)] rfl (mA1 rfl) ?_; (with_reducible refine (ident_small.calls (bt a0 x27_2) true _ A17.out).mono ?_); rintro e w' ⟨rfl, ⟨nd, rfl⟩⟩; refine ⟨_, rfl, ?_⟩))
      go_roundg k2
      case measure => have := HJ1.out; have := HK2.out; omega
      case rel => exact ⟨(wrap64 (x27_2 + 1)), rfl, H', ⟨by have := HJ1.out; have := HK2.out; omega⟩, by repeat (first | exact Drawn0.refl _ | apply Drawn0.step)⟩
     replace c18 := Bool.eq_false_iff.mpr c18
     subst c18
     rw [if_neg (show ¬ (false = true) by decide)] at H
     replace H := Option.bind_eq_some_iff.mp H
     obtain ⟨t107, A200, H⟩ := H
     try dsimp only at H
     have A20 := Aside0.mk A200
     clear A200
     by_cases c21 : t107 = true
     ·
      subst c21
      rw [if_pos rfl] at H
      have H' := Aside0.mk H
      clear H
      have p16 : 0 ≤ (x27_2 : Int) := of_decide_eq_true (by assumption)
      have q16 : x27_2 < (a0.size : Int) := of_decide_eq_true (by assumption)
      have hx16 := bt_at a0 x27_2
      replace p16 := eq_true p16
      replace q16 := eq_true q16
      go_wp2_with (first | ((with_reducible refine gate_callee (f := 77) rfl ?_); refine goesL_ (some 33) rfl rfl Tryd.func77 (by kernel_rfl) rfl #[.int .u8 (bt a0 x27_2)] rfl (mA1 rfl) ?_; (with_reducible refine (ident_small.calls (bt a0 x27_2) false _ A17.out).mono ?_); rintro e w' ⟨rfl, ⟨nd, rfl⟩⟩; refine ⟨_, rfl, ?_⟩; have p19 : 0 ≤ (x27_2 : Int) := of_decide_eq_true (by assumption); have q19 : x27_2 < (a0.size : Int) := of_decide_eq_true (by assumption); have hx19 := bt_at a0 x27_2; replace p19 := eq_true p19; replace q19 := eq_true q19) | (go_at_call 80; (with_reducible refine (ident_digit.calls (bt a0 x27_2) true _ A20.out).mono ?_); rintro e w' ⟨rfl, ⟨nd, rfl⟩⟩))
      go_roundg k2
      case measure => have := HJ1.out; have := HK2.out; omega
      case rel => exact ⟨(wrap64 (x27_2 + 1)), rfl, H', ⟨by have := HJ1.out; have := HK2.out; omega⟩, by repeat (first | exact Drawn0.refl _ | apply Drawn0.step)⟩
     replace c21 := Bool.eq_false_iff.mpr c21
     subst c21
     rw [if_neg (show ¬ (false = true) by decide)] at H
     by_cases c23 : (bt a0 x27_2) = 45
     rotate_left
     ·
      rw [if_neg c23] at H
      have c23b0 := beq_eq_false_iff_ne.mpr c23
      have c23b1 := bne_iff_ne.mpr c23
      obtain rfl := Option.some.inj H
      have p16 : 0 ≤ (x27_2 : Int) := of_decide_eq_true (by assumption)
      have q16 : x27_2 < (a0.size : Int) := of_decide_eq_true (by assumption)
      have hx16 := bt_at a0 x27_2
      replace p16 := eq_true p16
      replace q16 := eq_true q16
      go_wp2_with (first | ((with_reducible refine gate_callee (f := 77) rfl ?_); refine goesL_ (some 33) rfl rfl Tryd.func77 (by kernel_rfl) rfl #[.int .u8 (bt a0 x27_2)] rfl (mA1 rfl) ?_; (with_reducible refine (ident_small.calls (bt a0 x27_2) false _ A17.out).mono ?_); rintro e w' ⟨rfl, ⟨nd, rfl⟩⟩; refine ⟨_, rfl, ?_⟩; have p19 : 0 ≤ (x27_2 : Int) := of_decide_eq_true (by assumption); have q19 : x27_2 < (a0.size : Int) := of_decide_eq_true (by assumption); have hx19 := bt_at a0 x27_2; replace p19 := eq_true p19; replace q19 := eq_true q19) | (go_at_call 80; (with_reducible refine (ident_digit.calls (bt a0 x27_2) false _ A20.out).mono ?_); rintro e w' ⟨rfl, ⟨nd, rfl⟩⟩; have p22 : 0 ≤ (x27_2 : Int) := of_decide_eq_true (by assumption); have q22 : x27_2 < (a0.size : Int) := of_decide_eq_true (by assumption); have hx22 := bt_at a0 x27_2; replace p22 := eq_true p22; replace q22 := eq_true q22))
      go_ret
      exact ⟨by first | rfl | (simp; done) | (simp [*]; done), by repeat (first | exact Drawn0.refl _ | apply Drawn0.step)⟩
     rw [if_pos c23] at H
     have c23b0 := beq_iff_eq.mpr c23
     have c23b1 := bne_eq_false_iff_eq.mpr c23
     clear c23
     have H' := Aside0.mk H
     clear H
     have p16 : 0 ≤ (x27_2 : Int) := of_decide_eq_true (by assumption)
     have q16 : x27_2 < (a0.size : Int) := of_decide_eq_true (by assumption)
     have hx16 := bt_at a0 x27_2
     replace p16 := eq_true p16
     replace q16 := eq_true q16
     go_wp2_with (first | ((with_reducible refine gate_callee (f := 77) rfl ?_); refine goesL_ (some 33) rfl rfl Tryd.func77 (by kernel_rfl) rfl #[.int .u8 (bt a0 x27_2)] rfl (mA1 rfl) ?_; (with_reducible refine (ident_small.calls (bt a0 x27_2) false _ A17.out).mono ?_); rintro e w' ⟨rfl, ⟨nd, rfl⟩⟩; refine ⟨_, rfl, ?_⟩; have p19 : 0 ≤ (x27_2 : Int) := of_decide_eq_true (by assumption); have q19 : x27_2 < (a0.size : Int) := of_decide_eq_true (by assumption); have hx19 := bt_at a0 x27_2; replace p19 := eq_true p19; replace q19 := eq_true q19) | (go_at_call 80; (with_reducible refine (ident_digit.calls (bt a0 x27_2) false _ A20.out).mono ?_); rintro e w' ⟨rfl, ⟨nd, rfl⟩⟩; have p22 : 0 ≤ (x27_2 : Int) := of_decide_eq_true (by assumption); have q22 : x27_2 < (a0.size : Int) := of_decide_eq_true (by assumption); have hx22 := bt_at a0 x27_2; replace p22 := eq_true p22; replace q22 := eq_true q22))
     go_roundg k2
     case measure => have := HJ1.out; have := HK2.out; omega
     case rel => exact ⟨(wrap64 (x27_2 + 1)), rfl, H', ⟨by have := HJ1.out; have := HK2.out; omega⟩, by repeat (first | exact Drawn0.refl _ | apply Drawn0.step)⟩
def dancestudioref05_letter.f (a0 : Int) : Option (Bool) := if a0 ≥ 97 then (some (decide (a0 ≤ 122))) else (some false)
set_option maxHeartbeats 8000000 in
set_option maxRecDepth 100000 in
theorem dancestudioref05_letter.calls (a0 : Int) (r : Bool) (w : World) (h : dancestudioref05_letter.f a0 = some r) :
  Calls Tryd.prog 81 #[.int .u8 a0] w fun e w' => e = .returned (.bool r) ∧ Drawn0 w w' := by
 have H := h
 unfold dancestudioref05_letter.f at H
 clear h
 by_cases c2 : a0 ≥ 97
 rotate_left
 ·
  rw [if_neg c2] at H
  have c2b0 := decide_eq_false c2
  clear c2
  obtain rfl := Option.some.inj H
  go_enter Tryd.func81, Tryd.ntmps81
  go_wp2
  go_ret
  exact ⟨by first | rfl | (simp; done) | (simp [*]; done), by repeat (first | exact Drawn0.refl _ | apply Drawn0.step)⟩
 rw [if_pos c2] at H
 have c2b0 := decide_eq_true c2
 clear c2
 obtain rfl := Option.some.inj H
 go_enter Tryd.func81, Tryd.ntmps81
 go_wp2
 go_ret
 exact ⟨by first | rfl | (simp; done) | (simp [*]; done), by repeat (first | exact Drawn0.refl _ | apply Drawn0.step)⟩
def dancestudioref05_digit.f (a0 : Int) : Option (Bool) := if a0 ≥ 48 then (some (decide (a0 ≤ 57))) else (some false)
set_option maxHeartbeats 8000000 in
set_option maxRecDepth 100000 in
theorem dancestudioref05_digit.calls (a0 : Int) (r : Bool) (w : World) (h : dancestudioref05_digit.f a0 = some r) :
  Calls Tryd.prog 82 #[.int .u8 a0] w fun e w' => e = .returned (.bool r) ∧ Drawn0 w w' := by
 have H := h
 unfold dancestudioref05_digit.f at H
 clear h
 by_cases c2 : a0 ≥ 48
 rotate_left
 ·
  rw [if_neg c2] at H
  have c2b0 := decide_eq_false c2
  clear c2
  obtain rfl := Option.some.inj H
  go_enter Tryd.func82, Tryd.ntmps82
  go_wp2
  go_ret
  exact ⟨by first | rfl | (simp; done) | (simp [*]; done), by repeat (first | exact Drawn0.refl _ | apply Drawn0.step)⟩
 rw [if_pos c2] at H
 have c2b0 := decide_eq_true c2
 clear c2
 obtain rfl := Option.some.inj H
 go_enter Tryd.func82, Tryd.ntmps82
 go_wp2
 go_ret
 exact ⟨by first | rfl | (simp; done) | (simp [*]; done), by repeat (first | exact Drawn0.refl _ | apply Drawn0.step)⟩
mutual
def dancestudioref05_Valid.j0 : Nat → ByteArray → Bool → Option (Bool)
 | 0, _, _ => none
 | k + 1, x0, x18 => if x18 = true then (some false) else (dancestudioref05_Valid.l0 k x0 1)
def dancestudioref05_Valid.l0 : Nat → ByteArray → Int → Option (Bool)
 | 0, _, _ => none
 | k + 1, x0, x3 => if x3 < (x0.size : Int) then (if 0 ≤ x3 then ((dancestudioref05_letter.f (bt x0 x3)).bind fun t436 => (if t436 = true then (dancestudioref05_Valid.j2 k x0 x3 (bt x0 x3) false) else ((dancestudioref05_digit.f (bt x0 x3)).bind fun t437 => (if t437 = true then (dancestudioref05_Valid.j2 k x0 x3 (bt x0 x3) false) else (dancestudioref05_Valid.j2 k x0 x3 (bt x0 x3) ((bt x0 x3) != 45)))))) else (none)) else (some true)
def dancestudioref05_Valid.j2 : Nat → ByteArray → Int → Int → Bool → Option (Bool)
 | 0, _, _, _, _ => none
 | k + 1, x0, x3, x4, x39 => if x39 = true then (some false) else (if x4 = 45 then (if x3 = (wrap64 ((x0.size : Int) - 1)) then (some false) else (if 0 ≤ (wrap64 (x3 + 1)) then (if (wrap64 (x3 + 1)) < (x0.size : Int) then (if (bt x0 (wrap64 (x3 + 1))) = 45 then (some false) else (dancestudioref05_Valid.l0 k x0 (wrap64 (x3 + 1)))) else (none)) else (none))) else (dancestudioref05_Valid.l0 k x0 (wrap64 (x3 + 1))))
end
def dancestudioref05_Valid.f (k : Nat) (a0 : ByteArray) : Option (Bool) := if (a0.size : Int) < 1 then (dancestudioref05_Valid.j0 k a0 true) else (if (a0.size : Int) > 24 then (dancestudioref05_Valid.j0 k a0 true) else (if 0 < (a0.size : Int) then ((dancestudioref05_letter.f (bt a0 0)).bind fun t435 => (dancestudioref05_Valid.j0 k a0 (!t435))) else (none)))
set_option maxHeartbeats 8000000 in
set_option maxRecDepth 100000 in
theorem dancestudioref05_Valid.calls (k : Nat) (a0 : ByteArray) (r : Bool) (w : World) (h : dancestudioref05_Valid.f k a0 = some r) :
  Calls Tryd.prog 59 #[.string a0] w fun e w' => e = .returned (.bool r) ∧ Drawn0 w w' := by
 have H := h
 unfold dancestudioref05_Valid.f at H
 clear h
 have HC2 := Aside0.mk H
 clear H
 go_enter Tryd.func59, Tryd.ntmps59
 go_upto_region 1 with (fail)
 go_cut [18] (fun v18 wc => ∃ (kq : Nat) (x18_1 : Bool), v18 = .bool x18_1 ∧ Aside0 (dancestudioref05_Valid.j0 kq a0 x18_1 = some r) ∧ Aside0 (kq ≤ k) ∧ Drawn0 w wc)
 case first =>
  have H := HC2.out
  clear HC2
  by_cases c3 : (a0.size : Int) < 1
  ·
   rw [if_pos c3] at H
   have c3b0 := decide_eq_true c3
   have c3b1 : decide (a0.size < 1) = true := decide_eq_true (by omega)
   clear c3
   (first | rw [c3b0] | (simp only [i64_w, i32_w]; rw [c3b0]) | skip)
   have H' := Aside0.mk H
   clear H
   go_wp2
   go_meet
   case rel => exact ⟨_, (true), rfl, H', ⟨by first | omega | exact Nat.le_refl _⟩, by repeat (first | exact Drawn0.refl _ | apply Drawn0.step)⟩
  rw [if_neg c3] at H
  have c3b0 := decide_eq_false c3
  have c3b1 : decide (a0.size < 1) = false := decide_eq_false (by omega)
  clear c3
  (first | rw [c3b0] | (simp only [i64_w, i32_w]; rw [c3b0]) | skip)
  by_cases c4 : (a0.size : Int) > 24
  ·
   rw [if_pos c4] at H
   have c4b0 := decide_eq_true c4
   have c4b1 : decide (24 < a0.size) = true := decide_eq_true (by omega)
   clear c4
   have H' := Aside0.mk H
   clear H
   go_wp2
   go_meet
   case rel => exact ⟨_, (true), rfl, H', ⟨by first | omega | exact Nat.le_refl _⟩, by repeat (first | exact Drawn0.refl _ | apply Drawn0.step)⟩
  rw [if_neg c4] at H
  have c4b0 := decide_eq_false c4
  have c4b1 : decide (24 < a0.size) = false := decide_eq_false (by omega)
  clear c4
  obtain ⟨c5, H⟩ : (0 < (a0.size : Int)) ∧ _ := mIf H
  have c5b0 := decide_eq_true c5
  have c5b1 : decide (0 < a0.size) = true := decide_eq_true (by omega)
  clear c5
  replace H := Option.bind_eq_some_iff.mp H
  obtain ⟨t435, A70, H⟩ := H
  try dsimp only at H
  have A7 := Aside0.mk A70
  clear A70
  have H' := Aside0.mk H
  clear H
  have p6 : 0 ≤ (0 : Int) := (by omega)
  have q6 : 0 < a0.size := (by have : (0 : Int) < (a0.size : Int) := of_decide_eq_true (by assumption); omega)
  have hx6 : ∀ h : 0 < a0.size, ((a0[0]'h).toNat : Int) = bt a0 0 := bt_at a0 0
  clear p6
  have qi6 : (0 < (a0.size : Int)) = True := eq_true (of_decide_eq_true (by assumption))
  replace q6 := eq_true q6
  go_wp2_with (first | (go_at_call 81; (with_reducible refine (dancestudioref05_letter.calls (bt a0 0) t435 _ A7.out).mono ?_); rintro e w' ⟨rfl, ⟨nd, rfl⟩⟩))
  go_meet
  case rel => exact ⟨_, (!t435), rfl, H', ⟨by first | omega | exact Nat.le_refl _⟩, by repeat (first | exact Drawn0.refl _ | apply Drawn0.step)⟩
 case rest =>
  clear HC2; try clear p2; try clear c3; try clear c3b0; try clear c3b1; try clear c4; try clear c4b0; try clear c4b1; try clear c5; try clear c5b0; try clear c5b1; try clear p6; try clear q6; try clear hx6; try clear qi6
  obtain ⟨kq, x18_1, rfl, HA, HJ1, ⟨mc1, rfl⟩⟩ := hcut
  cases kq with
  | zero => exact absurd HA.out (by simp [dancestudioref05_Valid.j0])
  | succ kj1 =>
   have H := HA.out
   clear HA
   simp only [dancestudioref05_Valid.j0] at H
   by_cases c8 : x18_1 = true
   ·
    subst c8
    rw [if_pos rfl] at H
    obtain rfl := Option.some.inj H
    go_wp2
    go_ret
    exact ⟨by first | rfl | (simp; done) | (simp [*]; done), by repeat (first | exact Drawn0.refl _ | apply Drawn0.step)⟩
   replace c8 := Bool.eq_false_iff.mpr c8
   subst c8
   rw [if_neg (show ¬ (false = true) by decide)] at H
   have H' := Aside0.mk H
   clear H
   go_wp2
   go_loopg [3] kj1 (fun kq v3 w' => ∃ (x3_2 : Int), v3 = .int .i64 x3_2 ∧ Aside0 (dancestudioref05_Valid.l0 kq a0 x3_2 = some r) ∧ Aside0 (kq ≤ kj1) ∧ Drawn0 w w')
   case atStart => exact ⟨(1), rfl, H', ⟨Nat.le_refl _⟩, by repeat (first | exact Drawn0.refl _ | apply Drawn0.step)⟩
   case round =>
    clear H'
    try clear c1; try clear p2; try clear c3; try clear c3b0; try clear c3b1; try clear c4; try clear c4b0; try clear c4b1; try clear c5; try clear c5b0; try clear c5b1; try clear p6; try clear q6; try clear hx6; try clear qi6; try clear c8
    obtain ⟨x3_2, rfl, HA, HK2, ⟨m2, rfl⟩⟩ := hrel
    cases gk with
    | zero => exact absurd HA.out (by simp [dancestudioref05_Valid.l0])
    | succ k2 =>
     have H := HA.out
     clear HA
     simp only [dancestudioref05_Valid.l0] at H
     by_cases c9 : x3_2 < (a0.size : Int)
     rotate_left
     ·
      rw [if_neg c9] at H
      have c9b0 := decide_eq_false c9
      clear c9
      obtain rfl := Option.some.inj H
      go_wp2
      go_ret
      exact ⟨by first | rfl | (simp; done) | (simp [*]; done), by repeat (first | exact Drawn0.refl _ | apply Drawn0.step)⟩
     rw [if_pos c9] at H
     have c9b0 := decide_eq_true c9
     clear c9
     obtain ⟨c10, H⟩ : (0 ≤ x3_2) ∧ _ := mIf H
     have c10b0 := decide_eq_true c10
     clear c10
     have HC12 := Aside0.mk H
     clear H
     have p11 : 0 ≤ (x3_2 : Int) := of_decide_eq_true (by assumption)
     have q11 : x3_2 < (a0.size : Int) := of_decide_eq_true (by assumption)
     have hx11 := bt_at a0 x3_2
     replace p11 := eq_true p11
     replace q11 := eq_true q11
     go_upto_region 7 with (fail)
     go_cut [39] (fun v39 wc => ∃ (kq : Nat) (x39_11 : Bool), v39 = .bool x39_11 ∧ Aside0 (dancestudioref05_Valid.j2 kq a0 x3_2 (bt a0 x3_2) x39_11 = some r) ∧ Aside0 (kq ≤ k2) ∧ Drawn0 w wc)
     case first =>
      have H := HC12.out
      clear HC12
      replace H := Option.bind_eq_some_iff.mp H
      obtain ⟨t436, A130, H⟩ := H
      try dsimp only at H
      have A13 := Aside0.mk A130
      clear A130
      by_cases c14 : t436 = true
      ·
       subst c14
       rw [if_pos rfl] at H
       have H' := Aside0.mk H
       clear H
       go_wp2_with (first | ((with_reducible refine gate_callee (f := 81) rfl ?_); refine goesL_ (some 29) rfl rfl Tryd.func81 (by kernel_rfl) rfl #[.int .u8 (bt a0 x3_2)] rfl (mA1 rfl) ?_; (with_reducible refine (dancestudioref05_letter.calls (bt a0 x3_2) true _ A13.out).mono ?_); rintro e w' ⟨rfl, ⟨nd, rfl⟩⟩; refine ⟨_, rfl, ?_⟩))
       go_meet
       case rel => exact ⟨_, (false), rfl, H', ⟨by have := HJ1.out; have := HK2.out; first | omega | exact Nat.le_refl _⟩, by repeat (first | exact Drawn0.refl _ | apply Drawn0.step)⟩
      replace c14 := Bool.eq_false_iff.mpr c14
      subst c14
      rw [if_neg (show ¬ (false = true) by decide)] at H
      replace H := Option.bind_eq_some_iff.mp H
      obtain ⟨t437, A150, H⟩ := H
      try dsimp only at H
      have A15 := Aside0.mk A150
      clear A150
      by_cases c16 : t437 = true
      ·
       subst c16
       rw [if_pos rfl] at H
       have H' := Aside0.mk H
       clear H
       go_wp2_with (first | ((with_reducible refine gate_callee (f := 81) rfl ?_); refine goesL_ (some 29) rfl rfl Tryd.func81 (by kernel_rfl) rfl #[.int .u8 (bt a0 x3_2)] rfl (mA1 rfl) ?_; (with_reducible refine (dancestudioref05_letter.calls (bt a0 x3_2) false _ A13.out).mono ?_); rintro e w' ⟨rfl, ⟨nd, rfl⟩⟩; refine ⟨_, rfl, ?_⟩) | (go_at_call 82; (with_reducible refine (dancestudioref05_digit.calls (bt a0 x3_2) true _ A15.out).mono ?_); rintro e w' ⟨rfl, ⟨nd, rfl⟩⟩))
       go_meet
       case rel => exact ⟨_, (false), rfl, H', ⟨by have := HJ1.out; have := HK2.out; first | omega | exact Nat.le_refl _⟩, by repeat (first | exact Drawn0.refl _ | apply Drawn0.step)⟩
      replace c16 := Bool.eq_false_iff.mpr c16
      subst c16
      rw [if_neg (show ¬ (false = true) by decide)] at H
      have H' := Aside0.mk H
      clear H
      go_wp2_with (first | ((with_reducible refine gate_callee (f := 81) rfl ?_); refine goesL_ (some 29) rfl rfl Tryd.func81 (by kernel_rfl) rfl #[.int .u8 (bt a0 x3_2)] rfl (mA1 rfl) ?_; (with_reducible refine (dancestudioref05_letter.calls (bt a0 x3_2) false _ A13.out).mono ?_); rintro e w' ⟨rfl, ⟨nd, rfl⟩⟩; refine ⟨_, rfl, ?_⟩) | (go_at_call 82; (with_reducible refine (dancestudioref05_digit.calls (bt a0 x3_2) false _ A15.out).mono ?_); rintro e w' ⟨rfl, ⟨nd, rfl⟩⟩))
      go_meet
      case rel => exact ⟨_, (((bt a0 x3_2) != 45)), rfl, H', ⟨by have := HJ1.out; have := HK2.out; first | omega | exact Nat.le_refl _⟩, by repeat (first | exact Drawn0.refl _ | apply Drawn0.step)⟩
     case rest =>
      clear HC12; try clear c1; try clear p1; try clear q1; try clear hx1; try clear p2; try clear c3; try clear c3b0; try clear c3b1; try clear c4; try clear c4b0; try clear c4b1; try clear c5; try clear c5b0; try clear c5b1; try clear p6; try clear q6; try clear hx6; try clear qi6; try clear c8; try clear c9; try clear c9b0; try clear c10; try clear c10b0; try clear p11; try clear q11; try clear hx11; try clear c14; try clear c16
      obtain ⟨kq, x39_11, rfl, HA, HJ11, ⟨mc11, rfl⟩⟩ := hcut
      cases kq with
      | zero => exact absurd HA.out (by simp [dancestudioref05_Valid.j2])
      | succ kj11 =>
       have H := HA.out
       clear HA
       simp only [dancestudioref05_Valid.j2] at H
       by_cases c17 : x39_11 = true
       ·
        subst c17
        rw [if_pos rfl] at H
        obtain rfl := Option.some.inj H
        go_wp2
        go_ret
        exact ⟨by first | rfl | (simp; done) | (simp [*]; done), by repeat (first | exact Drawn0.refl _ | apply Drawn0.step)⟩
       replace c17 := Bool.eq_false_iff.mpr c17
       subst c17
       rw [if_neg (show ¬ (false = true) by decide)] at H
       by_cases c18 : (bt a0 x3_2) = 45
       rotate_left
       ·
        rw [if_neg c18] at H
        have c18b0 := beq_eq_false_iff_ne.mpr c18
        have c18b1 := bne_iff_ne.mpr c18
        have H' := Aside0.mk H
        clear H
        go_wp2
        go_roundg kj11
        case measure => have := HJ1.out; have := HK2.out; have := HJ11.out; omega
        case rel => exact ⟨(wrap64 (x3_2 + 1)), rfl, H', ⟨by have := HJ1.out; have := HK2.out; have := HJ11.out; omega⟩, by repeat (first | exact Drawn0.refl _ | apply Drawn0.step)⟩
       rw [if_pos c18] at H
       have c18b0 := beq_iff_eq.mpr c18
       have c18b1 := bne_eq_false_iff_eq.mpr c18
       clear c18
       by_cases c19 : x3_2 = (wrap64 ((a0.size : Int) - 1))
       ·
        rw [if_pos c19] at H
        have c19b0 := beq_iff_eq.mpr c19
        have c19b1 := bne_eq_false_iff_eq.mpr c19
        clear c19
        obtain rfl := Option.some.inj H
        go_wp2
        go_ret
        exact ⟨by first | rfl | (simp; done) | (simp [*]; done), by repeat (first | exact Drawn0.refl _ | apply Drawn0.step)⟩
       rw [if_neg c19] at H
       have c19b0 := beq_eq_false_iff_ne.mpr c19
       have c19b1 := bne_iff_ne.mpr c19
       obtain ⟨ji20, hji20⟩ : ∃ j_ : Int, (wrap64 (x3_2 + 1)) = j_ := ⟨_, rfl⟩
       replace H : (if 0 ≤ (ji20) then (if (ji20) < (a0.size : Int) then (if (bt a0 (ji20)) = 45 then (some false) else (dancestudioref05_Valid.l0 kj11 a0 ji20)) else (none)) else (none)) = some r := by first | (rw [hji20] at H; exact H) | (simp only [hji20] at H ⊢; exact H)
       have hji20w : (IntKind.i64.wrap (x3_2 + 1)) = ji20 := (i64_w _).trans hji20
       obtain ⟨c21, H⟩ : (0 ≤ (ji20)) ∧ _ := mIf H
       have c21b0 := decide_eq_true c21
       clear c21
       obtain ⟨c22, H⟩ : ((ji20) < (a0.size : Int)) ∧ _ := mIf H
       have c22b0 := decide_eq_true c22
       clear c22
       by_cases c24 : (bt a0 (ji20)) = 45
       ·
        rw [if_pos c24] at H
        have c24b0 := beq_iff_eq.mpr c24
        have c24b1 := bne_eq_false_iff_eq.mpr c24
        clear c24
        obtain rfl := Option.some.inj H
        have p23 : 0 ≤ ((ji20) : Int) := of_decide_eq_true (by assumption)
        have q23 : (ji20) < (a0.size : Int) := of_decide_eq_true (by assumption)
        have hx23 := bt_at a0 (ji20)
        replace p23 := eq_true p23
        replace q23 := eq_true q23
        go_wp2
        go_ret
        exact ⟨by first | rfl | (simp; done) | (simp only [← hji20] <;> (first | rfl | simp)) | (simp [*]; done), by repeat (first | exact Drawn0.refl _ | apply Drawn0.step)⟩
       rw [if_neg c24] at H
       have c24b0 := beq_eq_false_iff_ne.mpr c24
       have c24b1 := bne_iff_ne.mpr c24
       have H' := Aside0.mk H
       clear H
       have p23 : 0 ≤ ((ji20) : Int) := of_decide_eq_true (by assumption)
       have q23 : (ji20) < (a0.size : Int) := of_decide_eq_true (by assumption)
       have hx23 := bt_at a0 (ji20)
       replace p23 := eq_true p23
       replace q23 := eq_true q23
       go_wp2
       go_roundg kj11
       case measure => have := HJ1.out; have := HK2.out; have := HJ11.out; omega
       case rel => exact ⟨(ji20), (by first | rfl | (simp; done) | (simp only [← hji20] <;> (first | rfl | simp)) | (simp [*]; done)), H', ⟨by have := HJ1.out; have := HK2.out; have := HJ11.out; omega⟩, by repeat (first | exact Drawn0.refl _ | apply Drawn0.step)⟩
end Go.Proofs.YtimikhbnihedkaaDoor.PAll
/- Plain facts about rounded quotients, square roots, greatest common divisors and the order of products, without any program. -/
namespace Go.Proofs.YtimikhbnihedkaaDoor.MathNum
open Go.RowKit

theorem w64 {n : Int} (h1 : -9223372036854775808 ≤ n) (h2 : n ≤ 9223372036854775807) : wrap64 n = n := by
  unfold wrap64; omega

theorem mul_range {a b A B : Int} (h1 : -A ≤ a) (h2 : a ≤ A) (h3 : 0 ≤ b) (h4 : b ≤ B) : -(A * B) ≤ a * b ∧ a * b ≤ A * B := by
  have hA : 0 ≤ A := by omega
  have k1 : a * b ≤ A * b := Int.mul_le_mul_of_nonneg_right h2 h3
  have k2 : A * b ≤ A * B := Int.mul_le_mul_of_nonneg_left h4 hA
  have k3 : -A * b ≤ a * b := Int.mul_le_mul_of_nonneg_right h1 h3
  have k4 : -A * b = -(A * b) := Int.neg_mul A b
  omega

theorem mul_range2 {a b A B : Int} (h1 : -A ≤ a) (h2 : a ≤ A) (h3 : -B ≤ b) (h4 : b ≤ B) : -(A * B) ≤ a * b ∧ a * b ≤ A * B := by
  rcases Int.le_total 0 b with h | h
  · exact mul_range h1 h2 h h4
  · have := mul_range (a := a) (b := -b) (B := B) h1 h2 (by omega) (by omega)
    rw [Int.mul_neg] at this
    omega

/-- Go's quotient and remainder by a positive number, corrected, are the floor and its remainder. -/
theorem tdiv_floor {a b : Int} (hb : 0 < b) : (a.tmod b < 0 → a.tdiv b - 1 = a / b ∧ a.tmod b + b = a % b) ∧ (¬ a.tmod b < 0 → a.tdiv b = a / b ∧ a.tmod b = a % b) := by
  have e := Int.mul_tdiv_add_tmod a b
  have l := Int.tmod_lt_of_pos a hb
  have l2 : -b < a.tmod b := by
    have := Int.lt_tmod_of_pos a hb
    exact this
  constructor
  · intro h
    have := (Int.ediv_emod_unique (a := a) (b := b) (r := a.tmod b + b) (q := a.tdiv b - 1) hb).mpr ⟨by rw [Int.mul_sub, Int.mul_one]; omega, by omega, by omega⟩
    exact ⟨this.1.symm, this.2.symm⟩
  · intro h
    have := (Int.ediv_emod_unique (a := a) (b := b) (r := a.tmod b) (q := a.tdiv b) hb).mpr ⟨by omega, by omega, l⟩
    exact ⟨this.1.symm, this.2.symm⟩

theorem ediv_range {a b A : Int} (hb : 0 < b) (h1 : -A ≤ a) (h2 : a ≤ A) : -A ≤ a / b ∧ a / b ≤ A := by
  have hA : 0 ≤ A := by omega
  constructor
  · have : -A * b ≤ a := by
      have : -A * b ≤ -A * 1 := Int.mul_le_mul_of_nonpos_left (by omega) (by omega)
      omega
    exact Int.le_ediv_of_mul_le hb this
  · have : a < (A + 1) * b := by
      have : (A + 1) * 1 ≤ (A + 1) * b := Int.mul_le_mul_of_nonneg_left (by omega) (by omega)
      omega
    have := Int.ediv_lt_of_lt_mul hb this
    omega

/-- a / b, rounded to the nearest, halves to the even number, for a positive b. -/
def near (a b : Int) : Int := if 2 * (a % b) > b ∨ 2 * (a % b) = b ∧ (a / b) % 2 ≠ 0 then a / b + 1 else a / b

/-- What 'near' is, by its own words. -/
theorem near_spec {a b : Int} (hb : 0 < b) : ∃ q r : Int, a = b * q + r ∧ 0 ≤ r ∧ r < b ∧ near a b = (if 2 * r > b ∨ 2 * r = b ∧ q % 2 ≠ 0 then q + 1 else q) ∧ q = a / b ∧ r = a % b :=
  ⟨a / b, a % b, (Int.mul_ediv_add_emod a b).symm, Int.emod_nonneg a (by omega), Int.emod_lt_of_pos a hb, rfl, rfl, rfl⟩

theorem near_of {a b q r : Int} (hb : 0 < b) (e : a = b * q + r) (h0 : 0 ≤ r) (h1 : r < b) : near a b = (if 2 * r > b ∨ 2 * r = b ∧ q % 2 ≠ 0 then q + 1 else q) := by
  have := (Int.ediv_emod_unique (a := a) (b := b) (r := r) (q := q) hb).mpr ⟨by omega, h0, h1⟩
  unfold near
  rw [this.1, this.2]

/-- Exact to half a unit, halves to the even number. -/
theorem near_off {a b : Int} (hb : 0 < b) : 2 * (a - near a b * b) ≤ b ∧ -b ≤ 2 * (a - near a b * b) ∧ (2 * (a - near a b * b) = b ∨ 2 * (a - near a b * b) = -b → near a b % 2 = 0) := by
  obtain ⟨q, r, e, h0, h1, hn, _, _⟩ := near_spec (a := a) hb
  rw [hn]
  split
  · have : (q + 1) * b = b * q + b := by rw [Int.add_mul, Int.mul_comm]; omega
    rw [this]; omega
  · have : q * b = b * q := Int.mul_comm q b
    rw [this]; omega

/-- It is the only such number. -/
theorem near_unique {a b n : Int} (hb : 0 < b) (h1 : 2 * (a - n * b) ≤ b) (h2 : -b ≤ 2 * (a - n * b)) (h3 : 2 * (a - n * b) = b ∨ 2 * (a - n * b) = -b → n % 2 = 0) : near a b = n := by
  obtain ⟨g1, g2, g3⟩ := near_off (a := a) hb
  generalize near a b = m at *
  -- m and n differ by at most one
  have k1 : (m - n) * b ≤ b := by rw [Int.sub_mul]; omega
  have k2 : -b ≤ (m - n) * b := by rw [Int.sub_mul]; omega
  have l1 : m - n ≤ 1 := by
    apply Int.not_lt.mp; intro h
    have : 2 * b ≤ (m - n) * b := Int.mul_le_mul_of_nonneg_right (by omega) (by omega)
    omega
  have l2 : -1 ≤ m - n := by
    apply Int.not_lt.mp; intro h
    have : (m - n) * b ≤ -2 * b := Int.mul_le_mul_of_nonneg_right (by omega) (by omega)
    omega
  have h : m = n ∨ m = n + 1 ∨ m = n - 1 := by omega
  rcases h with h | h | h
  · exact h
  · subst h
    rw [Int.add_mul] at *
    have a1 := h3 (Or.inl (by omega))
    have a2 := g3 (Or.inr (by omega))
    omega
  · subst h
    rw [Int.sub_mul] at *
    have a1 := h3 (Or.inr (by omega))
    have a2 := g3 (Or.inl (by omega))
    omega

theorem near_neg {a b : Int} (hb : 0 < b) : near (-a) b = -near a b := by
  obtain ⟨g1, g2, g3⟩ := near_off (a := a) hb
  apply near_unique hb
  · rw [Int.neg_mul]; omega
  · rw [Int.neg_mul]; omega
  · intro h
    rw [Int.neg_mul] at h
    have := g3 (by omega)
    omega

theorem near_exact {b q : Int} (hb : 0 < b) : near (b * q) b = q := by
  rw [near_of hb (q := q) (r := 0) (by omega) (by omega) hb]
  rw [if_neg (by omega)]

theorem near_shift {a b c : Int} (hb : 0 < b) (hc : c % 2 = 0) : near (a + c * b) b = near a b + c := by
  obtain ⟨g1, g2, g3⟩ := near_off (a := a) hb
  apply near_unique hb
  · rw [Int.add_mul]; omega
  · rw [Int.add_mul]; omega
  · intro h
    rw [Int.add_mul] at h
    have := g3 (by omega)
    omega

theorem near_lo {a b m : Int} (hb : 0 < b) (h : m * b ≤ a) : m ≤ near a b := by
  obtain ⟨q, r, e, h0, h1, hn, hq, _⟩ := near_spec (a := a) hb
  have : m ≤ q := by rw [hq]; exact Int.le_ediv_of_mul_le hb h
  rw [hn]; split <;> omega

theorem near_hi {a b m : Int} (hb : 0 < b) (h : a ≤ m * b) : near a b ≤ m := by
  have := near_lo (a := -a) (m := -m) hb (by rw [Int.neg_mul]; omega)
  rw [near_neg hb] at this
  omega

theorem near_range {a b A : Int} (hb : 0 < b) (h1 : -A ≤ a) (h2 : a ≤ A) : -A ≤ near a b ∧ near a b ≤ A := by
  have hA : 0 ≤ A := by omega
  have k : A * 1 ≤ A * b := Int.mul_le_mul_of_nonneg_left (by omega) hA
  exact ⟨near_lo hb (by rw [Int.neg_mul]; omega), near_hi hb (by omega)⟩

/-- -1, 0 or 1, as a is less than, equal to or greater than b. -/
def cmp3 (a b : Int) : Int := if a < b then -1 else if a > b then 1 else 0

theorem cmp3_lt {a b : Int} (h : a < b) : cmp3 a b = -1 := by unfold cmp3; rw [if_pos h]
theorem cmp3_gt {a b : Int} (h : b < a) : cmp3 a b = 1 := by unfold cmp3; rw [if_neg (by omega), if_pos h]
theorem cmp3_eq {a b : Int} (h : a = b) : cmp3 a b = 0 := by unfold cmp3; rw [if_neg (by omega), if_neg (by omega)]
theorem cmp3_swap (a b : Int) : cmp3 b a = -cmp3 a b := by unfold cmp3; split <;> split <;> (try split) <;> omega
theorem cmp3_range (a b : Int) : -1 ≤ cmp3 a b ∧ cmp3 a b ≤ 1 := by unfold cmp3; split <;> (try split) <;> omega
theorem cmp3_cases (a b : Int) : (a < b ∧ cmp3 a b = -1) ∨ (a = b ∧ cmp3 a b = 0) ∨ (b < a ∧ cmp3 a b = 1) := by
  rcases Int.lt_trichotomy a b with h | h | h
  · exact Or.inl ⟨h, cmp3_lt h⟩
  · exact Or.inr (Or.inl ⟨h, cmp3_eq h⟩)
  · exact Or.inr (Or.inr ⟨h, cmp3_gt h⟩)

end Go.Proofs.YtimikhbnihedkaaDoor.MathNum
/- Words for what a printed function answers once it has rounds enough. -/
namespace Go.Proofs.YtimikhbnihedkaaDoor.EvWords
open Go Go.RowKit Go.Proofs.YtimikhbnihedkaaDoorW.PrintWords Go.Proofs.YtimikhbnihedkaaDoorW.PrintLast Go.Proofs.YtimikhbnihedkaaDoorW.PrintMore Go.Proofs.YtimikhbnihedkaaDoor.MathNum

theorem ev_pos {α : Type} {c : Prop} [Decidable c] (h : c) {A B : Nat → Option α} {r : α} (e : Ev A r) : Ev (fun k => if c then A k else B k) r := by
  simp only [if_pos h]; exact e
theorem ev_neg {α : Type} {c : Prop} [Decidable c] (h : ¬ c) {A B : Nat → Option α} {r : α} (e : Ev B r) : Ev (fun k => if c then A k else B k) r := by
  simp only [if_neg h]; exact e
theorem ev_now {α : Type} (r : α) : Ev (fun _ => some r) r := Ev.now r
theorem ev_eq {α : Type} {g : Nat → Option α} {r r' : α} (e : Ev g r) (h : r = r') : Ev g r' := h ▸ e
theorem ev_some {α : Type} {g : Nat → Option α} {r : α} (e : Ev g r) : ∃ k, g k = some r := e.rounds
/-- A step of a loop, or of a join: the number of rounds goes down by one. -/
theorem ev_step {α : Type} {g f : Nat → Option α} {r : α} (h : ∀ k, g (k + 1) = f k) (e : Ev f r) : Ev g r := Ev.step h e
theorem ev_let {α β : Type} {a : α} {f : Nat → α → Option β} {r : β} (e : Ev (fun n => f n a) r) : Ev (fun n => (some a).bind (f n)) r := by
  simpa only [Option.bind_some] using e

/-- A list's element behind a store. -/
theorem rd_set {l : List Int} {i j v : Int} (h0 : 0 ≤ i) (h1 : i < l.length) (hj : 0 ≤ j) : rd (l.set i.toNat v) j = if j = i then v else rd l j := by
  unfold rd
  rw [List.getD_eq_getElem?_getD, List.getElem?_set, List.getD_eq_getElem?_getD]
  by_cases h : j = i
  · subst h
    rw [if_pos rfl, if_pos rfl, if_pos (by omega)]; rfl
  · rw [if_neg (by omega), if_neg h]
theorem rdB_set {l : List Bool} {i j : Int} {v : Bool} (h0 : 0 ≤ i) (h1 : i < l.length) (hj : 0 ≤ j) : rdOf false (l.set i.toNat v) j = if j = i then v else rdOf false l j := by
  unfold rdOf
  rw [List.getD_eq_getElem?_getD, List.getElem?_set, List.getD_eq_getElem?_getD]
  by_cases h : j = i
  · subst h
    rw [if_pos rfl, if_pos rfl, if_pos (by omega)]; rfl
  · rw [if_neg (by omega), if_neg h]
theorem rd_rep {n : Nat} {v j : Int} (h0 : 0 ≤ j) (h1 : j < n) : rd (List.replicate n v) j = v := by
  unfold rd
  rw [List.getD_eq_getElem?_getD, List.getElem?_replicate, if_pos (by omega)]; rfl
theorem rdB_rep {n : Nat} {j : Int} : rdOf false (List.replicate n false) j = false := by
  unfold rdOf
  rw [List.getD_eq_getElem?_getD, List.getElem?_replicate]
  split <;> rfl
end Go.Proofs.YtimikhbnihedkaaDoor.EvWords
namespace Go.Proofs.YtimikhbnihedkaaDoor.PAll
set_option linter.unusedVariables false
set_option linter.unusedSectionVars false
set_option linter.unusedSimpArgs false
open Go Go.RowKit Go.Proofs.YtimikhbnihedkaaDoorW.PrintWords Go.Proofs.YtimikhbnihedkaaDoorW.PrintLast Go.Proofs.YtimikhbnihedkaaDoorW.PrintMore Go.Proofs.YtimikhbnihedkaaDoor.MathNum Go.Proofs.YtimikhbnihedkaaDoor.EvWords

abbrev Bs := List UInt8
def mkB (l : Bs) : ByteArray := ⟨l.toArray⟩
theorem ex_mk (s : ByteArray) : ∃ l, s = mkB l := ⟨s.data.toList, by obtain ⟨⟨l⟩⟩ := s; rfl⟩
theorem size_mk (l : Bs) : (mkB l).size = l.length := rfl
theorem toList_mk (l : Bs) : (mkB l).toList = l := ByteArray.toList_eq _
theorem mk_extract (l : Bs) (a b : Nat) : (mkB l).extract a b = mkB ((l.drop a).take (b - a)) := by
  rw [Lib.extract_eq]; rfl
theorem bt_mk {l : Bs} {i : Nat} (h : i < l.length) : bt (mkB l) (i : Int) = (l[i].toNat : Int) := by
  unfold bt
  rw [dif_pos (by rw [Int.toNat_natCast, size_mk]; exact h)]
  rfl
def okc (c : Int) : Prop := (97 ≤ c ∧ c ≤ 122) ∨ (48 ≤ c ∧ c ≤ 57) ∨ c = 45
theorem small_ev (c : Int) : ident_small.f c = some (decide (97 ≤ c ∧ c ≤ 122)) := by
  unfold ident_small.f; by_cases h : 97 ≤ c <;> simp [h]
theorem digit_ev (c : Int) : ident_digit.f c = some (decide (48 ≤ c ∧ c ≤ 57)) := by
  unfold ident_digit.f; by_cases h : 48 ≤ c <;> simp [h]
section
variable (l : Bs)
theorem name_l0 (hs : l.length ≤ 24) (d : Nat) : ∀ i : Nat, i + d = l.length → ∃ b : Bool, (b = true ↔ ∀ j : Nat, i ≤ j → j < l.length → okc (bt (mkB l) j)) ∧ Ev (fun k => ident_Valid.l0 k (mkB l) (l.length : Int) (i : Int)) b := by
  induction d with
  | zero =>
    intro i hi
    exact ⟨true, ⟨fun _ j h1 h2 => by omega, fun _ => rfl⟩, ev_step (fun k => by simp only [ident_Valid.l0] <;> exact rfl) (ev_neg (by omega) (ev_now _))⟩
  | succ d ih =>
    intro i hi
    obtain ⟨b, hb, eb⟩ := ih (i + 1) (by omega)
    have next : okc (bt (mkB l) i) → (b = true ↔ ∀ j : Nat, i ≤ j → j < l.length → okc (bt (mkB l) j)) := fun h => by
      rw [hb]
      exact ⟨fun q j h1 h2 => by by_cases e : j = i; exact e ▸ h; exact q j (by omega) h2, fun q j h1 h2 => q j (by omega) h2⟩
    have go : Ev (fun k => ident_Valid.l0 k (mkB l) (l.length : Int) (wrap64 ((i : Int) + 1))) b := by
      rw [w64 (by omega) (by omega)]; exact eb
    by_cases h1 : 97 ≤ bt (mkB l) i ∧ bt (mkB l) i ≤ 122
    · refine ⟨b, next (Or.inl h1), ev_step (fun k => by simp only [ident_Valid.l0] <;> exact rfl) (ev_pos (by omega) (ev_pos (by omega) (ev_pos (by rw [size_mk]; omega) ?_)))⟩
      simp only [small_ev, Option.bind_some]
      exact ev_pos (by simpa using h1) go
    · by_cases h2 : 48 ≤ bt (mkB l) i ∧ bt (mkB l) i ≤ 57
      · refine ⟨b, next (Or.inr (Or.inl h2)), ev_step (fun k => by simp only [ident_Valid.l0] <;> exact rfl) (ev_pos (by omega) (ev_pos (by omega) (ev_pos (by rw [size_mk]; omega) ?_)))⟩
        simp only [small_ev, digit_ev, Option.bind_some]
        exact ev_neg (by simpa using h1) (ev_pos (by simpa using h2) go)
      · by_cases h3 : bt (mkB l) i = 45
        · refine ⟨b, next (Or.inr (Or.inr h3)), ev_step (fun k => by simp only [ident_Valid.l0] <;> exact rfl) (ev_pos (by omega) (ev_pos (by omega) (ev_pos (by rw [size_mk]; omega) ?_)))⟩
          simp only [small_ev, digit_ev, Option.bind_some]
          exact ev_neg (by simpa using h1) (ev_neg (by simpa using h2) (ev_pos h3 go))
        · refine ⟨false, ⟨fun h => by (cases h), fun h => absurd (h i (Nat.le_refl _) (by omega)) (by unfold okc; omega)⟩, ev_step (fun k => by simp only [ident_Valid.l0] <;> exact rfl) (ev_pos (by omega) (ev_pos (by omega) (ev_pos (by rw [size_mk]; omega) ?_)))⟩
          simp only [small_ev, digit_ev, Option.bind_some]
          exact ev_neg (by simpa using h1) (ev_neg (by simpa using h2) (ev_neg h3 (ev_now _)))
def okr (i : Nat) : Prop := okc (bt (mkB l) i) ∧ (bt (mkB l) i = 45 → i + 1 < l.length ∧ bt (mkB l) (i + 1 : Nat) ≠ 45)
/-- A name. -/
def nameOk : Prop := 1 ≤ l.length ∧ l.length ≤ 24 ∧ (97 ≤ bt (mkB l) (0 : Nat) ∧ bt (mkB l) (0 : Nat) ≤ 122) ∧ ∀ j : Nat, j < l.length → okr l j
theorem u8_45 (c : UInt8) : (c.toNat : Int) = 45 ↔ c = 45 := ⟨fun h => UInt8.toNat_inj.1 (by have : (45 : UInt8).toNat = 45 := rfl; omega), fun h => by subst h; rfl⟩
theorem twice45 : Lib.contains l [45, 45] = true ↔ ∃ i : Nat, i + 1 < l.length ∧ bt (mkB l) i = 45 ∧ bt (mkB l) (i + 1 : Nat) = 45 := by
  have occ : ∀ i : Nat, Lib.occAt l [45, 45] i = true ↔ (i + 1 < l.length ∧ bt (mkB l) i = 45 ∧ bt (mkB l) (i + 1 : Nat) = 45) := by
    intro i
    unfold Lib.occAt
    by_cases h : i + 1 < l.length
    · rw [← List.getElem_cons_drop (show i < l.length by omega), ← List.getElem_cons_drop h, bt_mk (show i < l.length by omega), bt_mk h, u8_45, u8_45]
      simp only [List.isPrefixOf, Bool.and_true, Bool.and_eq_true, beq_iff_eq, h, true_and]
      exact ⟨fun q => ⟨q.1.symm, q.2.symm⟩, fun q => ⟨q.1.symm, q.2.symm⟩⟩
    · refine ⟨fun q => ?_, fun q => absurd q.1 h⟩
      have := (List.isPrefixOf_iff_prefix.1 q).length_le
      simp at this
      omega
  unfold Lib.contains
  rw [decide_eq_true_iff]
  rcases Lib.index_spec l [45, 45] with ⟨e, h⟩ | ⟨i, e, hi, h, _⟩
  · rw [e]
    refine ⟨fun q => by omega, fun ⟨i, q⟩ => ?_⟩
    have := h i (by omega)
    rw [(occ i).2 q] at this; cases this
  · rw [e]
    exact ⟨fun _ => ⟨i, (occ i).1 h⟩, fun _ => by omega⟩
theorem suffix_ev (h1 : 1 ≤ l.length) (h2 : l.length ≤ 24) : strings_HasSuffix.f (mkB l) ⟨#[45]⟩ = some (decide (bt (mkB l) (l.length - 1 : Nat) = 45)) := by
  unfold strings_HasSuffix.f stringslite_HasSuffix.f
  have e1 : ((⟨#[45]⟩ : ByteArray).size : Int) = 1 := rfl
  rw [e1, size_mk, w64 (by omega) (by omega), if_pos (by omega), if_pos (by omega), if_pos (by omega)]
  simp only [Option.bind_some]
  have e2 : ((l.length : Int) - 1).toNat = l.length - 1 := by omega
  have e3 : (⟨#[45]⟩ : ByteArray).toList = [45] := ByteArray.toList_eq _
  rw [e2, mk_extract, toList_mk, e3, bt_mk (by omega), ← List.getElem_cons_drop (show l.length - 1 < l.length by omega), show l.length - (l.length - 1) = 1 by omega]
  congr 1
  have := u8_45 l[l.length - 1]
  simp only [List.take_succ_cons, List.take_zero]
  rw [Bool.eq_iff_iff]
  simp [this]
theorem name_ev : ∃ b : Bool, (b = true ↔ nameOk l) ∧ Ev (fun k => ident_Valid.f k (mkB l)) b := by
  have bad : Ev (fun k => ident_Valid.j0 k (mkB l) true) false := ev_step (fun k => by simp only [ident_Valid.j0] <;> exact rfl) (ev_pos (c := true = true) rfl (ev_now _))
  unfold ident_Valid.f
  by_cases h1 : l = []
  · exact ⟨false, ⟨fun h => by (cases h), fun h => by (unfold nameOk at h; subst h1; simp at h)⟩, ev_pos (by rw [toList_mk]; exact h1) bad⟩
  have h1' : 1 ≤ l.length := by cases l with | nil => exact absurd rfl h1 | cons a t => simp
  by_cases h2 : l.length > 24
  · exact ⟨false, ⟨fun h => by (cases h), fun h => by (unfold nameOk at h; omega)⟩, ev_neg (by rw [toList_mk]; exact h1) (ev_pos (by rw [size_mk]; omega) bad)⟩
  have pre : ∀ {b : Bool}, Ev (fun k => (ident_small.f (bt (mkB l) 0)).bind fun t102 => (if t102 = true then ((strings_HasSuffix.f (mkB l) (⟨#[45]⟩ : ByteArray)).bind fun t103 => (if t103 = true then (ident_Valid.j0 k (mkB l) true) else ((strings_Contains.f (mkB l) (⟨#[45, 45]⟩ : ByteArray)).bind fun t104 => (ident_Valid.j0 k (mkB l) t104)))) else (ident_Valid.j0 k (mkB l) true))) b → Ev (fun k => ident_Valid.f k (mkB l)) b := fun e => by
    unfold ident_Valid.f
    exact ev_neg (by rw [toList_mk]; exact h1) (ev_neg (by rw [size_mk]; omega) (ev_pos (by rw [size_mk]; omega) e))
  have e4 : strings_Contains.f (mkB l) ⟨#[45, 45]⟩ = some (Lib.contains l [45, 45]) := by
    unfold strings_Contains.f
    rw [if_pos (by rw [size_mk]; omega)]; rfl
  by_cases h3 : 97 ≤ bt (mkB l) (0 : Nat) ∧ bt (mkB l) (0 : Nat) ≤ 122
  · have h3' : 97 ≤ bt (mkB l) 0 ∧ bt (mkB l) 0 ≤ 122 := h3
    by_cases h4 : bt (mkB l) (l.length - 1 : Nat) = 45
    · refine ⟨false, ⟨fun h => by (cases h), fun h => by (have := ((h.2.2.2 (l.length - 1) (by omega)).2 h4).1; omega)⟩, pre ?_⟩
      simp only [small_ev, Option.bind_some, suffix_ev l h1' (by omega)]
      exact ev_pos (by simpa using h3') (ev_pos (by simpa using h4) bad)
    · by_cases h5 : Lib.contains l [45, 45] = true
      · obtain ⟨i, q1, q2, q3⟩ := (twice45 l).1 h5
        refine ⟨false, ⟨fun h => by (cases h), fun h => absurd q3 ((h.2.2.2 i (by omega)).2 q2).2⟩, pre ?_⟩
        simp only [small_ev, Option.bind_some, suffix_ev l h1' (by omega), e4, h5]
        exact ev_pos (by simpa using h3') (ev_neg (by simpa using h4) bad)
      · obtain ⟨b, hb, eb⟩ := name_l0 l (by omega) l.length 0 (by omega)
        have h5' : Lib.contains l [45, 45] = false := by simpa using h5
        refine ⟨b, ?_, pre ?_⟩
        · rw [hb]
          refine ⟨fun q => ⟨h1', by omega, h3, fun j hj => ⟨q j (by omega) hj, fun e => ?_⟩⟩, fun q j _ hj => (q.2.2.2 j hj).1⟩
          by_cases hl : j + 1 < l.length
          · exact ⟨hl, fun e' => h5 ((twice45 l).2 ⟨j, hl, e, e'⟩)⟩
          · exact absurd (by rw [show l.length - 1 = j by omega]; exact e) h4
        · simp only [small_ev, Option.bind_some, suffix_ev l h1' (by omega), e4, h5']
          exact ev_pos (by simpa using h3') (ev_neg (by simpa using h4) (ev_step (fun k => by simp only [ident_Valid.j0] <;> exact rfl) (ev_neg (by simp) eb)))
  · have h3' : ¬ (97 ≤ bt (mkB l) 0 ∧ bt (mkB l) 0 ≤ 122) := h3
    refine ⟨false, ⟨fun h => by (cases h), fun h => absurd h.2.2.1 h3⟩, pre ?_⟩
    simp only [small_ev, Option.bind_some]
    exact ev_neg (by simpa using h3') bad
end
theorem ex_data (s : ByteArray) : s = mkB s.data.toList := by obtain ⟨⟨l⟩⟩ := s; rfl
def fe (e : Nat → Int) : Nat → Nat → Int → Int
 | 0, _, r => r
 | d + 1, i, r => if e i = 0 then fe e d (i + 1) r else e i
theorem fe_zero {e : Nat → Int} {r : Int} : ∀ {d i : Nat}, fe e d i r = 0 → (∀ j, i ≤ j → j < i + d → e j = 0) ∧ r = 0
 | 0, i, h => ⟨fun j h1 h2 => by omega, h⟩
 | d + 1, i, h => by
  unfold fe at h
  by_cases h0 : e i = 0
  · rw [if_pos h0] at h
    obtain ⟨q, hr⟩ := fe_zero h
    exact ⟨fun j h1 h2 => by
      by_cases e1 : j = i
      · rw [e1]; exact h0
      · exact q j (by omega) (by omega), hr⟩
  · rw [if_neg h0] at h; exact absurd h h0
theorem fe_of {e : Nat → Int} {r : Int} : ∀ {d i : Nat}, (∀ j, i ≤ j → j < i + d → e j = 0) → fe e d i r = r
 | 0, i, _ => rfl
 | d + 1, i, h => by
  unfold fe
  rw [if_pos (h i (Nat.le_refl _) (by omega))]
  exact fe_of (fun j h1 h2 => h j (by omega) (by omega))
theorem fe_loop {F : Nat → Nat → Option Int} {e : Nat → Int} {n : Nat} {r : Int} (hend : Ev (fun k => F k n) r)
    (hstep : ∀ i, i < n → e i = 0 → ∀ v, Ev (fun k => F k (i + 1)) v → Ev (fun k => F k i) v) (herr : ∀ i, i < n → e i ≠ 0 → Ev (fun k => F k i) (e i)) :
    ∀ d i : Nat, i + d = n → Ev (fun k => F k i) (fe e d i r)
 | 0, i, h => by obtain rfl : i = n := by omega
                 exact hend
 | d + 1, i, h => by
  unfold fe
  by_cases h0 : e i = 0
  · rw [if_pos h0]; exact hstep i (by omega) h0 _ (fe_loop hend hstep herr d (i + 1) (by omega))
  · rw [if_neg h0]; exact herr i (by omega) h0
theorem rletter_ev (c : Int) : dancestudioref05_letter.f c = some (decide (97 ≤ c ∧ c ≤ 122)) := by
  unfold dancestudioref05_letter.f; by_cases h : c ≥ 97 <;> simp [h]
theorem rdigit_ev (c : Int) : dancestudioref05_digit.f c = some (decide (48 ≤ c ∧ c ≤ 57)) := by
  unfold dancestudioref05_digit.f; by_cases h : c ≥ 48 <;> simp [h]

section
variable (l : Bs)
theorem rname_l0 (hs : l.length ≤ 24) (d : Nat) : ∀ i : Nat, i + d = l.length → ∃ b : Bool, (b = true ↔ ∀ j : Nat, i ≤ j → j < l.length → okr l j) ∧ Ev (fun k => dancestudioref05_Valid.l0 k (mkB l) (i : Int)) b := by
  induction d with
  | zero =>
    intro i hi
    exact ⟨true, ⟨fun _ j h1 h2 => by omega, fun _ => rfl⟩, ev_step (fun k => by simp only [dancestudioref05_Valid.l0] <;> exact rfl) (ev_neg (by rw [size_mk]; omega) (ev_now _))⟩
  | succ d ih =>
    intro i hi
    obtain ⟨b, hb, eb⟩ := ih (i + 1) (by omega)
    have next : okr l i → (b = true ↔ ∀ j : Nat, i ≤ j → j < l.length → okr l j) := fun h => by
      rw [hb]
      exact ⟨fun q j h1 h2 => by by_cases e : j = i; exact e ▸ h; exact q j (by omega) h2, fun q j h1 h2 => q j (by omega) h2⟩
    have bad : ¬ okr l i → (false = true ↔ ∀ j : Nat, i ≤ j → j < l.length → okr l j) := fun h => ⟨fun h => by (cases h), fun q => absurd (q i (Nat.le_refl _) (by omega)) h⟩
    have go : Ev (fun k => dancestudioref05_Valid.l0 k (mkB l) (wrap64 ((i : Int) + 1))) b := by
      rw [w64 (by omega) (by omega)]; exact eb
    have w1 : wrap64 ((i : Int) + 1) = ((i + 1 : Nat) : Int) := by rw [w64 (by omega) (by omega)]; omega
    have w2 : wrap64 ((l.length : Int) - 1) = (l.length : Int) - 1 := w64 (by omega) (by omega)
    -- the join behind the byte's kind
    have j2 : okc (bt (mkB l) i) → ∃ b' : Bool, (b' = true ↔ ∀ j : Nat, i ≤ j → j < l.length → okr l j) ∧ Ev (fun k => dancestudioref05_Valid.j2 k (mkB l) (i : Int) (bt (mkB l) i) false) b' := by
      intro hok
      by_cases h45 : bt (mkB l) i = 45
      · by_cases hl : i + 1 = l.length
        · refine ⟨false, bad (fun q => by have := (q.2 h45).1; omega), ev_step (fun k => by simp only [dancestudioref05_Valid.j2] <;> exact rfl) (ev_neg (by simp) (ev_pos h45 (ev_pos (by rw [size_mk, w2]; omega) (ev_now _))))⟩
        · by_cases hn : bt (mkB l) ((i + 1 : Nat) : Int) = 45
          · refine ⟨false, bad (fun q => (q.2 h45).2 hn), ev_step (fun k => by simp only [dancestudioref05_Valid.j2] <;> exact rfl) (ev_neg (by simp) (ev_pos h45 (ev_neg (by rw [size_mk, w2]; omega) (ev_pos (by omega) (ev_pos (by rw [w1, size_mk]; omega) (ev_pos (by rw [w1]; exact hn) (ev_now _)))))))⟩
          · refine ⟨b, next ⟨hok, fun _ => ⟨by omega, hn⟩⟩, ev_step (fun k => by simp only [dancestudioref05_Valid.j2] <;> exact rfl) (ev_neg (by simp) (ev_pos h45 (ev_neg (by rw [size_mk, w2]; omega) (ev_pos (by omega) (ev_pos (by rw [w1, size_mk]; omega) (ev_neg (by rw [w1]; exact hn) go))))))⟩
      · exact ⟨b, next ⟨hok, fun h => absurd h h45⟩, ev_step (fun k => by simp only [dancestudioref05_Valid.j2] <;> exact rfl) (ev_neg (by simp) (ev_neg h45 go))⟩
    by_cases h1 : 97 ≤ bt (mkB l) i ∧ bt (mkB l) i ≤ 122
    · obtain ⟨b', hb', e'⟩ := j2 (Or.inl h1)
      refine ⟨b', hb', ev_step (fun k => by simp only [dancestudioref05_Valid.l0] <;> exact rfl) (ev_pos (by rw [size_mk]; omega) (ev_pos (by omega) ?_))⟩
      simp only [rletter_ev, Option.bind_some]
      exact ev_pos (by simpa using h1) e'
    · by_cases h2 : 48 ≤ bt (mkB l) i ∧ bt (mkB l) i ≤ 57
      · obtain ⟨b', hb', e'⟩ := j2 (Or.inr (Or.inl h2))
        refine ⟨b', hb', ev_step (fun k => by simp only [dancestudioref05_Valid.l0] <;> exact rfl) (ev_pos (by rw [size_mk]; omega) (ev_pos (by omega) ?_))⟩
        simp only [rletter_ev, rdigit_ev, Option.bind_some]
        exact ev_neg (by simpa using h1) (ev_pos (by simpa using h2) e')
      · by_cases h3 : bt (mkB l) i = 45
        · obtain ⟨b', hb', e'⟩ := j2 (Or.inr (Or.inr h3))
          refine ⟨b', hb', ev_step (fun k => by simp only [dancestudioref05_Valid.l0] <;> exact rfl) (ev_pos (by rw [size_mk]; omega) (ev_pos (by omega) ?_))⟩
          simp only [rletter_ev, rdigit_ev, Option.bind_some]
          refine ev_neg (by simpa using h1) (ev_neg (by simpa using h2) ?_)
          rw [show (bt (mkB l) i != 45) = false by rw [h3]; rfl]
          exact e'
        · refine ⟨false, bad (fun q => by have := q.1; unfold okc at this; omega), ev_step (fun k => by simp only [dancestudioref05_Valid.l0] <;> exact rfl) (ev_pos (by rw [size_mk]; omega) (ev_pos (by omega) ?_))⟩
          simp only [rletter_ev, rdigit_ev, Option.bind_some]
          refine ev_neg (by simpa using h1) (ev_neg (by simpa using h2) ?_)
          rw [show (bt (mkB l) i != 45) = true by simpa using h3]
          exact ev_step (fun k => by simp only [dancestudioref05_Valid.j2] <;> exact rfl) (ev_pos (c := true = true) rfl (ev_now _))
theorem rname_ev : ∃ b : Bool, (b = true ↔ nameOk l) ∧ Ev (fun k => dancestudioref05_Valid.f k (mkB l)) b := by
  have bad : Ev (fun k => dancestudioref05_Valid.j0 k (mkB l) true) false := ev_step (fun k => by simp only [dancestudioref05_Valid.j0] <;> exact rfl) (ev_pos (c := true = true) rfl (ev_now _))
  unfold dancestudioref05_Valid.f
  by_cases h1 : l.length < 1
  · exact ⟨false, ⟨fun h => by (cases h), fun h => by (unfold nameOk at h; omega)⟩, ev_pos (by rw [size_mk]; omega) bad⟩
  by_cases h2 : l.length > 24
  · exact ⟨false, ⟨fun h => by (cases h), fun h => by (unfold nameOk at h; omega)⟩, ev_neg (by rw [size_mk]; omega) (ev_pos (by rw [size_mk]; omega) bad)⟩
  by_cases h3 : 97 ≤ bt (mkB l) (0 : Nat) ∧ bt (mkB l) (0 : Nat) ≤ 122
  · obtain ⟨b, hb, eb⟩ := rname_l0 l (by omega) (l.length - 1) 1 (by omega)
    refine ⟨b, ?_, ev_neg (by rw [size_mk]; omega) (ev_neg (by rw [size_mk]; omega) (ev_pos (by rw [size_mk]; omega) ?_))⟩
    · rw [hb]
      constructor
      · intro q
        exact ⟨by omega, by omega, h3, fun j hj => by
          by_cases e : j = 0
          · subst e; exact ⟨Or.inl h3, fun h => by omega⟩
          · exact q j (by omega) hj⟩
      · intro q j _ h; exact q.2.2.2 j h
    · simp only [rletter_ev, Option.bind_some]
      have h3' : 97 ≤ bt (mkB l) 0 ∧ bt (mkB l) 0 ≤ 122 := h3
      rw [decide_eq_true h3']
      exact ev_step (fun k => by simp only [dancestudioref05_Valid.j0] <;> exact rfl) (ev_neg (by simp) eb)
  · refine ⟨false, ⟨fun h => by (cases h), fun h => absurd h.2.2.1 h3⟩, ev_neg (by rw [size_mk]; omega) (ev_neg (by rw [size_mk]; omega) (ev_pos (by rw [size_mk]; omega) ?_))⟩
    simp only [rletter_ev, Option.bind_some]
    have h3' : ¬ (97 ≤ bt (mkB l) 0 ∧ bt (mkB l) 0 ≤ 122) := h3
    rw [decide_eq_false h3']
    exact bad
end

/-! ### lists -/
end Go.Proofs.YtimikhbnihedkaaDoor.PAll
namespace Go.Proofs.YtimikhbnihedkaaDoor.PAll
open Go.RowKit Go.Proofs.YtimikhbnihedkaaDoorW.PrintWords Go.Proofs.YtimikhbnihedkaaDoorW.PrintLast Go.Proofs.YtimikhbnihedkaaDoorW.PrintMore
attribute [local go_sem] max2_int min2_int max_two min_two max_three min_three max_four min_four
set_option linter.unusedVariables false
set_option linter.unusedSimpArgs false
mutual
def lang_node.j0 : Nat → Bool → Int → ByteArray → Int → Int → Option (Int)
 | 0, _, _, _, _, _ => none
 | k + 1, x12, x109000, x109001, x109002, x109003 => if x12 = true then (some 9) else (if x109000 = 1 then ((ident_Valid.f k x109001).bind fun t109 => (if t109 = true then (lang_node.j1 k false x109000 x109001 x109002 x109003) else (lang_node.j1 k true x109000 x109001 x109002 x109003))) else (lang_node.j1 k (x109001.toList != ([] : List UInt8)) x109000 x109001 x109002 x109003))
def lang_node.j1 : Nat → Bool → Int → ByteArray → Int → Int → Option (Int)
 | 0, _, _, _, _, _ => none
 | k + 1, x31, x109000, x109001, x109002, x109003 => if x31 = true then (some 8) else (if x109000 = 5 then (lang_node.j2 k 0 3 x109000 x109001 x109002 x109003) else (if x109000 = 6 then (lang_node.j2 k 1 16 x109000 x109001 x109002 x109003) else (if x109000 = 7 then (lang_node.j2 k 1 16 x109000 x109001 x109002 x109003) else (lang_node.j2 k 0 0 x109000 x109001 x109002 x109003))))
def lang_node.j2 : Nat → Int → Int → Int → ByteArray → Int → Int → Option (Int)
 | 0, _, _, _, _, _, _ => none
 | k + 1, x3, x4, x109000, x109001, x109002, x109003 => if x109002 < x3 then (lang_node.j3 k true x109000 x109001 x109002 x109003) else (lang_node.j3 k (decide (x109002 > x4)) x109000 x109001 x109002 x109003)
def lang_node.j3 : Nat → Bool → Int → ByteArray → Int → Int → Option (Int)
 | 0, _, _, _, _, _ => none
 | k + 1, x48, x109000, x109001, x109002, x109003 => if x48 = true then (some 1) else (if x109000 = 1 then (if x109003 < 0 then (some 2) else (if x109003 > 0 then (some 2) else (some 0))) else (if x109000 = 2 then (if x109003 < 1 then (some 2) else (if x109003 > 8 then (some 2) else (some 0))) else (if x109003 < 1 then (some 2) else (if x109003 > 1 then (some 2) else (some 0)))))
end
def lang_node.f (k : Nat) (a0_0 : Int) (a0_1 : ByteArray) (a0_2 : Int) (a0_3 : Int) : Option (Int) := if a0_0 < 1 then (lang_node.j0 k true a0_0 a0_1 a0_2 a0_3) else (lang_node.j0 k (decide (a0_0 > 7)) a0_0 a0_1 a0_2 a0_3)
set_option maxHeartbeats 8000000 in
set_option maxRecDepth 100000 in
theorem lang_node.calls (k : Nat) (a0_0 : Int) (a0_1 : ByteArray) (a0_2 : Int) (a0_3 : Int) (r : Int) (w : World) (hmx : Mx w) (h : lang_node.f k a0_0 a0_1 a0_2 a0_3 = some r) :
  Calls Tryd.prog 34 #[.agg #[.int .i64 a0_0, .string a0_1, .int .i64 a0_2, .int .i64 a0_3]] w fun e w' => e = .returned (.int .i64 r) ∧ Below w.heap.size w w' := by
 have HMX_ := Aside0.mk hmx
 clear hmx
 have hu43 := Tryd.underlying43
 have HB := Aside0.mk (Below.refl w.heap.size w)
 have H := h
 unfold lang_node.f at H
 clear h
 have HC2 := Aside0.mk H
 clear H
 go_enter Tryd.func34, Tryd.ntmps34
 go_upto_region 1 with (first | ((with_reducible refine gate_dst (N := 1) rfl ?_); refine box_event rfl (N := 1) rfl (cs := #[.int .i64 a0_0, .string a0_1, .int .i64 a0_2, .int .i64 a0_3]) (t := 43) (by first | (go_simp; done) | (go_simp; rfl)) ?_; intro gb1 hg w3 hbox hb; have BK1 := Aside0.mk hbox; have GW1 := mGw HB hg; have GE1 := GW1; replace HB := mSt HB hb; clear hb hbox hg))
 (try simp only [Act.put, List.setIfInBounds_toArray, List.set_cons_zero, List.set_cons_succ])
 go_cut [12] (fun v12 wc => ∃ (kq : Nat) (x12_1 : Bool), v12 = .bool x12_1 ∧ Aside0 (lang_node.j0 kq x12_1 a0_0 a0_1 a0_2 a0_3 = some r) ∧ Aside0 (kq ≤ k) ∧ Aside0 (wc.heap[gb1]? = some (.cells #[.int .i64 a0_0, .string a0_1, .int .i64 a0_2, .int .i64 a0_3] 43 (0, 0))) ∧ Aside0 (Below w.heap.size w wc))
 case first =>
  have H := HC2.out
  clear HC2
  by_cases c4 : a0_0 < 1
  rotate_left
  ·
   rw [if_neg c4] at H
   have c4b0 := decide_eq_false c4
   clear c4
   (first | rw [c4b0] | (simp only [i64_w, i32_w]; rw [c4b0]) | skip)
   have H' := Aside0.mk H
   clear H
   have hcz6 := blk_cell BK1.out; have hfz6 := blk_frozen BK1.out
   go_wp2
   go_meet
   case rel => exact ⟨_, (decide (a0_0 > 7)), (by first | rfl | (simp; exact isE_ _) | (simp; done) | (simp [*]; done)), H', ⟨by first | omega | exact Nat.le_refl _⟩, ⟨BK1.out⟩, ⟨HB.out⟩⟩
  rw [if_pos c4] at H
  have c4b0 := decide_eq_true c4
  clear c4
  (first | rw [c4b0] | (simp only [i64_w, i32_w]; rw [c4b0]) | skip)
  have H' := Aside0.mk H
  clear H
  have hcz5 := blk_cell BK1.out; have hfz5 := blk_frozen BK1.out
  go_wp2
  go_meet
  case rel => exact ⟨_, (true), (by first | rfl | (simp; exact isE_ _) | (simp; done) | (simp [*]; done)), H', ⟨by first | omega | exact Nat.le_refl _⟩, ⟨BK1.out⟩, ⟨HB.out⟩⟩
 case rest =>
  clear HC2; try clear p2; try clear c3; try clear c4; try clear c4b0; try clear hcz5_0; try clear hcz5_1; try clear hcz5_2; try clear hcz5_3; try clear hcz6_0; try clear hcz6_1; try clear hcz6_2; try clear hcz6_3; try clear hfz5_0; try clear hfz5_1; try clear hfz5_2; try clear hfz5_3; try clear hfz6_0; try clear hfz6_1; try clear hfz6_2; try clear hfz6_3
  obtain ⟨kq, x12_1, rfl, HA, HJ1, BK1, HB⟩ := hcut
  cases kq with
  | zero => exact absurd HA.out (by simp [lang_node.j0])
  | succ kj1 =>
   have H := HA.out
   clear HA
   simp only [lang_node.j0] at H
   by_cases c7 : x12_1 = true
   ·
    subst c7
    rw [if_pos rfl] at H
    obtain rfl := Option.some.inj H
    go_wp2
    go_ret
    exact ⟨rfl, HB.out⟩
   replace c7 := Bool.eq_false_iff.mpr c7
   subst c7
   rw [if_neg (show ¬ (false = true) by decide)] at H
   have HC8 := Aside0.mk H
   clear H
   go_upto_region 3 with (fail)
   go_cut [31] (fun v31 wc => ∃ (kq : Nat) (x31_7 : Bool), v31 = .bool x31_7 ∧ Aside0 (lang_node.j1 kq x31_7 a0_0 a0_1 a0_2 a0_3 = some r) ∧ Aside0 (kq ≤ kj1) ∧ Aside0 (wc.heap[gb1]? = some (.cells #[.int .i64 a0_0, .string a0_1, .int .i64 a0_2, .int .i64 a0_3] 43 (0, 0))) ∧ Aside0 (Below w.heap.size w wc))
   case first =>
    have H := HC8.out
    clear HC8
    by_cases c9 : a0_0 = 1
    rotate_left
    ·
     rw [if_neg c9] at H
     have c9b0 := beq_eq_false_iff_ne.mpr c9
     have c9b1 := bne_iff_ne.mpr c9
     (first | rw [c9b0] | (simp only [i64_w, i32_w]; rw [c9b0]) | skip)
     have H' := Aside0.mk H
     clear H
     have hcz14 := blk_cell BK1.out; have hfz14 := blk_frozen BK1.out
     go_wp2
     go_meet
     case rel => exact ⟨_, ((a0_1.toList != ([] : List UInt8))), (by first | rfl | (simp; exact isE_ _) | (simp; done) | (simp [*]; done)), H', ⟨by have := HJ1.out; first | omega | exact Nat.le_refl _⟩, ⟨BK1.out⟩, ⟨HB.out⟩⟩
    rw [if_pos c9] at H
    have c9b0 := beq_iff_eq.mpr c9
    have c9b1 := bne_eq_false_iff_eq.mpr c9
    clear c9
    (first | rw [c9b0] | (simp only [i64_w, i32_w]; rw [c9b0]) | skip)
    replace H := Option.bind_eq_some_iff.mp H
    obtain ⟨t109, A100, H⟩ := H
    try dsimp only at H
    have A10 := Aside0.mk A100
    clear A100
    by_cases c11 : t109 = true
    ·
     subst c11
     rw [if_pos rfl] at H
     have H' := Aside0.mk H
     clear H
     have hcz12 := blk_cell BK1.out; have hfz12 := blk_frozen BK1.out
     go_wp2_with (first | (go_at_call 58; (with_reducible refine (ident_Valid.calls kj1 a0_1 true _ (Mx.below HMX_.out HB.out) A10.out).mono ?_); rintro e w' ⟨rfl, ⟨nd, rfl⟩⟩))
     go_meet
     case rel => exact ⟨_, (false), (by first | rfl | (simp; exact isE_ _) | (simp; done) | (simp [*]; done)), H', ⟨by have := HJ1.out; first | omega | exact Nat.le_refl _⟩, ⟨BK1.out⟩, ⟨hO HB⟩⟩
    replace c11 := Bool.eq_false_iff.mpr c11
    subst c11
    rw [if_neg (show ¬ (false = true) by decide)] at H
    have H' := Aside0.mk H
    clear H
    have hcz13 := blk_cell BK1.out; have hfz13 := blk_frozen BK1.out
    go_wp2_with (first | (go_at_call 58; (with_reducible refine (ident_Valid.calls kj1 a0_1 false _ (Mx.below HMX_.out HB.out) A10.out).mono ?_); rintro e w' ⟨rfl, ⟨nd, rfl⟩⟩))
    go_meet
    case rel => exact ⟨_, (true), (by first | rfl | (simp; exact isE_ _) | (simp; done) | (simp [*]; done)), H', ⟨by have := HJ1.out; first | omega | exact Nat.le_refl _⟩, ⟨BK1.out⟩, ⟨hO HB⟩⟩
   case rest =>
    clear HC8; try clear c1; try clear p2; try clear c3; try clear c4; try clear c4b0; try clear c7; try clear c9; try clear c9b0; try clear c9b1; try clear c11; try clear hcz12_0; try clear hcz12_1; try clear hcz12_2; try clear hcz12_3; try clear hcz13_0; try clear hcz13_1; try clear hcz13_2; try clear hcz13_3; try clear hcz14_0; try clear hcz14_1; try clear hcz14_2; try clear hcz14_3; try clear hcz5_0; try clear hcz5_1; try clear hcz5_2; try clear hcz5_3; try clear hcz6_0; try clear hcz6_1; try clear hcz6_2; try clear hcz6_3; try clear hfz12_0; try clear hfz12_1; try clear hfz12_2; try clear hfz12_3; try clear hfz13_0; try clear hfz13_1; try clear hfz13_2; try clear hfz13_3; try clear hfz14_0; try clear hfz14_1; try clear hfz14_2; try clear hfz14_3; try clear hfz5_0; try clear hfz5_1; try clear hfz5_2; try clear hfz5_3; try clear hfz6_0; try clear hfz6_1; try clear hfz6_2; try clear hfz6_3
    obtain ⟨kq, x31_7, rfl, HA, HJ7, BK1, HB⟩ := hcut
    cases kq with
    | zero => exact absurd HA.out (by simp [lang_node.j1])
    | succ kj7 =>
     have H := HA.out
     clear HA
     simp only [lang_node.j1] at H
     by_cases c15 : x31_7 = true
     ·
      subst c15
      rw [if_pos rfl] at H
      obtain rfl := Option.some.inj H
      go_wp2
      go_ret
      exact ⟨rfl, HB.out⟩
     replace c15 := Bool.eq_false_iff.mpr c15
     subst c15
     rw [if_neg (show ¬ (false = true) by decide)] at H
     have HC16 := Aside0.mk H
     clear H
     have hcz17 := blk_cell BK1.out; have hfz17 := blk_frozen BK1.out
     go_upto_block 0 with (fail)
     go_cut [3, 4] (fun v3 v4 wc => ∃ (kq : Nat) (x3_15 : Int) (x4_15 : Int), v3 = .int .i64 x3_15 ∧ v4 = .int .i64 x4_15 ∧ Aside0 (lang_node.j2 kq x3_15 x4_15 a0_0 a0_1 a0_2 a0_3 = some r) ∧ Aside0 (kq ≤ kj7) ∧ Aside0 (wc.heap[gb1]? = some (.cells #[.int .i64 a0_0, .string a0_1, .int .i64 a0_2, .int .i64 a0_3] 43 (0, 0))) ∧ Aside0 (Below w.heap.size w wc))
     case first =>
      have H := HC16.out
      clear HC16
      by_cases c18 : a0_0 = 5
      ·
       rw [if_pos c18] at H
       have c18b0 := beq_iff_eq.mpr c18
       have c18b1 := bne_eq_false_iff_eq.mpr c18
       clear c18
       (first | rw [c18b0] | (simp only [i64_w, i32_w]; rw [c18b0]) | skip)
       have H' := Aside0.mk H
       clear H
       go_wp2
       go_meet
       case rel => exact ⟨_, (0), (3), (by first | rfl | (simp; exact isE_ _) | (simp; done) | (simp [*]; done)), (by first | rfl | (simp; exact isE_ _) | (simp; done) | (simp [*]; done)), H', ⟨by have := HJ1.out; have := HJ7.out; first | omega | exact Nat.le_refl _⟩, ⟨BK1.out⟩, ⟨HB.out⟩⟩
      rw [if_neg c18] at H
      have c18b0 := beq_eq_false_iff_ne.mpr c18
      have c18b1 := bne_iff_ne.mpr c18
      (first | rw [c18b0] | (simp only [i64_w, i32_w]; rw [c18b0]) | skip)
      by_cases c19 : a0_0 = 6
      ·
       rw [if_pos c19] at H
       have c19b0 := beq_iff_eq.mpr c19
       have c19b1 := bne_eq_false_iff_eq.mpr c19
       clear c19
       have H' := Aside0.mk H
       clear H
       go_wp2
       go_meet
       case rel => exact ⟨_, (1), (16), (by first | rfl | (simp; exact isE_ _) | (simp; done) | (simp [*]; done)), (by first | rfl | (simp; exact isE_ _) | (simp; done) | (simp [*]; done)), H', ⟨by have := HJ1.out; have := HJ7.out; first | omega | exact Nat.le_refl _⟩, ⟨BK1.out⟩, ⟨HB.out⟩⟩
      rw [if_neg c19] at H
      have c19b0 := beq_eq_false_iff_ne.mpr c19
      have c19b1 := bne_iff_ne.mpr c19
      by_cases c20 : a0_0 = 7
      rotate_left
      ·
       rw [if_neg c20] at H
       have c20b0 := beq_eq_false_iff_ne.mpr c20
       have c20b1 := bne_iff_ne.mpr c20
       have H' := Aside0.mk H
       clear H
       go_wp2
       go_meet
       case rel => exact ⟨_, (0), (0), (by first | rfl | (simp; exact isE_ _) | (simp; done) | (simp [*]; done)), (by first | rfl | (simp; exact isE_ _) | (simp; done) | (simp [*]; done)), H', ⟨by have := HJ1.out; have := HJ7.out; first | omega | exact Nat.le_refl _⟩, ⟨BK1.out⟩, ⟨HB.out⟩⟩
      rw [if_pos c20] at H
      have c20b0 := beq_iff_eq.mpr c20
      have c20b1 := bne_eq_false_iff_eq.mpr c20
      clear c20
      have H' := Aside0.mk H
      clear H
      go_wp2
      go_meet
      case rel => exact ⟨_, (1), (16), (by first | rfl | (simp; exact isE_ _) | (simp; done) | (simp [*]; done)), (by first | rfl | (simp; exact isE_ _) | (simp; done) | (simp [*]; done)), H', ⟨by have := HJ1.out; have := HJ7.out; first | omega | exact Nat.le_refl _⟩, ⟨BK1.out⟩, ⟨HB.out⟩⟩
     case rest =>
      clear HC16; try clear c1; try clear c2; try clear p2; try clear c3; try clear c4; try clear c4b0; try clear c7; try clear c9; try clear c9b0; try clear c9b1; try clear c11; try clear c15; try clear c18; try clear c18b0; try clear c18b1; try clear c19; try clear c19b0; try clear c19b1; try clear c20; try clear c20b0; try clear c20b1; try clear hcz12_0; try clear hcz12_1; try clear hcz12_2; try clear hcz12_3; try clear hcz13_0; try clear hcz13_1; try clear hcz13_2; try clear hcz13_3; try clear hcz14_0; try clear hcz14_1; try clear hcz14_2; try clear hcz14_3; try clear hcz17_0; try clear hcz17_1; try clear hcz17_2; try clear hcz17_3; try clear hcz5_0; try clear hcz5_1; try clear hcz5_2; try clear hcz5_3; try clear hcz6_0; try clear hcz6_1; try clear hcz6_2; try clear hcz6_3; try clear hfz12_0; try clear hfz12_1; try clear hfz12_2; try clear hfz12_3; try clear hfz13_0; try clear hfz13_1; try clear hfz13_2; try clear hfz13_3; try clear hfz14_0; try clear hfz14_1; try clear hfz14_2; try clear hfz14_3; try clear hfz17_0; try clear hfz17_1; try clear hfz17_2; try clear hfz17_3; try clear hfz5_0; try clear hfz5_1; try clear hfz5_2; try clear hfz5_3; try clear hfz6_0; try clear hfz6_1; try clear hfz6_2; try clear hfz6_3
      obtain ⟨kq, x3_15, x4_15, rfl, rfl, HA, HJ15, BK1, HB⟩ := hcut
      cases kq with
      | zero => exact absurd HA.out (by simp [lang_node.j2])
      | succ kj15 =>
       have H := HA.out
       clear HA
       simp only [lang_node.j2] at H
       have HC21 := Aside0.mk H
       clear H
       go_upto_region 12 with (fail)
       go_cut [48] (fun v48 wc => ∃ (kq : Nat) (x48_20 : Bool), v48 = .bool x48_20 ∧ Aside0 (lang_node.j3 kq x48_20 a0_0 a0_1 a0_2 a0_3 = some r) ∧ Aside0 (kq ≤ kj15) ∧ Aside0 (wc.heap[gb1]? = some (.cells #[.int .i64 a0_0, .string a0_1, .int .i64 a0_2, .int .i64 a0_3] 43 (0, 0))) ∧ Aside0 (Below w.heap.size w wc))
       case first =>
        have H := HC21.out
        clear HC21
        by_cases c22 : a0_2 < x3_15
        rotate_left
        ·
         rw [if_neg c22] at H
         have c22b0 := decide_eq_false c22
         clear c22
         (first | rw [c22b0] | (simp only [i64_w, i32_w]; rw [c22b0]) | skip)
         have H' := Aside0.mk H
         clear H
         have hcz24 := blk_cell BK1.out; have hfz24 := blk_frozen BK1.out
         go_wp2
         go_meet
         case rel => exact ⟨_, (decide (a0_2 > x4_15)), (by first | rfl | (simp; exact isE_ _) | (simp; done) | (simp [*]; done)), H', ⟨by have := HJ1.out; have := HJ7.out; have := HJ15.out; first | omega | exact Nat.le_refl _⟩, ⟨BK1.out⟩, ⟨HB.out⟩⟩
        rw [if_pos c22] at H
        have c22b0 := decide_eq_true c22
        clear c22
        (first | rw [c22b0] | (simp only [i64_w, i32_w]; rw [c22b0]) | skip)
        have H' := Aside0.mk H
        clear H
        have hcz23 := blk_cell BK1.out; have hfz23 := blk_frozen BK1.out
        go_wp2
        go_meet
        case rel => exact ⟨_, (true), (by first | rfl | (simp; exact isE_ _) | (simp; done) | (simp [*]; done)), H', ⟨by have := HJ1.out; have := HJ7.out; have := HJ15.out; first | omega | exact Nat.le_refl _⟩, ⟨BK1.out⟩, ⟨HB.out⟩⟩
       case rest =>
        clear HC21; try clear c1; try clear c2; try clear p2; try clear c3; try clear c4; try clear c4b0; try clear c7; try clear c9; try clear c9b0; try clear c9b1; try clear c11; try clear c15; try clear c18; try clear c18b0; try clear c18b1; try clear c19; try clear c19b0; try clear c19b1; try clear c20; try clear c20b0; try clear c20b1; try clear c22; try clear c22b0; try clear hcz12_0; try clear hcz12_1; try clear hcz12_2; try clear hcz12_3; try clear hcz13_0; try clear hcz13_1; try clear hcz13_2; try clear hcz13_3; try clear hcz14_0; try clear hcz14_1; try clear hcz14_2; try clear hcz14_3; try clear hcz17_0; try clear hcz17_1; try clear hcz17_2; try clear hcz17_3; try clear hcz23_0; try clear hcz23_1; try clear hcz23_2; try clear hcz23_3; try clear hcz24_0; try clear hcz24_1; try clear hcz24_2; try clear hcz24_3; try clear hcz5_0; try clear hcz5_1; try clear hcz5_2; try clear hcz5_3; try clear hcz6_0; try clear hcz6_1; try clear hcz6_2; try clear hcz6_3; try clear hfz12_0; try clear hfz12_1; try clear hfz12_2; try clear hfz12_3; try clear hfz13_0; try clear hfz13_1; try clear hfz13_2; try clear hfz13_3; try clear hfz14_0; try clear hfz14_1; try clear hfz14_2; try clear hfz14_3; try clear hfz17_0; try clear hfz17_1; try clear hfz17_2; try clear hfz17_3; try clear hfz23_0; try clear hfz23_1; try clear hfz23_2; try clear hfz23_3; try clear hfz24_0; try clear hfz24_1; try clear hfz24_2; try clear hfz24_3; try clear hfz5_0; try clear hfz5_1; try clear hfz5_2; try clear hfz5_3; try clear hfz6_0; try clear hfz6_1; try clear hfz6_2; try clear hfz6_3
        obtain ⟨kq, x48_20, rfl, HA, HJ20, BK1, HB⟩ := hcut
        cases kq with
        | zero => exact absurd HA.out (by simp [lang_node.j3])
        | succ kj20 =>
         have H := HA.out
         clear HA
         simp only [lang_node.j3] at H
         by_cases c25 : x48_20 = true
         ·
          subst c25
          rw [if_pos rfl] at H
          obtain rfl := Option.some.inj H
          go_wp2
          go_ret
          exact ⟨rfl, HB.out⟩
         replace c25 := Bool.eq_false_iff.mpr c25
         subst c25
         rw [if_neg (show ¬ (false = true) by decide)] at H
         by_cases c26 : a0_0 = 1
         ·
          rw [if_pos c26] at H
          have c26b0 := beq_iff_eq.mpr c26
          have c26b1 := bne_eq_false_iff_eq.mpr c26
          clear c26
          by_cases c27 : a0_3 < 0
          ·
           rw [if_pos c27] at H
           have c27b0 := decide_eq_true c27
           clear c27
           obtain rfl := Option.some.inj H
           have hcz28 := blk_cell BK1.out; have hfz28 := blk_frozen BK1.out
           go_wp2
           go_ret
           exact ⟨rfl, HB.out⟩
          rw [if_neg c27] at H
          have c27b0 := decide_eq_false c27
          clear c27
          by_cases c29 : a0_3 > 0
          rotate_left
          ·
           rw [if_neg c29] at H
           have c29b0 := decide_eq_false c29
           clear c29
           obtain rfl := Option.some.inj H
           have hcz31 := blk_cell BK1.out; have hfz31 := blk_frozen BK1.out
           go_wp2
           go_ret
           exact ⟨rfl, HB.out⟩
          rw [if_pos c29] at H
          have c29b0 := decide_eq_true c29
          clear c29
          obtain rfl := Option.some.inj H
          have hcz30 := blk_cell BK1.out; have hfz30 := blk_frozen BK1.out
          go_wp2
          go_ret
          exact ⟨rfl, HB.out⟩
         rw [if_neg c26] at H
         have c26b0 := beq_eq_false_iff_ne.mpr c26
         have c26b1 := bne_iff_ne.mpr c26
         by_cases c32 : a0_0 = 2
         rotate_left
         ·
          rw [if_neg c32] at H
          have c32b0 := beq_eq_false_iff_ne.mpr c32
          have c32b1 := bne_iff_ne.mpr c32
          by_cases c38 : a0_3 < 1
          ·
           rw [if_pos c38] at H
           have c38b0 := decide_eq_true c38
           clear c38
           obtain rfl := Option.some.inj H
           have hcz39 := blk_cell BK1.out; have hfz39 := blk_frozen BK1.out
           go_wp2
           go_ret
           exact ⟨rfl, HB.out⟩
          rw [if_neg c38] at H
          have c38b0 := decide_eq_false c38
          clear c38
          by_cases c40 : a0_3 > 1
          rotate_left
          ·
           rw [if_neg c40] at H
           have c40b0 := decide_eq_false c40
           clear c40
           obtain rfl := Option.some.inj H
           have hcz42 := blk_cell BK1.out; have hfz42 := blk_frozen BK1.out
           go_wp2
           go_ret
           exact ⟨rfl, HB.out⟩
          rw [if_pos c40] at H
          have c40b0 := decide_eq_true c40
          clear c40
          obtain rfl := Option.some.inj H
          have hcz41 := blk_cell BK1.out; have hfz41 := blk_frozen BK1.out
          go_wp2
          go_ret
          exact ⟨rfl, HB.out⟩
         rw [if_pos c32] at H
         have c32b0 := beq_iff_eq.mpr c32
         have c32b1 := bne_eq_false_iff_eq.mpr c32
         clear c32
         by_cases c33 : a0_3 < 1
         ·
          rw [if_pos c33] at H
          have c33b0 := decide_eq_true c33
          clear c33
          obtain rfl := Option.some.inj H
          have hcz34 := blk_cell BK1.out; have hfz34 := blk_frozen BK1.out
          go_wp2
          go_ret
          exact ⟨rfl, HB.out⟩
         rw [if_neg c33] at H
         have c33b0 := decide_eq_false c33
         clear c33
         by_cases c35 : a0_3 > 8
         rotate_left
         ·
          rw [if_neg c35] at H
          have c35b0 := decide_eq_false c35
          clear c35
          obtain rfl := Option.some.inj H
          have hcz37 := blk_cell BK1.out; have hfz37 := blk_frozen BK1.out
          go_wp2
          go_ret
          exact ⟨rfl, HB.out⟩
         rw [if_pos c35] at H
         have c35b0 := decide_eq_true c35
         clear c35
         obtain rfl := Option.some.inj H
         have hcz36 := blk_cell BK1.out; have hfz36 := blk_frozen BK1.out
         go_wp2
         go_ret
         exact ⟨rfl, HB.out⟩
mutual
def lang_Check.l0 : Nat → List (S43) → List (S43) → Int → Int → Option (Int)
 | 0, _, _, _, _ => none
 | k + 1, x0, x15, x16, x17 => if x17 < x16 then (if 0 ≤ x17 then (if x17 < (x15.length : Int) then ((lang_node.f k ((rd_T43 x15 x17).f0) ((rd_T43 x15 x17).f1) ((rd_T43 x15 x17).f2) ((rd_T43 x15 x17).f3)).bind fun t112 => (if t112 = 0 then (lang_Check.l0 k x0 x15 x16 (wrap64 (x17 + 1))) else (some t112))) else (none)) else (none)) else (lang_Check.l1 k 1 x0 (x0.length : Int) 0)
def lang_Check.l1 : Nat → Int → List (S43) → Int → Int → Option (Int)
 | 0, _, _, _, _ => none
 | k + 1, x6, x27, x28, x29 => if x29 < x28 then (if 0 ≤ x29 then (if x29 < (x27.length : Int) then (if x6 = 0 then (some 2) else (lang_Check.l1 k (wrap64 (x6 + (wrap64 (((rd_T43 x27 x29).f3) - 1)))) x27 x28 (wrap64 (x29 + 1)))) else (none)) else (none)) else (if x6 = 0 then (some 0) else (some 2))
end
def lang_Check.f (k : Nat) (l0 : List (S43)) : Option (Int) := if (l0.length : Int) = 0 then (some 4) else (if (l0.length : Int) > 64 then (some 3) else (lang_Check.l0 k l0 l0 (l0.length : Int) 0))
set_option maxHeartbeats 8000000 in
set_option maxRecDepth 100000 in
theorem lang_Check.calls (k : Nat) (A0 : Option Addr) (c0 : Nat) (l0 : List (S43)) (r : Int) (w : World) (hr0 : Kd.C k43 w A0 l0.length l0) (hc0 : l0.length ≤ c0) (hmx : Mx w) (h : lang_Check.f k l0 = some r) :
  Calls Tryd.prog 16 #[.slice A0 l0.length c0] w fun e w' => e = .returned (.int .i64 r) ∧ Below w.heap.size w w' := by
 have HMX_ := Aside0.mk hmx
 clear hmx
 have hu43 := Tryd.underlying43
 have HR0 := Aside0.mk hr0
 have HC0 := Aside0.mk hc0
 clear hr0 hc0
 have HB := Aside0.mk (Below.refl w.heap.size w)
 have H := h
 unfold lang_Check.f at H
 clear h
 by_cases c2 : (l0.length : Int) = 0
 ·
  rw [if_pos c2] at H
  have c2b0 : ((l0.length : Int) == 0) = true := beq_iff_eq.mpr c2
  have c2b1 : ((l0.length : Int) != 0) = false := bne_eq_false_iff_eq.mpr c2
  clear c2
  obtain rfl := Option.some.inj H
  go_enter Tryd.func16, Tryd.ntmps16
  go_wp2
  go_ret
  exact ⟨rfl, HB.out⟩
 rw [if_neg c2] at H
 have c2b0 : ((l0.length : Int) == 0) = false := beq_eq_false_iff_ne.mpr c2
 have c2b1 : ((l0.length : Int) != 0) = true := bne_iff_ne.mpr c2
 have c2b2 : ¬ (l0 = []) := fun h_ => c2 (by rw [h_]; rfl)
 by_cases c3 : (l0.length : Int) > 64
 ·
  rw [if_pos c3] at H
  have c3b0 : decide (64 < (l0.length : Int)) = true := decide_eq_true c3
  have c3b1 : decide (64 < l0.length) = true := decide_eq_true (by omega)
  clear c3
  obtain rfl := Option.some.inj H
  go_enter Tryd.func16, Tryd.ntmps16
  go_wp2
  go_ret
  exact ⟨rfl, HB.out⟩
 rw [if_neg c3] at H
 have c3b0 : decide (64 < (l0.length : Int)) = false := decide_eq_false c3
 have c3b1 : decide (64 < l0.length) = false := decide_eq_false (by omega)
 clear c3
 have H' := Aside0.mk H
 clear H
 go_enter Tryd.func16, Tryd.ntmps16
 go_wp2
 go_loopg [17] k (fun kq v17 w' => ∃ (x17_1 : Int), v17 = .int .i64 x17_1 ∧ Aside0 (lang_Check.l0 kq l0 l0 (l0.length : Int) x17_1 = some r) ∧ Aside0 (kq ≤ k) ∧ Aside0 (Below w.heap.size w w'))
 case atStart => exact ⟨(0), rfl, H', ⟨Nat.le_refl _⟩, ⟨HB.out⟩⟩
 case round =>
  clear H' c2 c2b0 c2b1 c2b2 c3b0 c3b1
  obtain ⟨x17_1, rfl, HA, HK1, HB⟩ := hrel
  cases gk with
  | zero => exact absurd HA.out (by simp [lang_Check.l0])
  | succ k1 =>
   have H := HA.out
   clear HA
   simp only [lang_Check.l0] at H
   by_cases c4 : x17_1 < (l0.length : Int)
   ·
    rw [if_pos c4] at H
    have c4b0 := decide_eq_true c4
    clear c4
    obtain ⟨c5, H⟩ : (0 ≤ x17_1) ∧ _ := mIf H
    have c5b0 : decide (0 ≤ x17_1) = true := decide_eq_true c5
    clear c5
    obtain ⟨c6, H⟩ : (x17_1 < (l0.length : Int)) ∧ _ := mIf H
    have c6b0 : decide (x17_1 < (l0.length : Int)) = true := decide_eq_true c6
    clear c6
    replace H := Option.bind_eq_some_iff.mp H
    obtain ⟨t112, A70, H⟩ := H
    try dsimp only at H
    have A7 := Aside0.mk A70
    clear A70
    by_cases c8 : t112 = 0
    rotate_left
    ·
     rw [if_neg c8] at H
     have c8b0 : (t112 == 0) = false := beq_eq_false_iff_ne.mpr c8
     have c8b1 : (t112 != 0) = true := bne_iff_ne.mpr c8
     obtain rfl := Option.some.inj H
     have p110 : 0 ≤ (x17_1 : Int) := of_decide_eq_true (by assumption)
     have q110 : x17_1 < (l0.length : Int) := of_decide_eq_true (by assumption)
     obtain ⟨ad110, e110, hx110_0, hx110_1, hx110_2, hx110_3⟩ := at_T43 HR0.out x17_1 p110 q110
     cases e110
     replace hx110_0 := mHx HB hx110_0
     replace hx110_1 := mHx HB hx110_1
     replace hx110_2 := mHx HB hx110_2
     replace hx110_3 := mHx HB hx110_3
     replace p110 := eq_true p110
     replace q110 := eq_true q110
     go_wp2_with (first | ((with_reducible refine gate_dst (N := 4) rfl ?_); refine box_event rfl (N := 4) rfl (cs := #[.int .i64 0, .string (⟨#[]⟩ : ByteArray), .int .i64 0, .int .i64 0]) (t := 43) (by first | (go_simp; done) | (go_simp; rfl)) ?_; intro gb1 hg w12 hbox hb; have BK1 := Aside0.mk hbox; have GW1 := Aside0.mk ((by rw [hg]; exact (below_size (hO HB)) : w.heap.size ≤ gb1)); have GE1 := GW1; replace HB := mSx HB hb; clear hb hbox hg; have hcz13 := blk_cell BK1.out; have hfz13 := blk_frozen BK1.out) | ((with_reducible refine gate_callee (f := 34) rfl ?_); refine goesL_ (some 22) rfl rfl Tryd.func34 (by kernel_rfl) rfl #[.agg #[.int .i64 ((rd_T43 l0 x17_1).f0), .string ((rd_T43 l0 x17_1).f1), .int .i64 ((rd_T43 l0 x17_1).f2), .int .i64 ((rd_T43 l0 x17_1).f3)]] rfl (mA1 rfl) ?_; (with_reducible refine (lang_node.calls k1 ((rd_T43 l0 x17_1).f0) ((rd_T43 l0 x17_1).f1) ((rd_T43 l0 x17_1).f2) ((rd_T43 l0 x17_1).f3) t112 _ ?sidem_ A7.out).mono ?_); (case sidem_ => first | ((repeat (first | exact HMX_.out | apply Mx.drewN | apply Mx.drew)); done) | (refine Mx.below HMX_.out ?_; (repeat (first | (with_reducible first | exact HB.out | apply below_alloc | apply pw_below_drewN | apply below_drew1 | refine below_set ?_ (Aside0.out (by assumption))) | exact HB.out)); done)); rintro e w14 ⟨rfl, hb⟩; refine ⟨_, rfl, ?_⟩; replace BK1 := Aside0.mk (blk_below (g := gb1) (o := .cells #[.int .i64 ((rd_T43 l0 x17_1).f0), .string ((rd_T43 l0 x17_1).f1), .int .i64 ((rd_T43 l0 x17_1).f2), .int .i64 ((rd_T43 l0 x17_1).f3)] 43 (0, 0)) (by (with_reducible repeat (first | refine blk_drewN ?_ _ | refine blk_drew ?_ | refine blk_alloc ?_ _)); refine blk_put (cs := #[.int .i64 ((rd_T43 l0 x17_1).f0), .string ((rd_T43 l0 x17_1).f1), .int .i64 ((rd_T43 l0 x17_1).f2), .int .i64 0]) ?_ 3 _ rfl; (with_reducible repeat (first | refine blk_drewN ?_ _ | refine blk_drew ?_ | refine blk_alloc ?_ _)); refine blk_put (cs := #[.int .i64 ((rd_T43 l0 x17_1).f0), .string ((rd_T43 l0 x17_1).f1), .int .i64 0, .int .i64 0]) ?_ 2 _ rfl; (with_reducible repeat (first | refine blk_drewN ?_ _ | refine blk_drew ?_ | refine blk_alloc ?_ _)); refine blk_put (cs := #[.int .i64 ((rd_T43 l0 x17_1).f0), .string (⟨#[]⟩ : ByteArray), .int .i64 0, .int .i64 0]) ?_ 1 _ rfl; (with_reducible repeat (first | refine blk_drewN ?_ _ | refine blk_drew ?_ | refine blk_alloc ?_ _)); refine blk_put (cs := #[.int .i64 0, .string (⟨#[]⟩ : ByteArray), .int .i64 0, .int .i64 0]) ?_ 0 _ rfl; (with_reducible repeat (first | refine blk_drewN ?_ _ | refine blk_drew ?_ | refine blk_alloc ?_ _)); exact BK1.out) hb); replace HB := mSx HB hb; (try clear hb)))
     go_ret
     exact ⟨rfl, HB.out⟩
    rw [if_pos c8] at H
    have c8b0 : (t112 == 0) = true := beq_iff_eq.mpr c8
    have c8b1 : (t112 != 0) = false := bne_eq_false_iff_eq.mpr c8
    clear c8
    have H' := Aside0.mk H
    clear H
    have p110 : 0 ≤ (x17_1 : Int) := of_decide_eq_true (by assumption)
    have q110 : x17_1 < (l0.length : Int) := of_decide_eq_true (by assumption)
    obtain ⟨ad110, e110, hx110_0, hx110_1, hx110_2, hx110_3⟩ := at_T43 HR0.out x17_1 p110 q110
    cases e110
    replace hx110_0 := mHx HB hx110_0
    replace hx110_1 := mHx HB hx110_1
    replace hx110_2 := mHx HB hx110_2
    replace hx110_3 := mHx HB hx110_3
    replace p110 := eq_true p110
    replace q110 := eq_true q110
    go_wp2_with (first | ((with_reducible refine gate_dst (N := 4) rfl ?_); refine box_event rfl (N := 4) rfl (cs := #[.int .i64 0, .string (⟨#[]⟩ : ByteArray), .int .i64 0, .int .i64 0]) (t := 43) (by first | (go_simp; done) | (go_simp; rfl)) ?_; intro gb1 hg w9 hbox hb; have BK1 := Aside0.mk hbox; have GW1 := Aside0.mk ((by rw [hg]; exact (below_size (hO HB)) : w.heap.size ≤ gb1)); have GE1 := GW1; replace HB := mSx HB hb; clear hb hbox hg; have hcz10 := blk_cell BK1.out; have hfz10 := blk_frozen BK1.out) | ((with_reducible refine gate_callee (f := 34) rfl ?_); refine goesL_ (some 22) rfl rfl Tryd.func34 (by kernel_rfl) rfl #[.agg #[.int .i64 ((rd_T43 l0 x17_1).f0), .string ((rd_T43 l0 x17_1).f1), .int .i64 ((rd_T43 l0 x17_1).f2), .int .i64 ((rd_T43 l0 x17_1).f3)]] rfl (mA1 rfl) ?_; (with_reducible refine (lang_node.calls k1 ((rd_T43 l0 x17_1).f0) ((rd_T43 l0 x17_1).f1) ((rd_T43 l0 x17_1).f2) ((rd_T43 l0 x17_1).f3) t112 _ ?sidem_ A7.out).mono ?_); (case sidem_ => first | ((repeat (first | exact HMX_.out | apply Mx.drewN | apply Mx.drew)); done) | (refine Mx.below HMX_.out ?_; (repeat (first | (with_reducible first | exact HB.out | apply below_alloc | apply pw_below_drewN | apply below_drew1 | refine below_set ?_ (Aside0.out (by assumption))) | exact HB.out)); done)); rintro e w11 ⟨rfl, hb⟩; refine ⟨_, rfl, ?_⟩; replace BK1 := Aside0.mk (blk_below (g := gb1) (o := .cells #[.int .i64 ((rd_T43 l0 x17_1).f0), .string ((rd_T43 l0 x17_1).f1), .int .i64 ((rd_T43 l0 x17_1).f2), .int .i64 ((rd_T43 l0 x17_1).f3)] 43 (0, 0)) (by (with_reducible repeat (first | refine blk_drewN ?_ _ | refine blk_drew ?_ | refine blk_alloc ?_ _)); refine blk_put (cs := #[.int .i64 ((rd_T43 l0 x17_1).f0), .string ((rd_T43 l0 x17_1).f1), .int .i64 ((rd_T43 l0 x17_1).f2), .int .i64 0]) ?_ 3 _ rfl; (with_reducible repeat (first | refine blk_drewN ?_ _ | refine blk_drew ?_ | refine blk_alloc ?_ _)); refine blk_put (cs := #[.int .i64 ((rd_T43 l0 x17_1).f0), .string ((rd_T43 l0 x17_1).f1), .int .i64 0, .int .i64 0]) ?_ 2 _ rfl; (with_reducible repeat (first | refine blk_drewN ?_ _ | refine blk_drew ?_ | refine blk_alloc ?_ _)); refine blk_put (cs := #[.int .i64 ((rd_T43 l0 x17_1).f0), .string (⟨#[]⟩ : ByteArray), .int .i64 0, .int .i64 0]) ?_ 1 _ rfl; (with_reducible repeat (first | refine blk_drewN ?_ _ | refine blk_drew ?_ | refine blk_alloc ?_ _)); refine blk_put (cs := #[.int .i64 0, .string (⟨#[]⟩ : ByteArray), .int .i64 0, .int .i64 0]) ?_ 0 _ rfl; (with_reducible repeat (first | refine blk_drewN ?_ _ | refine blk_drew ?_ | refine blk_alloc ?_ _)); exact BK1.out) hb); replace HB := mSx HB hb; (try clear hb)))
    go_roundg k1
    case measure => have := HK1.out; omega
    case rel => exact ⟨(wrap64 (x17_1 + 1)), rfl, H', ⟨by have := HK1.out; omega⟩, ⟨HB.out⟩⟩
   rw [if_neg c4] at H
   have c4b0 := decide_eq_false c4
   clear c4
   have H' := Aside0.mk H
   clear H
   go_wp2
   go_loopg [6, 29] k1 (fun kq v6 v29 w' => ∃ (x6_2 : Int) (x29_2 : Int), v6 = .int .i64 x6_2 ∧ v29 = .int .i64 x29_2 ∧ Aside0 (lang_Check.l1 kq x6_2 l0 (l0.length : Int) x29_2 = some r) ∧ Aside0 (kq ≤ k1) ∧ Aside0 (Below w.heap.size w w'))
   case atStart => exact ⟨(1), (0), rfl, rfl, H', ⟨Nat.le_refl _⟩, ⟨HB.out⟩⟩
   case round =>
    clear H' c4b0
    obtain ⟨x6_2, x29_2, rfl, rfl, HA, HK2, HB⟩ := hrel
    cases gk with
    | zero => exact absurd HA.out (by simp [lang_Check.l1])
    | succ k2 =>
     have H := HA.out
     clear HA
     simp only [lang_Check.l1] at H
     by_cases c15 : x29_2 < (l0.length : Int)
     rotate_left
     ·
      rw [if_neg c15] at H
      have c15b0 := decide_eq_false c15
      clear c15
      by_cases c23 : x6_2 = 0
      rotate_left
      ·
       rw [if_neg c23] at H
       have c23b0 : (x6_2 == 0) = false := beq_eq_false_iff_ne.mpr c23
       have c23b1 : (x6_2 != 0) = true := bne_iff_ne.mpr c23
       obtain rfl := Option.some.inj H
       go_wp2
       go_ret
       exact ⟨rfl, HB.out⟩
      rw [if_pos c23] at H
      have c23b0 : (x6_2 == 0) = true := beq_iff_eq.mpr c23
      have c23b1 : (x6_2 != 0) = false := bne_eq_false_iff_eq.mpr c23
      clear c23
      obtain rfl := Option.some.inj H
      go_wp2
      go_ret
      exact ⟨rfl, HB.out⟩
     rw [if_pos c15] at H
     have c15b0 := decide_eq_true c15
     clear c15
     obtain ⟨c16, H⟩ : (0 ≤ x29_2) ∧ _ := mIf H
     have c16b0 : decide (0 ≤ x29_2) = true := decide_eq_true c16
     clear c16
     obtain ⟨c17, H⟩ : (x29_2 < (l0.length : Int)) ∧ _ := mIf H
     have c17b0 : decide (x29_2 < (l0.length : Int)) = true := decide_eq_true c17
     clear c17
     by_cases c18 : x6_2 = 0
     ·
      rw [if_pos c18] at H
      have c18b0 : (x6_2 == 0) = true := beq_iff_eq.mpr c18
      have c18b1 : (x6_2 != 0) = false := bne_eq_false_iff_eq.mpr c18
      clear c18
      obtain rfl := Option.some.inj H
      have p113 : 0 ≤ (x29_2 : Int) := of_decide_eq_true (by assumption)
      have q113 : x29_2 < (l0.length : Int) := of_decide_eq_true (by assumption)
      obtain ⟨ad113, e113, hx113_0, hx113_1, hx113_2, hx113_3⟩ := at_T43 HR0.out x29_2 p113 q113
      cases e113
      replace hx113_0 := mHx HB hx113_0
      replace hx113_1 := mHx HB hx113_1
      replace hx113_2 := mHx HB hx113_2
      replace hx113_3 := mHx HB hx113_3
      replace p113 := eq_true p113
      replace q113 := eq_true q113
      go_wp2_with (first | ((with_reducible refine gate_dst (N := 8) rfl ?_); refine box_event rfl (N := 8) rfl (cs := #[.int .i64 0, .string (⟨#[]⟩ : ByteArray), .int .i64 0, .int .i64 0]) (t := 43) (by first | (go_simp; done) | (go_simp; rfl)) ?_; intro gb2 hg w19 hbox hb; have BK2 := Aside0.mk hbox; have GW2 := mGw HB hg; have GE2 := GW2; replace HB := mSt HB hb; clear hb hbox hg; have hcz20 := blk_cell BK2.out; have hfz20 := blk_frozen BK2.out))
      go_ret
      exact ⟨rfl, hO HB⟩
     rw [if_neg c18] at H
     have c18b0 : (x6_2 == 0) = false := beq_eq_false_iff_ne.mpr c18
     have c18b1 : (x6_2 != 0) = true := bne_iff_ne.mpr c18
     have H' := Aside0.mk H
     clear H
     have p113 : 0 ≤ (x29_2 : Int) := of_decide_eq_true (by assumption)
     have q113 : x29_2 < (l0.length : Int) := of_decide_eq_true (by assumption)
     obtain ⟨ad113, e113, hx113_0, hx113_1, hx113_2, hx113_3⟩ := at_T43 HR0.out x29_2 p113 q113
     cases e113
     replace hx113_0 := mHx HB hx113_0
     replace hx113_1 := mHx HB hx113_1
     replace hx113_2 := mHx HB hx113_2
     replace hx113_3 := mHx HB hx113_3
     replace p113 := eq_true p113
     replace q113 := eq_true q113
     go_wp2_with (first | ((with_reducible refine gate_dst (N := 8) rfl ?_); refine box_event rfl (N := 8) rfl (cs := #[.int .i64 0, .string (⟨#[]⟩ : ByteArray), .int .i64 0, .int .i64 0]) (t := 43) (by first | (go_simp; done) | (go_simp; rfl)) ?_; intro gb2 hg w21 hbox hb; have BK2 := Aside0.mk hbox; have GW2 := mGw HB hg; have GE2 := GW2; replace HB := mSt HB hb; clear hb hbox hg; have hcz22 := blk_cell BK2.out; have hfz22 := blk_frozen BK2.out))
     go_roundg k2
     case measure => have := HK1.out; have := HK2.out; omega
     case rel => exact ⟨(wrap64 (x6_2 + (wrap64 (((rd_T43 l0 x29_2).f3) - 1)))), (wrap64 (x29_2 + 1)), rfl, rfl, H', ⟨by have := HK1.out; have := HK2.out; omega⟩, ⟨hO HB⟩⟩
mutual
def dancestudioref35_node.j0 : Nat → Bool → Int → ByteArray → Int → Int → Option (Int)
 | 0, _, _, _, _, _ => none
 | k + 1, x12, x439000, x439001, x439002, x439003 => if x12 = true then (some 9) else (if x439000 = 1 then ((dancestudioref05_Valid.f k x439001).bind fun t439 => (if t439 = true then (dancestudioref35_node.j1 k false x439000 x439001 x439002 x439003) else (dancestudioref35_node.j1 k true x439000 x439001 x439002 x439003))) else (dancestudioref35_node.j1 k (x439001.toList != ([] : List UInt8)) x439000 x439001 x439002 x439003))
def dancestudioref35_node.j1 : Nat → Bool → Int → ByteArray → Int → Int → Option (Int)
 | 0, _, _, _, _, _ => none
 | k + 1, x31, x439000, x439001, x439002, x439003 => if x31 = true then (some 8) else (if x439000 = 5 then (dancestudioref35_node.j2 k 0 3 x439000 x439001 x439002 x439003) else (dancestudioref35_node.j2 k 0 0 x439000 x439001 x439002 x439003))
def dancestudioref35_node.j2 : Nat → Int → Int → Int → ByteArray → Int → Int → Option (Int)
 | 0, _, _, _, _, _, _ => none
 | k + 1, x3, x4, x439000, x439001, x439002, x439003 => if x439000 = 6 then (dancestudioref35_node.j3 k x3 x4 true x439000 x439001 x439002 x439003) else (dancestudioref35_node.j3 k x3 x4 (x439000 == 7) x439000 x439001 x439002 x439003)
def dancestudioref35_node.j3 : Nat → Int → Int → Bool → Int → ByteArray → Int → Int → Option (Int)
 | 0, _, _, _, _, _, _, _ => none
 | k + 1, x3, x4, x42, x439000, x439001, x439002, x439003 => if x42 = true then (dancestudioref35_node.j4 k 1 16 x439000 x439001 x439002 x439003) else (dancestudioref35_node.j4 k x3 x4 x439000 x439001 x439002 x439003)
def dancestudioref35_node.j4 : Nat → Int → Int → Int → ByteArray → Int → Int → Option (Int)
 | 0, _, _, _, _, _, _ => none
 | k + 1, x3, x4, x439000, x439001, x439002, x439003 => if x439002 < x3 then (dancestudioref35_node.j5 k true x439000 x439001 x439002 x439003) else (dancestudioref35_node.j5 k (decide (x439002 > x4)) x439000 x439001 x439002 x439003)
def dancestudioref35_node.j5 : Nat → Bool → Int → ByteArray → Int → Int → Option (Int)
 | 0, _, _, _, _, _ => none
 | k + 1, x52, x439000, x439001, x439002, x439003 => if x52 = true then (some 1) else (if x439000 = 1 then (dancestudioref35_node.j6 k 0 0 x439000 x439001 x439002 x439003) else (dancestudioref35_node.j6 k 1 1 x439000 x439001 x439002 x439003))
def dancestudioref35_node.j6 : Nat → Int → Int → Int → ByteArray → Int → Int → Option (Int)
 | 0, _, _, _, _, _, _ => none
 | k + 1, x3, x4, x439000, x439001, x439002, x439003 => if x439000 = 2 then (if x439003 < x3 then (some 2) else (if x439003 > 8 then (some 2) else (some 0))) else (if x439003 < x3 then (some 2) else (if x439003 > x4 then (some 2) else (some 0)))
end
def dancestudioref35_node.f (k : Nat) (a0_0 : Int) (a0_1 : ByteArray) (a0_2 : Int) (a0_3 : Int) : Option (Int) := if a0_0 < 1 then (dancestudioref35_node.j0 k true a0_0 a0_1 a0_2 a0_3) else (dancestudioref35_node.j0 k (decide (a0_0 > 7)) a0_0 a0_1 a0_2 a0_3)
set_option maxHeartbeats 8000000 in
set_option maxRecDepth 100000 in
theorem dancestudioref35_node.calls (k : Nat) (a0_0 : Int) (a0_1 : ByteArray) (a0_2 : Int) (a0_3 : Int) (r : Int) (w : World) (h : dancestudioref35_node.f k a0_0 a0_1 a0_2 a0_3 = some r) :
  Calls Tryd.prog 35 #[.agg #[.int .i64 a0_0, .string a0_1, .int .i64 a0_2, .int .i64 a0_3]] w fun e w' => e = .returned (.int .i64 r) ∧ Below w.heap.size w w' := by
 have hu43 := Tryd.underlying43
 have HB := Aside0.mk (Below.refl w.heap.size w)
 have H := h
 unfold dancestudioref35_node.f at H
 clear h
 have HC2 := Aside0.mk H
 clear H
 go_enter Tryd.func35, Tryd.ntmps35
 go_upto_region 1 with (first | ((with_reducible refine gate_dst (N := 1) rfl ?_); refine box_event rfl (N := 1) rfl (cs := #[.int .i64 a0_0, .string a0_1, .int .i64 a0_2, .int .i64 a0_3]) (t := 43) (by first | (go_simp; done) | (go_simp; rfl)) ?_; intro gb1 hg w3 hbox hb; have BK1 := Aside0.mk hbox; have GW1 := mGw HB hg; have GE1 := GW1; replace HB := mSt HB hb; clear hb hbox hg))
 (try simp only [Act.put, List.setIfInBounds_toArray, List.set_cons_zero, List.set_cons_succ])
 go_cut [12] (fun v12 wc => ∃ (kq : Nat) (x12_1 : Bool), v12 = .bool x12_1 ∧ Aside0 (dancestudioref35_node.j0 kq x12_1 a0_0 a0_1 a0_2 a0_3 = some r) ∧ Aside0 (kq ≤ k) ∧ Aside0 (wc.heap[gb1]? = some (.cells #[.int .i64 a0_0, .string a0_1, .int .i64 a0_2, .int .i64 a0_3] 43 (0, 0))) ∧ Aside0 (Below w.heap.size w wc))
 case first =>
  have H := HC2.out
  clear HC2
  by_cases c4 : a0_0 < 1
  rotate_left
  ·
   rw [if_neg c4] at H
   have c4b0 := decide_eq_false c4
   clear c4
   (first | rw [c4b0] | (simp only [i64_w, i32_w]; rw [c4b0]) | skip)
   have H' := Aside0.mk H
   clear H
   have hcz6 := blk_cell BK1.out; have hfz6 := blk_frozen BK1.out
   go_wp2
   go_meet
   case rel => exact ⟨_, (decide (a0_0 > 7)), (by first | rfl | (simp; exact isE_ _) | (simp; done) | (simp [*]; done)), H', ⟨by first | omega | exact Nat.le_refl _⟩, ⟨BK1.out⟩, ⟨HB.out⟩⟩
  rw [if_pos c4] at H
  have c4b0 := decide_eq_true c4
  clear c4
  (first | rw [c4b0] | (simp only [i64_w, i32_w]; rw [c4b0]) | skip)
  have H' := Aside0.mk H
  clear H
  have hcz5 := blk_cell BK1.out; have hfz5 := blk_frozen BK1.out
  go_wp2
  go_meet
  case rel => exact ⟨_, (true), (by first | rfl | (simp; exact isE_ _) | (simp; done) | (simp [*]; done)), H', ⟨by first | omega | exact Nat.le_refl _⟩, ⟨BK1.out⟩, ⟨HB.out⟩⟩
 case rest =>
  clear HC2; try clear p2; try clear c3; try clear c4; try clear c4b0; try clear hcz5_0; try clear hcz5_1; try clear hcz5_2; try clear hcz5_3; try clear hcz6_0; try clear hcz6_1; try clear hcz6_2; try clear hcz6_3; try clear hfz5_0; try clear hfz5_1; try clear hfz5_2; try clear hfz5_3; try clear hfz6_0; try clear hfz6_1; try clear hfz6_2; try clear hfz6_3
  obtain ⟨kq, x12_1, rfl, HA, HJ1, BK1, HB⟩ := hcut
  cases kq with
  | zero => exact absurd HA.out (by simp [dancestudioref35_node.j0])
  | succ kj1 =>
   have H := HA.out
   clear HA
   simp only [dancestudioref35_node.j0] at H
   by_cases c7 : x12_1 = true
   ·
    subst c7
    rw [if_pos rfl] at H
    obtain rfl := Option.some.inj H
    go_wp2
    go_ret
    exact ⟨rfl, HB.out⟩
   replace c7 := Bool.eq_false_iff.mpr c7
   subst c7
   rw [if_neg (show ¬ (false = true) by decide)] at H
   have HC8 := Aside0.mk H
   clear H
   go_upto_region 3 with (fail)
   go_cut [31] (fun v31 wc => ∃ (kq : Nat) (x31_7 : Bool), v31 = .bool x31_7 ∧ Aside0 (dancestudioref35_node.j1 kq x31_7 a0_0 a0_1 a0_2 a0_3 = some r) ∧ Aside0 (kq ≤ kj1) ∧ Aside0 (wc.heap[gb1]? = some (.cells #[.int .i64 a0_0, .string a0_1, .int .i64 a0_2, .int .i64 a0_3] 43 (0, 0))) ∧ Aside0 (Below w.heap.size w wc))
   case first =>
    have H := HC8.out
    clear HC8
    by_cases c9 : a0_0 = 1
    rotate_left
    ·
     rw [if_neg c9] at H
     have c9b0 := beq_eq_false_iff_ne.mpr c9
     have c9b1 := bne_iff_ne.mpr c9
     (first | rw [c9b0] | (simp only [i64_w, i32_w]; rw [c9b0]) | skip)
     have H' := Aside0.mk H
     clear H
     have hcz14 := blk_cell BK1.out; have hfz14 := blk_frozen BK1.out
     go_wp2
     go_meet
     case rel => exact ⟨_, ((a0_1.toList != ([] : List UInt8))), (by first | rfl | (simp; exact isE_ _) | (simp; done) | (simp [*]; done)), H', ⟨by have := HJ1.out; first | omega | exact Nat.le_refl _⟩, ⟨BK1.out⟩, ⟨HB.out⟩⟩
    rw [if_pos c9] at H
    have c9b0 := beq_iff_eq.mpr c9
    have c9b1 := bne_eq_false_iff_eq.mpr c9
    clear c9
    (first | rw [c9b0] | (simp only [i64_w, i32_w]; rw [c9b0]) | skip)
    replace H := Option.bind_eq_some_iff.mp H
    obtain ⟨t439, A100, H⟩ := H
    try dsimp only at H
    have A10 := Aside0.mk A100
    clear A100
    by_cases c11 : t439 = true
    ·
     subst c11
     rw [if_pos rfl] at H
     have H' := Aside0.mk H
     clear H
     have hcz12 := blk_cell BK1.out; have hfz12 := blk_frozen BK1.out
     go_wp2_with (first | (go_at_call 59; (with_reducible refine (dancestudioref05_Valid.calls kj1 a0_1 true _ A10.out).mono ?_); rintro e w' ⟨rfl, ⟨nd, rfl⟩⟩))
     go_meet
     case rel => exact ⟨_, (false), (by first | rfl | (simp; exact isE_ _) | (simp; done) | (simp [*]; done)), H', ⟨by have := HJ1.out; first | omega | exact Nat.le_refl _⟩, ⟨BK1.out⟩, ⟨hO HB⟩⟩
    replace c11 := Bool.eq_false_iff.mpr c11
    subst c11
    rw [if_neg (show ¬ (false = true) by decide)] at H
    have H' := Aside0.mk H
    clear H
    have hcz13 := blk_cell BK1.out; have hfz13 := blk_frozen BK1.out
    go_wp2_with (first | (go_at_call 59; (with_reducible refine (dancestudioref05_Valid.calls kj1 a0_1 false _ A10.out).mono ?_); rintro e w' ⟨rfl, ⟨nd, rfl⟩⟩))
    go_meet
    case rel => exact ⟨_, (true), (by first | rfl | (simp; exact isE_ _) | (simp; done) | (simp [*]; done)), H', ⟨by have := HJ1.out; first | omega | exact Nat.le_refl _⟩, ⟨BK1.out⟩, ⟨hO HB⟩⟩
   case rest =>
    clear HC8; try clear c1; try clear p2; try clear c3; try clear c4; try clear c4b0; try clear c7; try clear c9; try clear c9b0; try clear c9b1; try clear c11; try clear hcz12_0; try clear hcz12_1; try clear hcz12_2; try clear hcz12_3; try clear hcz13_0; try clear hcz13_1; try clear hcz13_2; try clear hcz13_3; try clear hcz14_0; try clear hcz14_1; try clear hcz14_2; try clear hcz14_3; try clear hcz5_0; try clear hcz5_1; try clear hcz5_2; try clear hcz5_3; try clear hcz6_0; try clear hcz6_1; try clear hcz6_2; try clear hcz6_3; try clear hfz12_0; try clear hfz12_1; try clear hfz12_2; try clear hfz12_3; try clear hfz13_0; try clear hfz13_1; try clear hfz13_2; try clear hfz13_3; try clear hfz14_0; try clear hfz14_1; try clear hfz14_2; try clear hfz14_3; try clear hfz5_0; try clear hfz5_1; try clear hfz5_2; try clear hfz5_3; try clear hfz6_0; try clear hfz6_1; try clear hfz6_2; try clear hfz6_3
    obtain ⟨kq, x31_7, rfl, HA, HJ7, BK1, HB⟩ := hcut
    cases kq with
    | zero => exact absurd HA.out (by simp [dancestudioref35_node.j1])
    | succ kj7 =>
     have H := HA.out
     clear HA
     simp only [dancestudioref35_node.j1] at H
     by_cases c15 : x31_7 = true
     ·
      subst c15
      rw [if_pos rfl] at H
      obtain rfl := Option.some.inj H
      go_wp2
      go_ret
      exact ⟨rfl, HB.out⟩
     replace c15 := Bool.eq_false_iff.mpr c15
     subst c15
     rw [if_neg (show ¬ (false = true) by decide)] at H
     have HC16 := Aside0.mk H
     clear H
     have hcz17 := blk_cell BK1.out; have hfz17 := blk_frozen BK1.out
     go_upto_if 34 with (fail)
     go_cut [4] (fun v4 wc => ∃ (kq : Nat) (x4_15 : Int), v4 = .int .i64 x4_15 ∧ Aside0 (dancestudioref35_node.j2 kq 0 x4_15 a0_0 a0_1 a0_2 a0_3 = some r) ∧ Aside0 (kq ≤ kj7) ∧ Aside0 (wc.heap[gb1]? = some (.cells #[.int .i64 a0_0, .string a0_1, .int .i64 a0_2, .int .i64 a0_3] 43 (0, 0))) ∧ Aside0 (Below w.heap.size w wc))
     case first =>
      have H := HC16.out
      clear HC16
      by_cases c18 : a0_0 = 5
      rotate_left
      ·
       rw [if_neg c18] at H
       have c18b0 := beq_eq_false_iff_ne.mpr c18
       have c18b1 := bne_iff_ne.mpr c18
       (first | rw [c18b0] | (simp only [i64_w, i32_w]; rw [c18b0]) | skip)
       have H' := Aside0.mk H
       clear H
       go_wp2
       go_meet
       case rel => exact ⟨_, (0), (by first | rfl | (simp; exact isE_ _) | (simp; done) | (simp [*]; done)), H', ⟨by have := HJ1.out; have := HJ7.out; first | omega | exact Nat.le_refl _⟩, ⟨BK1.out⟩, ⟨HB.out⟩⟩
      rw [if_pos c18] at H
      have c18b0 := beq_iff_eq.mpr c18
      have c18b1 := bne_eq_false_iff_eq.mpr c18
      clear c18
      (first | rw [c18b0] | (simp only [i64_w, i32_w]; rw [c18b0]) | skip)
      have H' := Aside0.mk H
      clear H
      go_wp2
      go_meet
      case rel => exact ⟨_, (3), (by first | rfl | (simp; exact isE_ _) | (simp; done) | (simp [*]; done)), H', ⟨by have := HJ1.out; have := HJ7.out; first | omega | exact Nat.le_refl _⟩, ⟨BK1.out⟩, ⟨HB.out⟩⟩
     case rest =>
      clear HC16; try clear c1; try clear p2; try clear c3; try clear c4; try clear c4b0; try clear c7; try clear c9; try clear c9b0; try clear c9b1; try clear c11; try clear c15; try clear c18; try clear c18b0; try clear c18b1; try clear hcz12_0; try clear hcz12_1; try clear hcz12_2; try clear hcz12_3; try clear hcz13_0; try clear hcz13_1; try clear hcz13_2; try clear hcz13_3; try clear hcz14_0; try clear hcz14_1; try clear hcz14_2; try clear hcz14_3; try clear hcz17_0; try clear hcz17_1; try clear hcz17_2; try clear hcz17_3; try clear hcz5_0; try clear hcz5_1; try clear hcz5_2; try clear hcz5_3; try clear hcz6_0; try clear hcz6_1; try clear hcz6_2; try clear hcz6_3; try clear hfz12_0; try clear hfz12_1; try clear hfz12_2; try clear hfz12_3; try clear hfz13_0; try clear hfz13_1; try clear hfz13_2; try clear hfz13_3; try clear hfz14_0; try clear hfz14_1; try clear hfz14_2; try clear hfz14_3; try clear hfz17_0; try clear hfz17_1; try clear hfz17_2; try clear hfz17_3; try clear hfz5_0; try clear hfz5_1; try clear hfz5_2; try clear hfz5_3; try clear hfz6_0; try clear hfz6_1; try clear hfz6_2; try clear hfz6_3
      obtain ⟨kq, x4_15, rfl, HA, HJ15, BK1, HB⟩ := hcut
      cases kq with
      | zero => exact absurd HA.out (by simp [dancestudioref35_node.j2])
      | succ kj15 =>
       have H := HA.out
       clear HA
       simp only [dancestudioref35_node.j2] at H
       have HC19 := Aside0.mk H
       clear H
       go_upto_region 8 with (fail)
       go_cut [42] (fun v42 wc => ∃ (kq : Nat) (x42_18 : Bool), v42 = .bool x42_18 ∧ Aside0 (dancestudioref35_node.j3 kq 0 x4_15 x42_18 a0_0 a0_1 a0_2 a0_3 = some r) ∧ Aside0 (kq ≤ kj15) ∧ Aside0 (wc.heap[gb1]? = some (.cells #[.int .i64 a0_0, .string a0_1, .int .i64 a0_2, .int .i64 a0_3] 43 (0, 0))) ∧ Aside0 (Below w.heap.size w wc))
       case first =>
        have H := HC19.out
        clear HC19
        by_cases c20 : a0_0 = 6
        rotate_left
        ·
         rw [if_neg c20] at H
         have c20b0 := beq_eq_false_iff_ne.mpr c20
         have c20b1 := bne_iff_ne.mpr c20
         (first | rw [c20b0] | (simp only [i64_w, i32_w]; rw [c20b0]) | skip)
         have H' := Aside0.mk H
         clear H
         have hcz22 := blk_cell BK1.out; have hfz22 := blk_frozen BK1.out
         go_wp2
         go_meet
         case rel => exact ⟨_, ((a0_0 == 7)), (by first | rfl | (simp; exact isE_ _) | (simp; done) | (simp [*]; done)), H', ⟨by have := HJ1.out; have := HJ7.out; have := HJ15.out; first | omega | exact Nat.le_refl _⟩, ⟨BK1.out⟩, ⟨HB.out⟩⟩
        rw [if_pos c20] at H
        have c20b0 := beq_iff_eq.mpr c20
        have c20b1 := bne_eq_false_iff_eq.mpr c20
        clear c20
        (first | rw [c20b0] | (simp only [i64_w, i32_w]; rw [c20b0]) | skip)
        have H' := Aside0.mk H
        clear H
        have hcz21 := blk_cell BK1.out; have hfz21 := blk_frozen BK1.out
        go_wp2
        go_meet
        case rel => exact ⟨_, (true), (by first | rfl | (simp; exact isE_ _) | (simp; done) | (simp [*]; done)), H', ⟨by have := HJ1.out; have := HJ7.out; have := HJ15.out; first | omega | exact Nat.le_refl _⟩, ⟨BK1.out⟩, ⟨HB.out⟩⟩
       case rest =>
        clear HC19; try clear c1; try clear c2; try clear p2; try clear c3; try clear c4; try clear c4b0; try clear c7; try clear c9; try clear c9b0; try clear c9b1; try clear c11; try clear c15; try clear c18; try clear c18b0; try clear c18b1; try clear c20; try clear c20b0; try clear c20b1; try clear hcz12_0; try clear hcz12_1; try clear hcz12_2; try clear hcz12_3; try clear hcz13_0; try clear hcz13_1; try clear hcz13_2; try clear hcz13_3; try clear hcz14_0; try clear hcz14_1; try clear hcz14_2; try clear hcz14_3; try clear hcz17_0; try clear hcz17_1; try clear hcz17_2; try clear hcz17_3; try clear hcz21_0; try clear hcz21_1; try clear hcz21_2; try clear hcz21_3; try clear hcz22_0; try clear hcz22_1; try clear hcz22_2; try clear hcz22_3; try clear hcz5_0; try clear hcz5_1; try clear hcz5_2; try clear hcz5_3; try clear hcz6_0; try clear hcz6_1; try clear hcz6_2; try clear hcz6_3; try clear hfz12_0; try clear hfz12_1; try clear hfz12_2; try clear hfz12_3; try clear hfz13_0; try clear hfz13_1; try clear hfz13_2; try clear hfz13_3; try clear hfz14_0; try clear hfz14_1; try clear hfz14_2; try clear hfz14_3; try clear hfz17_0; try clear hfz17_1; try clear hfz17_2; try clear hfz17_3; try clear hfz21_0; try clear hfz21_1; try clear hfz21_2; try clear hfz21_3; try clear hfz22_0; try clear hfz22_1; try clear hfz22_2; try clear hfz22_3; try clear hfz5_0; try clear hfz5_1; try clear hfz5_2; try clear hfz5_3; try clear hfz6_0; try clear hfz6_1; try clear hfz6_2; try clear hfz6_3
        obtain ⟨kq, x42_18, rfl, HA, HJ18, BK1, HB⟩ := hcut
        cases kq with
        | zero => exact absurd HA.out (by simp [dancestudioref35_node.j3])
        | succ kj18 =>
         have H := HA.out
         clear HA
         simp only [dancestudioref35_node.j3] at H
         have HC23 := Aside0.mk H
         clear H
         go_upto_if 42 with (fail)
         go_cut [3, 4] (fun v3 v4 wc => ∃ (kq : Nat) (x3_22 : Int) (x4_22 : Int), v3 = .int .i64 x3_22 ∧ v4 = .int .i64 x4_22 ∧ Aside0 (dancestudioref35_node.j4 kq x3_22 x4_22 a0_0 a0_1 a0_2 a0_3 = some r) ∧ Aside0 (kq ≤ kj18) ∧ Aside0 (wc.heap[gb1]? = some (.cells #[.int .i64 a0_0, .string a0_1, .int .i64 a0_2, .int .i64 a0_3] 43 (0, 0))) ∧ Aside0 (Below w.heap.size w wc))
         case first =>
          have H := HC23.out
          clear HC23
          by_cases c24 : x42_18 = true
          ·
           subst c24
           rw [if_pos rfl] at H
           have H' := Aside0.mk H
           clear H
           go_wp2
           go_meet
           case rel => exact ⟨_, (1), (16), (by first | rfl | (simp; exact isE_ _) | (simp; done) | (simp [*]; done)), (by first | rfl | (simp; exact isE_ _) | (simp; done) | (simp [*]; done)), H', ⟨by have := HJ1.out; have := HJ7.out; have := HJ15.out; have := HJ18.out; first | omega | exact Nat.le_refl _⟩, ⟨BK1.out⟩, ⟨HB.out⟩⟩
          replace c24 := Bool.eq_false_iff.mpr c24
          subst c24
          rw [if_neg (show ¬ (false = true) by decide)] at H
          have H' := Aside0.mk H
          clear H
          go_wp2
          go_meet
          case rel => exact ⟨_, (0), (x4_15), (by first | rfl | (simp; exact isE_ _) | (simp; done) | (simp [*]; done)), (by first | rfl | (simp; exact isE_ _) | (simp; done) | (simp [*]; done)), H', ⟨by have := HJ1.out; have := HJ7.out; have := HJ15.out; have := HJ18.out; first | omega | exact Nat.le_refl _⟩, ⟨BK1.out⟩, ⟨HB.out⟩⟩
         case rest =>
          clear HC23; try clear c1; try clear c2; try clear p2; try clear c3; try clear c4; try clear c4b0; try clear c7; try clear c9; try clear c9b0; try clear c9b1; try clear c11; try clear c15; try clear c18; try clear c18b0; try clear c18b1; try clear c20; try clear c20b0; try clear c20b1; try clear c24; try clear hcz12_0; try clear hcz12_1; try clear hcz12_2; try clear hcz12_3; try clear hcz13_0; try clear hcz13_1; try clear hcz13_2; try clear hcz13_3; try clear hcz14_0; try clear hcz14_1; try clear hcz14_2; try clear hcz14_3; try clear hcz17_0; try clear hcz17_1; try clear hcz17_2; try clear hcz17_3; try clear hcz21_0; try clear hcz21_1; try clear hcz21_2; try clear hcz21_3; try clear hcz22_0; try clear hcz22_1; try clear hcz22_2; try clear hcz22_3; try clear hcz5_0; try clear hcz5_1; try clear hcz5_2; try clear hcz5_3; try clear hcz6_0; try clear hcz6_1; try clear hcz6_2; try clear hcz6_3; try clear hfz12_0; try clear hfz12_1; try clear hfz12_2; try clear hfz12_3; try clear hfz13_0; try clear hfz13_1; try clear hfz13_2; try clear hfz13_3; try clear hfz14_0; try clear hfz14_1; try clear hfz14_2; try clear hfz14_3; try clear hfz17_0; try clear hfz17_1; try clear hfz17_2; try clear hfz17_3; try clear hfz21_0; try clear hfz21_1; try clear hfz21_2; try clear hfz21_3; try clear hfz22_0; try clear hfz22_1; try clear hfz22_2; try clear hfz22_3; try clear hfz5_0; try clear hfz5_1; try clear hfz5_2; try clear hfz5_3; try clear hfz6_0; try clear hfz6_1; try clear hfz6_2; try clear hfz6_3
          obtain ⟨kq, x3_22, x4_22, rfl, rfl, HA, HJ22, BK1, HB⟩ := hcut
          cases kq with
          | zero => exact absurd HA.out (by simp [dancestudioref35_node.j4])
          | succ kj22 =>
           have H := HA.out
           clear HA
           simp only [dancestudioref35_node.j4] at H
           have HC25 := Aside0.mk H
           clear H
           go_upto_region 10 with (fail)
           go_cut [52] (fun v52 wc => ∃ (kq : Nat) (x52_24 : Bool), v52 = .bool x52_24 ∧ Aside0 (dancestudioref35_node.j5 kq x52_24 a0_0 a0_1 a0_2 a0_3 = some r) ∧ Aside0 (kq ≤ kj22) ∧ Aside0 (wc.heap[gb1]? = some (.cells #[.int .i64 a0_0, .string a0_1, .int .i64 a0_2, .int .i64 a0_3] 43 (0, 0))) ∧ Aside0 (Below w.heap.size w wc))
           case first =>
            have H := HC25.out
            clear HC25
            by_cases c26 : a0_2 < x3_22
            rotate_left
            ·
             rw [if_neg c26] at H
             have c26b0 := decide_eq_false c26
             clear c26
             (first | rw [c26b0] | (simp only [i64_w, i32_w]; rw [c26b0]) | skip)
             have H' := Aside0.mk H
             clear H
             have hcz28 := blk_cell BK1.out; have hfz28 := blk_frozen BK1.out
             go_wp2
             go_meet
             case rel => exact ⟨_, (decide (a0_2 > x4_22)), (by first | rfl | (simp; exact isE_ _) | (simp; done) | (simp [*]; done)), H', ⟨by have := HJ1.out; have := HJ7.out; have := HJ15.out; have := HJ18.out; have := HJ22.out; first | omega | exact Nat.le_refl _⟩, ⟨BK1.out⟩, ⟨HB.out⟩⟩
            rw [if_pos c26] at H
            have c26b0 := decide_eq_true c26
            clear c26
            (first | rw [c26b0] | (simp only [i64_w, i32_w]; rw [c26b0]) | skip)
            have H' := Aside0.mk H
            clear H
            have hcz27 := blk_cell BK1.out; have hfz27 := blk_frozen BK1.out
            go_wp2
            go_meet
            case rel => exact ⟨_, (true), (by first | rfl | (simp; exact isE_ _) | (simp; done) | (simp [*]; done)), H', ⟨by have := HJ1.out; have := HJ7.out; have := HJ15.out; have := HJ18.out; have := HJ22.out; first | omega | exact Nat.le_refl _⟩, ⟨BK1.out⟩, ⟨HB.out⟩⟩
           case rest =>
            clear HC25; try clear c1; try clear c2; try clear p2; try clear c3; try clear c4; try clear c4b0; try clear c7; try clear c9; try clear c9b0; try clear c9b1; try clear c11; try clear c15; try clear c18; try clear c18b0; try clear c18b1; try clear c20; try clear c20b0; try clear c20b1; try clear c24; try clear c26; try clear c26b0; try clear hcz12_0; try clear hcz12_1; try clear hcz12_2; try clear hcz12_3; try clear hcz13_0; try clear hcz13_1; try clear hcz13_2; try clear hcz13_3; try clear hcz14_0; try clear hcz14_1; try clear hcz14_2; try clear hcz14_3; try clear hcz17_0; try clear hcz17_1; try clear hcz17_2; try clear hcz17_3; try clear hcz21_0; try clear hcz21_1; try clear hcz21_2; try clear hcz21_3; try clear hcz22_0; try clear hcz22_1; try clear hcz22_2; try clear hcz22_3; try clear hcz27_0; try clear hcz27_1; try clear hcz27_2; try clear hcz27_3; try clear hcz28_0; try clear hcz28_1; try clear hcz28_2; try clear hcz28_3; try clear hcz5_0; try clear hcz5_1; try clear hcz5_2; try clear hcz5_3; try clear hcz6_0; try clear hcz6_1; try clear hcz6_2; try clear hcz6_3; try clear hfz12_0; try clear hfz12_1; try clear hfz12_2; try clear hfz12_3; try clear hfz13_0; try clear hfz13_1; try clear hfz13_2; try clear hfz13_3; try clear hfz14_0; try clear hfz14_1; try clear hfz14_2; try clear hfz14_3; try clear hfz17_0; try clear hfz17_1; try clear hfz17_2; try clear hfz17_3; try clear hfz21_0; try clear hfz21_1; try clear hfz21_2; try clear hfz21_3; try clear hfz22_0; try clear hfz22_1; try clear hfz22_2; try clear hfz22_3; try clear hfz27_0; try clear hfz27_1; try clear hfz27_2; try clear hfz27_3; try clear hfz28_0; try clear hfz28_1; try clear hfz28_2; try clear hfz28_3; try clear hfz5_0; try clear hfz5_1; try clear hfz5_2; try clear hfz5_3; try clear hfz6_0; try clear hfz6_1; try clear hfz6_2; try clear hfz6_3
            obtain ⟨kq, x52_24, rfl, HA, HJ24, BK1, HB⟩ := hcut
            cases kq with
            | zero => exact absurd HA.out (by simp [dancestudioref35_node.j5])
            | succ kj24 =>
             have H := HA.out
             clear HA
             simp only [dancestudioref35_node.j5] at H
             by_cases c29 : x52_24 = true
             ·
              subst c29
              rw [if_pos rfl] at H
              obtain rfl := Option.some.inj H
              go_wp2
              go_ret
              exact ⟨rfl, HB.out⟩
             replace c29 := Bool.eq_false_iff.mpr c29
             subst c29
             rw [if_neg (show ¬ (false = true) by decide)] at H
             have HC30 := Aside0.mk H
             clear H
             have hcz31 := blk_cell BK1.out; have hfz31 := blk_frozen BK1.out
             go_upto_if 55 with (fail)
             go_cut [3, 4] (fun v3 v4 wc => ∃ (kq : Nat) (x3_29 : Int) (x4_29 : Int), v3 = .int .i64 x3_29 ∧ v4 = .int .i64 x4_29 ∧ Aside0 (dancestudioref35_node.j6 kq x3_29 x4_29 a0_0 a0_1 a0_2 a0_3 = some r) ∧ Aside0 (kq ≤ kj24) ∧ Aside0 (wc.heap[gb1]? = some (.cells #[.int .i64 a0_0, .string a0_1, .int .i64 a0_2, .int .i64 a0_3] 43 (0, 0))) ∧ Aside0 (Below w.heap.size w wc))
             case first =>
              have H := HC30.out
              clear HC30
              by_cases c32 : a0_0 = 1
              rotate_left
              ·
               rw [if_neg c32] at H
               have c32b0 := beq_eq_false_iff_ne.mpr c32
               have c32b1 := bne_iff_ne.mpr c32
               (first | rw [c32b0] | (simp only [i64_w, i32_w]; rw [c32b0]) | skip)
               have H' := Aside0.mk H
               clear H
               go_wp2
               go_meet
               case rel => exact ⟨_, (1), (1), (by first | rfl | (simp; exact isE_ _) | (simp; done) | (simp [*]; done)), (by first | rfl | (simp; exact isE_ _) | (simp; done) | (simp [*]; done)), H', ⟨by have := HJ1.out; have := HJ7.out; have := HJ15.out; have := HJ18.out; have := HJ22.out; have := HJ24.out; first | omega | exact Nat.le_refl _⟩, ⟨BK1.out⟩, ⟨HB.out⟩⟩
              rw [if_pos c32] at H
              have c32b0 := beq_iff_eq.mpr c32
              have c32b1 := bne_eq_false_iff_eq.mpr c32
              clear c32
              (first | rw [c32b0] | (simp only [i64_w, i32_w]; rw [c32b0]) | skip)
              have H' := Aside0.mk H
              clear H
              go_wp2
              go_meet
              case rel => exact ⟨_, (0), (0), (by first | rfl | (simp; exact isE_ _) | (simp; done) | (simp [*]; done)), (by first | rfl | (simp; exact isE_ _) | (simp; done) | (simp [*]; done)), H', ⟨by have := HJ1.out; have := HJ7.out; have := HJ15.out; have := HJ18.out; have := HJ22.out; have := HJ24.out; first | omega | exact Nat.le_refl _⟩, ⟨BK1.out⟩, ⟨HB.out⟩⟩
             case rest =>
              clear HC30; try clear c1; try clear c2; try clear p2; try clear c3; try clear c4; try clear c4b0; try clear c7; try clear c9; try clear c9b0; try clear c9b1; try clear c11; try clear c15; try clear c18; try clear c18b0; try clear c18b1; try clear c20; try clear c20b0; try clear c20b1; try clear c24; try clear c26; try clear c26b0; try clear c29; try clear c32; try clear c32b0; try clear c32b1; try clear hcz12_0; try clear hcz12_1; try clear hcz12_2; try clear hcz12_3; try clear hcz13_0; try clear hcz13_1; try clear hcz13_2; try clear hcz13_3; try clear hcz14_0; try clear hcz14_1; try clear hcz14_2; try clear hcz14_3; try clear hcz17_0; try clear hcz17_1; try clear hcz17_2; try clear hcz17_3; try clear hcz21_0; try clear hcz21_1; try clear hcz21_2; try clear hcz21_3; try clear hcz22_0; try clear hcz22_1; try clear hcz22_2; try clear hcz22_3; try clear hcz27_0; try clear hcz27_1; try clear hcz27_2; try clear hcz27_3; try clear hcz28_0; try clear hcz28_1; try clear hcz28_2; try clear hcz28_3; try clear hcz31_0; try clear hcz31_1; try clear hcz31_2; try clear hcz31_3; try clear hcz5_0; try clear hcz5_1; try clear hcz5_2; try clear hcz5_3; try clear hcz6_0; try clear hcz6_1; try clear hcz6_2; try clear hcz6_3; try clear hfz12_0; try clear hfz12_1; try clear hfz12_2; try clear hfz12_3; try clear hfz13_0; try clear hfz13_1; try clear hfz13_2; try clear hfz13_3; try clear hfz14_0; try clear hfz14_1; try clear hfz14_2; try clear hfz14_3; try clear hfz17_0; try clear hfz17_1; try clear hfz17_2; try clear hfz17_3; try clear hfz21_0; try clear hfz21_1; try clear hfz21_2; try clear hfz21_3; try clear hfz22_0; try clear hfz22_1; try clear hfz22_2; try clear hfz22_3; try clear hfz27_0; try clear hfz27_1; try clear hfz27_2; try clear hfz27_3; try clear hfz28_0; try clear hfz28_1; try clear hfz28_2; try clear hfz28_3; try clear hfz31_0; try clear hfz31_1; try clear hfz31_2; try clear hfz31_3; try clear hfz5_0; try clear hfz5_1; try clear hfz5_2; try clear hfz5_3; try clear hfz6_0; try clear hfz6_1; try clear hfz6_2; try clear hfz6_3
              obtain ⟨kq, x3_29, x4_29, rfl, rfl, HA, HJ29, BK1, HB⟩ := hcut
              cases kq with
              | zero => exact absurd HA.out (by simp [dancestudioref35_node.j6])
              | succ kj29 =>
               have H := HA.out
               clear HA
               simp only [dancestudioref35_node.j6] at H
               by_cases c33 : a0_0 = 2
               rotate_left
               ·
                rw [if_neg c33] at H
                have c33b0 := beq_eq_false_iff_ne.mpr c33
                have c33b1 := bne_iff_ne.mpr c33
                by_cases c39 : a0_3 < x3_29
                ·
                 rw [if_pos c39] at H
                 have c39b0 := decide_eq_true c39
                 clear c39
                 obtain rfl := Option.some.inj H
                 have hcz40 := blk_cell BK1.out; have hfz40 := blk_frozen BK1.out
                 go_wp2
                 go_ret
                 exact ⟨rfl, HB.out⟩
                rw [if_neg c39] at H
                have c39b0 := decide_eq_false c39
                clear c39
                by_cases c41 : a0_3 > x4_29
                rotate_left
                ·
                 rw [if_neg c41] at H
                 have c41b0 := decide_eq_false c41
                 clear c41
                 obtain rfl := Option.some.inj H
                 have hcz43 := blk_cell BK1.out; have hfz43 := blk_frozen BK1.out
                 go_wp2
                 go_ret
                 exact ⟨rfl, HB.out⟩
                rw [if_pos c41] at H
                have c41b0 := decide_eq_true c41
                clear c41
                obtain rfl := Option.some.inj H
                have hcz42 := blk_cell BK1.out; have hfz42 := blk_frozen BK1.out
                go_wp2
                go_ret
                exact ⟨rfl, HB.out⟩
               rw [if_pos c33] at H
               have c33b0 := beq_iff_eq.mpr c33
               have c33b1 := bne_eq_false_iff_eq.mpr c33
               clear c33
               by_cases c34 : a0_3 < x3_29
               ·
                rw [if_pos c34] at H
                have c34b0 := decide_eq_true c34
                clear c34
                obtain rfl := Option.some.inj H
                have hcz35 := blk_cell BK1.out; have hfz35 := blk_frozen BK1.out
                go_wp2
                go_ret
                exact ⟨rfl, HB.out⟩
               rw [if_neg c34] at H
               have c34b0 := decide_eq_false c34
               clear c34
               by_cases c36 : a0_3 > 8
               rotate_left
               ·
                rw [if_neg c36] at H
                have c36b0 := decide_eq_false c36
                clear c36
                obtain rfl := Option.some.inj H
                have hcz38 := blk_cell BK1.out; have hfz38 := blk_frozen BK1.out
                go_wp2
                go_ret
                exact ⟨rfl, HB.out⟩
               rw [if_pos c36] at H
               have c36b0 := decide_eq_true c36
               clear c36
               obtain rfl := Option.some.inj H
               have hcz37 := blk_cell BK1.out; have hfz37 := blk_frozen BK1.out
               go_wp2
               go_ret
               exact ⟨rfl, HB.out⟩
def dancestudioref35_Size.l0 : Nat → List (S43) → Int → Int → Option (Int)
 | 0, _, _, _ => none
 | k + 1, x0, x3, x4 => if x4 < (x0.length : Int) then (if 0 ≤ x4 then (if (wrap64 ((wrap64 (x3 - 1)) + ((rd_T43 x0 x4).f3))) = 0 then (some (wrap64 (x4 + 1))) else (dancestudioref35_Size.l0 k x0 (wrap64 ((wrap64 (x3 - 1)) + ((rd_T43 x0 x4).f3))) (wrap64 (x4 + 1)))) else (none)) else (some 0)
def dancestudioref35_Size.f (k : Nat) (l0 : List (S43)) : Option (Int) := dancestudioref35_Size.l0 k l0 1 0
set_option maxHeartbeats 8000000 in
set_option maxRecDepth 100000 in
theorem dancestudioref35_Size.calls (k : Nat) (A0 : Option Addr) (c0 : Nat) (l0 : List (S43)) (r : Int) (w : World) (hr0 : Kd.C k43 w A0 l0.length l0) (hc0 : l0.length ≤ c0) (h : dancestudioref35_Size.f k l0 = some r) :
  Calls Tryd.prog 36 #[.slice A0 l0.length c0] w fun e w' => e = .returned (.int .i64 r) ∧ Drawn0 w w' := by
 have HR0 := Aside0.mk hr0
 have HC0 := Aside0.mk hc0
 clear hr0 hc0
 have H := h
 unfold dancestudioref35_Size.f at H
 clear h
 have H' := Aside0.mk H
 clear H
 go_enter Tryd.func36, Tryd.ntmps36
 go_wp2
 go_loopg [3, 4] k (fun kq v3 v4 w' => ∃ (x3_1 : Int) (x4_1 : Int), v3 = .int .i64 x3_1 ∧ v4 = .int .i64 x4_1 ∧ Aside0 (dancestudioref35_Size.l0 kq l0 x3_1 x4_1 = some r) ∧ Aside0 (kq ≤ k) ∧ Drawn0 w w')
 case atStart => exact ⟨(1), (0), rfl, rfl, H', ⟨Nat.le_refl _⟩, by repeat (first | exact Drawn0.refl _ | apply Drawn0.step)⟩
 case round =>
  clear H'
  obtain ⟨x3_1, x4_1, rfl, rfl, HA, HK1, ⟨m1, rfl⟩⟩ := hrel
  cases gk with
  | zero => exact absurd HA.out (by simp [dancestudioref35_Size.l0])
  | succ k1 =>
   have H := HA.out
   clear HA
   simp only [dancestudioref35_Size.l0] at H
   by_cases c2 : x4_1 < (l0.length : Int)
   rotate_left
   ·
    rw [if_neg c2] at H
    have c2b0 := decide_eq_false c2
    clear c2
    obtain rfl := Option.some.inj H
    go_wp2
    go_ret
    exact ⟨by first | rfl | (simp; done) | (simp [*]; done), by repeat (first | exact Drawn0.refl _ | apply Drawn0.step)⟩
   rw [if_pos c2] at H
   have c2b0 := decide_eq_true c2
   clear c2
   obtain ⟨c3, H⟩ : (0 ≤ x4_1) ∧ _ := mIf H
   have c3b0 := decide_eq_true c3
   clear c3
   by_cases c4 : (wrap64 ((wrap64 (x3_1 - 1)) + ((rd_T43 l0 x4_1).f3))) = 0
   ·
    rw [if_pos c4] at H
    have c4b0 := beq_iff_eq.mpr c4
    have c4b1 := bne_eq_false_iff_eq.mpr c4
    clear c4
    obtain rfl := Option.some.inj H
    have p440 : 0 ≤ (x4_1 : Int) := of_decide_eq_true (by assumption)
    have q440 : x4_1 < (l0.length : Int) := of_decide_eq_true (by assumption)
    obtain ⟨ad440, e440, hx440_0, hx440_1, hx440_2, hx440_3⟩ := at_T43 HR0.out x4_1 p440 q440
    cases e440
    replace p440 := eq_true p440
    replace q440 := eq_true q440
    go_wp2
    go_ret
    exact ⟨by first | rfl | (simp; done) | (simp [*]; done), by repeat (first | exact Drawn0.refl _ | apply Drawn0.step)⟩
   rw [if_neg c4] at H
   have c4b0 := beq_eq_false_iff_ne.mpr c4
   have c4b1 := bne_iff_ne.mpr c4
   have H' := Aside0.mk H
   clear H
   have p440 : 0 ≤ (x4_1 : Int) := of_decide_eq_true (by assumption)
   have q440 : x4_1 < (l0.length : Int) := of_decide_eq_true (by assumption)
   obtain ⟨ad440, e440, hx440_0, hx440_1, hx440_2, hx440_3⟩ := at_T43 HR0.out x4_1 p440 q440
   cases e440
   replace p440 := eq_true p440
   replace q440 := eq_true q440
   go_wp2
   go_roundg k1
   case measure => have := HK1.out; omega
   case rel => exact ⟨(wrap64 ((wrap64 (x3_1 - 1)) + ((rd_T43 l0 x4_1).f3))), (wrap64 (x4_1 + 1)), rfl, rfl, H', ⟨by have := HK1.out; omega⟩, by repeat (first | exact Drawn0.refl _ | apply Drawn0.step)⟩
def dancestudioref35_Check.l0 : Nat → List (S43) → Int → Option (Int)
 | 0, _, _ => none
 | k + 1, x0, x3 => if x3 < (x0.length : Int) then (if 0 ≤ x3 then ((dancestudioref35_node.f k ((rd_T43 x0 x3).f0) ((rd_T43 x0 x3).f1) ((rd_T43 x0 x3).f2) ((rd_T43 x0 x3).f3)).bind fun t442 => (if t442 = 0 then (dancestudioref35_Check.l0 k x0 (wrap64 (x3 + 1))) else (some t442))) else (none)) else ((dancestudioref35_Size.f k x0).bind fun t443 => (if t443 = (x0.length : Int) then (some 0) else (some 2)))
def dancestudioref35_Check.f (k : Nat) (l0 : List (S43)) : Option (Int) := if (l0.length : Int) = 0 then (some 4) else (if (l0.length : Int) > 64 then (some 3) else (dancestudioref35_Check.l0 k l0 0))
set_option maxHeartbeats 8000000 in
set_option maxRecDepth 100000 in
theorem dancestudioref35_Check.calls (k : Nat) (A0 : Option Addr) (c0 : Nat) (l0 : List (S43)) (r : Int) (w : World) (hr0 : Kd.C k43 w A0 l0.length l0) (hc0 : l0.length ≤ c0) (h : dancestudioref35_Check.f k l0 = some r) :
  Calls Tryd.prog 17 #[.slice A0 l0.length c0] w fun e w' => e = .returned (.int .i64 r) ∧ Below w.heap.size w w' := by
 have hu43 := Tryd.underlying43
 have HR0 := Aside0.mk hr0
 have HC0 := Aside0.mk hc0
 clear hr0 hc0
 have HB := Aside0.mk (Below.refl w.heap.size w)
 have H := h
 unfold dancestudioref35_Check.f at H
 clear h
 by_cases c2 : (l0.length : Int) = 0
 ·
  rw [if_pos c2] at H
  have c2b0 := beq_iff_eq.mpr c2
  have c2b1 := bne_eq_false_iff_eq.mpr c2
  clear c2
  obtain rfl := Option.some.inj H
  go_enter Tryd.func17, Tryd.ntmps17
  go_wp2
  go_ret
  exact ⟨rfl, HB.out⟩
 rw [if_neg c2] at H
 have c2b0 := beq_eq_false_iff_ne.mpr c2
 have c2b1 := bne_iff_ne.mpr c2
 have c2b2 : ¬ (l0 = []) := fun h_ => c2 (by rw [h_]; rfl)
 by_cases c3 : (l0.length : Int) > 64
 ·
  rw [if_pos c3] at H
  have c3b0 := decide_eq_true c3
  have c3b1 : decide (64 < l0.length) = true := decide_eq_true (by omega)
  clear c3
  obtain rfl := Option.some.inj H
  go_enter Tryd.func17, Tryd.ntmps17
  go_wp2
  go_ret
  exact ⟨rfl, HB.out⟩
 rw [if_neg c3] at H
 have c3b0 := decide_eq_false c3
 have c3b1 : decide (64 < l0.length) = false := decide_eq_false (by omega)
 clear c3
 have H' := Aside0.mk H
 clear H
 go_enter Tryd.func17, Tryd.ntmps17
 go_wp2
 go_loopg [3] k (fun kq v3 w' => ∃ (x3_1 : Int), v3 = .int .i64 x3_1 ∧ Aside0 (dancestudioref35_Check.l0 kq l0 x3_1 = some r) ∧ Aside0 (kq ≤ k) ∧ Aside0 (Below w.heap.size w w'))
 case atStart => exact ⟨(0), rfl, H', ⟨Nat.le_refl _⟩, ⟨HB.out⟩⟩
 case round =>
  clear H' c2 c2b0 c2b1 c2b2 c3b0 c3b1
  obtain ⟨x3_1, rfl, HA, HK1, HB⟩ := hrel
  cases gk with
  | zero => exact absurd HA.out (by simp [dancestudioref35_Check.l0])
  | succ k1 =>
   have H := HA.out
   clear HA
   simp only [dancestudioref35_Check.l0] at H
   by_cases c4 : x3_1 < (l0.length : Int)
   rotate_left
   ·
    rw [if_neg c4] at H
    have c4b0 := decide_eq_false c4
    clear c4
    replace H := Option.bind_eq_some_iff.mp H
    obtain ⟨t443, A100, H⟩ := H
    try dsimp only at H
    have A10 := Aside0.mk A100
    clear A100
    by_cases c11 : t443 = (l0.length : Int)
    rotate_left
    ·
     rw [if_neg c11] at H
     have c11b0 := beq_eq_false_iff_ne.mpr c11
     have c11b1 := bne_iff_ne.mpr c11
     obtain rfl := Option.some.inj H
     go_wp2_with (first | ((with_reducible refine gate_callee (f := 36) rfl ?_); refine goesL_ (some 26) rfl rfl Tryd.func36 (by kernel_rfl) rfl #[.slice A0 l0.length c0] rfl (mA1 rfl) ?_; (with_reducible refine (dancestudioref35_Size.calls k1 _ _ l0 t443 _ (Kd.C_below HR0.out HB.out) HC0.out A10.out).mono ?_); rintro e w' ⟨rfl, ⟨nd, rfl⟩⟩; refine ⟨_, rfl, ?_⟩))
     go_ret
     exact ⟨rfl, hO HB⟩
    rw [if_pos c11] at H
    have c11b0 := beq_iff_eq.mpr c11
    have c11b1 := bne_eq_false_iff_eq.mpr c11
    clear c11
    obtain rfl := Option.some.inj H
    go_wp2_with (first | ((with_reducible refine gate_callee (f := 36) rfl ?_); refine goesL_ (some 26) rfl rfl Tryd.func36 (by kernel_rfl) rfl #[.slice A0 l0.length c0] rfl (mA1 rfl) ?_; (with_reducible refine (dancestudioref35_Size.calls k1 _ _ l0 t443 _ (Kd.C_below HR0.out HB.out) HC0.out A10.out).mono ?_); rintro e w' ⟨rfl, ⟨nd, rfl⟩⟩; refine ⟨_, rfl, ?_⟩))
    go_ret
    exact ⟨rfl, hO HB⟩
   rw [if_pos c4] at H
   have c4b0 := decide_eq_true c4
   clear c4
   obtain ⟨c5, H⟩ : (0 ≤ x3_1) ∧ _ := mIf H
   have c5b0 := decide_eq_true c5
   clear c5
   replace H := Option.bind_eq_some_iff.mp H
   obtain ⟨t442, A60, H⟩ := H
   try dsimp only at H
   have A6 := Aside0.mk A60
   clear A60
   by_cases c7 : t442 = 0
   rotate_left
   ·
    rw [if_neg c7] at H
    have c7b0 := beq_eq_false_iff_ne.mpr c7
    have c7b1 := bne_iff_ne.mpr c7
    obtain rfl := Option.some.inj H
    have p441 : 0 ≤ (x3_1 : Int) := of_decide_eq_true (by assumption)
    have q441 : x3_1 < (l0.length : Int) := of_decide_eq_true (by assumption)
    obtain ⟨ad441, e441, hx441_0, hx441_1, hx441_2, hx441_3⟩ := at_T43 HR0.out x3_1 p441 q441
    cases e441
    replace hx441_0 := mHx HB hx441_0
    replace hx441_1 := mHx HB hx441_1
    replace hx441_2 := mHx HB hx441_2
    replace hx441_3 := mHx HB hx441_3
    replace p441 := eq_true p441
    replace q441 := eq_true q441
    go_wp2_with (first | ((with_reducible refine gate_callee (f := 35) rfl ?_); refine goesL_ (some 21) rfl rfl Tryd.func35 (by kernel_rfl) rfl #[.agg #[.int .i64 ((rd_T43 l0 x3_1).f0), .string ((rd_T43 l0 x3_1).f1), .int .i64 ((rd_T43 l0 x3_1).f2), .int .i64 ((rd_T43 l0 x3_1).f3)]] rfl (mA1 rfl) ?_; (with_reducible refine (dancestudioref35_node.calls k1 ((rd_T43 l0 x3_1).f0) ((rd_T43 l0 x3_1).f1) ((rd_T43 l0 x3_1).f2) ((rd_T43 l0 x3_1).f3) t442 _ A6.out).mono ?_); rintro e w9 ⟨rfl, hb⟩; refine ⟨_, rfl, ?_⟩; replace HB := mSt HB hb; (try clear hb)))
    go_ret
    exact ⟨rfl, HB.out⟩
   rw [if_pos c7] at H
   have c7b0 := beq_iff_eq.mpr c7
   have c7b1 := bne_eq_false_iff_eq.mpr c7
   clear c7
   have H' := Aside0.mk H
   clear H
   have p441 : 0 ≤ (x3_1 : Int) := of_decide_eq_true (by assumption)
   have q441 : x3_1 < (l0.length : Int) := of_decide_eq_true (by assumption)
   obtain ⟨ad441, e441, hx441_0, hx441_1, hx441_2, hx441_3⟩ := at_T43 HR0.out x3_1 p441 q441
   cases e441
   replace hx441_0 := mHx HB hx441_0
   replace hx441_1 := mHx HB hx441_1
   replace hx441_2 := mHx HB hx441_2
   replace hx441_3 := mHx HB hx441_3
   replace p441 := eq_true p441
   replace q441 := eq_true q441
   go_wp2_with (first | ((with_reducible refine gate_callee (f := 35) rfl ?_); refine goesL_ (some 21) rfl rfl Tryd.func35 (by kernel_rfl) rfl #[.agg #[.int .i64 ((rd_T43 l0 x3_1).f0), .string ((rd_T43 l0 x3_1).f1), .int .i64 ((rd_T43 l0 x3_1).f2), .int .i64 ((rd_T43 l0 x3_1).f3)]] rfl (mA1 rfl) ?_; (with_reducible refine (dancestudioref35_node.calls k1 ((rd_T43 l0 x3_1).f0) ((rd_T43 l0 x3_1).f1) ((rd_T43 l0 x3_1).f2) ((rd_T43 l0 x3_1).f3) t442 _ A6.out).mono ?_); rintro e w8 ⟨rfl, hb⟩; refine ⟨_, rfl, ?_⟩; replace HB := mSt HB hb; (try clear hb)))
   go_roundg k1
   case measure => have := HK1.out; omega
   case rel => exact ⟨(wrap64 (x3_1 + 1)), rfl, H', ⟨by have := HK1.out; omega⟩, ⟨HB.out⟩⟩
end Go.Proofs.YtimikhbnihedkaaDoor.PAll
namespace Go.Proofs.YtimikhbnihedkaaDoor.PAll
set_option linter.unusedVariables false
set_option linter.unusedSectionVars false
set_option linter.unusedSimpArgs false
open Go Go.RowKit Go.Proofs.YtimikhbnihedkaaDoorW.PrintWords Go.Proofs.YtimikhbnihedkaaDoorW.PrintLast Go.Proofs.YtimikhbnihedkaaDoorW.PrintMore Go.Proofs.YtimikhbnihedkaaDoor.MathNum Go.Proofs.YtimikhbnihedkaaDoor.EvWords

theorem ev_ite {α : Type} {c : Prop} [Decidable c] {A B : Nat → Option α} {r : α} (h1 : c → Ev A r) (h2 : ¬ c → Ev B r) : Ev (fun k => if c then A k else B k) r := by
  by_cases h : c
  · exact ev_pos h (h1 h)
  · exact ev_neg h (h2 h)
noncomputable def nameB (s : ByteArray) : Bool := @decide (nameOk s.data.toList) (Classical.propDecidable _)
theorem nameB_iff (s : ByteArray) : nameB s = true ↔ nameOk s.data.toList := by unfold nameB; exact @decide_eq_true_iff _ (Classical.propDecidable _)
theorem bool_same {a b : Bool} {p : Prop} (h1 : a = true ↔ p) (h2 : b = true ↔ p) : a = b := by
  cases a <;> cases b <;> simp_all
theorem pvalid (s : ByteArray) : Ev (fun k => ident_Valid.f k s) (nameB s) := by
  obtain ⟨b, hb, he⟩ := name_ev s.data.toList
  rw [← ex_data s] at he
  exact ev_eq he (bool_same hb (nameB_iff s))
theorem rvalid (s : ByteArray) : Ev (fun k => dancestudioref05_Valid.f k s) (nameB s) := by
  obtain ⟨b, hb, he⟩ := rname_ev s.data.toList
  rw [← ex_data s] at he
  exact ev_eq he (bool_same hb (nameB_iff s))
def argE (op a : Int) : Int := if op = 1 then (if a < 0 then 2 else if a > 0 then 2 else 0) else if op = 2 then (if a < 1 then 2 else if a > 8 then 2 else 0) else (if a < 1 then 2 else if a > 1 then 2 else 0)
def rngE (op n a : Int) : Int := if op = 5 then (if n < 0 then 1 else if n > 3 then 1 else argE op a) else if op = 6 ∨ op = 7 then (if n < 1 then 1 else if n > 16 then 1 else argE op a) else (if n < 0 then 1 else if n > 0 then 1 else argE op a)
noncomputable def nodeE (op : Int) (nm : ByteArray) (n a : Int) : Int :=
  if op < 1 then 9 else if op > 7 then 9 else if op = 1 then (if nameB nm = true then rngE op n a else 8) else if nm.toList = [] then rngE op n a else 8
theorem nj3 (b : Bool) (op : Int) (nm : ByteArray) (n a : Int) : Ev (fun k => lang_node.j3 k b op nm n a) (if b = true then 1 else argE op a) := by
  refine ev_step (fun k => by simp only [lang_node.j3] <;> exact rfl) ?_
  unfold argE
  repeat' (refine ev_ite (fun h => ?_) (fun h => ?_))
  all_goals (refine ev_eq (ev_now _) ?_; simp_all; try ((repeat' split) <;> omega))
theorem nj2 (lo hi op : Int) (nm : ByteArray) (n a : Int) : Ev (fun k => lang_node.j2 k lo hi op nm n a) (if n < lo then 1 else if n > hi then 1 else argE op a) := by
  refine ev_step (fun k => by simp only [lang_node.j2] <;> exact rfl) ?_
  refine ev_ite (fun h => ?_) (fun h => ?_)
  · exact ev_eq (nj3 _ _ _ _ _) (by simp_all)
  · exact ev_eq (nj3 _ _ _ _ _) (by rw [if_neg h]; by_cases h2 : n > hi <;> simp [h2])
theorem nj1 (b : Bool) (op : Int) (nm : ByteArray) (n a : Int) : Ev (fun k => lang_node.j1 k b op nm n a) (if b = true then 8 else rngE op n a) := by
  refine ev_step (fun k => by simp only [lang_node.j1] <;> exact rfl) ?_
  unfold rngE
  repeat' (refine ev_ite (fun h => ?_) (fun h => ?_))
  · exact ev_eq (ev_now _) (by simp_all)
  all_goals exact ev_eq (nj2 _ _ _ _ _ _) (by simp_all)
theorem node_ev (op : Int) (nm : ByteArray) (n a : Int) : Ev (fun k => lang_node.f k op nm n a) (nodeE op nm n a) := by
  have hj : ∀ b : Bool, Ev (fun k => lang_node.j0 k b op nm n a) (if b = true then 9 else if op = 1 then (if nameB nm = true then rngE op n a else 8) else if nm.toList = [] then rngE op n a else 8) := by
    intro b
    refine ev_step (fun k => by simp only [lang_node.j0] <;> exact rfl) ?_
    refine ev_ite (fun h => ?_) (fun h => ?_)
    · exact ev_eq (ev_now _) (by simp_all)
    refine ev_ite (fun h1 => ?_) (fun h1 => ?_)
    · refine Ev.bind (pvalid nm) ?_
      refine ev_ite (fun h2 => ?_) (fun h2 => ?_)
      · exact ev_eq (nj1 _ _ _ _ _) (by simp_all)
      · exact ev_eq (nj1 _ _ _ _ _) (by simp_all)
    · exact ev_eq (nj1 _ _ _ _ _) (by by_cases h3 : nm.toList = [] <;> simp_all)
  unfold lang_node.f nodeE
  refine ev_ite (fun h => ?_) (fun h => ?_)
  · exact ev_eq (hj true) (by rw [if_pos rfl, if_pos h])
  · exact ev_eq (hj _) (by rw [if_neg h]; by_cases h2 : op > 7 <;> simp [h2])
theorem rj6 (x3 x4 op : Int) (nm : ByteArray) (n a : Int) (h : x3 = (if op = 1 then 0 else 1) ∧ x4 = (if op = 1 then 0 else 1)) : Ev (fun k => dancestudioref35_node.j6 k x3 x4 op nm n a) (argE op a) := by
  obtain ⟨rfl, rfl⟩ := h
  refine ev_step (fun k => by simp only [dancestudioref35_node.j6] <;> exact rfl) ?_
  unfold argE
  repeat' (refine ev_ite (fun h => ?_) (fun h => ?_))
  all_goals (refine ev_eq (ev_now _) ?_; (repeat' split) <;> simp_all <;> omega)
theorem rj5 (b : Bool) (op : Int) (nm : ByteArray) (n a : Int) : Ev (fun k => dancestudioref35_node.j5 k b op nm n a) (if b = true then 1 else argE op a) := by
  refine ev_step (fun k => by simp only [dancestudioref35_node.j5] <;> exact rfl) ?_
  refine ev_ite (fun h => ?_) (fun h => ?_)
  · exact ev_eq (ev_now _) (by rw [if_pos h])
  rw [if_neg h]
  refine ev_ite (fun h1 => ?_) (fun h1 => ?_)
  · exact rj6 _ _ _ _ _ _ ⟨by rw [if_pos h1], by rw [if_pos h1]⟩
  · exact rj6 _ _ _ _ _ _ ⟨by rw [if_neg h1], by rw [if_neg h1]⟩
theorem rj4 (lo hi op : Int) (nm : ByteArray) (n a : Int) : Ev (fun k => dancestudioref35_node.j4 k lo hi op nm n a) (if n < lo then 1 else if n > hi then 1 else argE op a) := by
  refine ev_step (fun k => by simp only [dancestudioref35_node.j4] <;> exact rfl) ?_
  refine ev_ite (fun h => ?_) (fun h => ?_)
  · exact ev_eq (rj5 _ _ _ _ _) (by rw [if_pos h]; rfl)
  · exact ev_eq (rj5 _ _ _ _ _) (by rw [if_neg h]; by_cases h2 : n > hi <;> simp [h2])
theorem rj2 (lo hi op : Int) (nm : ByteArray) (n a : Int) (h : lo = 0 ∧ hi = (if op = 5 then 3 else 0)) : Ev (fun k => dancestudioref35_node.j2 k lo hi op nm n a) (rngE op n a) := by
  obtain ⟨rfl, rfl⟩ := h
  have h3 : ∀ b : Bool, Ev (fun k => dancestudioref35_node.j3 k 0 (if op = 5 then 3 else 0) b op nm n a) (if b = true then (if n < 1 then 1 else if n > 16 then 1 else argE op a) else (if n < 0 then 1 else if n > (if op = 5 then 3 else 0) then 1 else argE op a)) := by
    intro b
    refine ev_step (fun k => by simp only [dancestudioref35_node.j3] <;> exact rfl) ?_
    refine ev_ite (fun h => ?_) (fun h => ?_)
    · rw [if_pos h]; exact rj4 _ _ _ _ _ _
    · rw [if_neg h]; exact rj4 _ _ _ _ _ _
  refine ev_step (fun k => by simp only [dancestudioref35_node.j2] <;> exact rfl) ?_
  unfold rngE
  refine ev_ite (fun h => ?_) (fun h => ?_)
  · exact ev_eq (h3 true) (by simp [h])
  · exact ev_eq (h3 _) (by by_cases h5 : op = 5 <;> by_cases h7 : op = 7 <;> simp_all)
theorem rj1 (b : Bool) (op : Int) (nm : ByteArray) (n a : Int) : Ev (fun k => dancestudioref35_node.j1 k b op nm n a) (if b = true then 8 else rngE op n a) := by
  refine ev_step (fun k => by simp only [dancestudioref35_node.j1] <;> exact rfl) ?_
  refine ev_ite (fun h => ?_) (fun h => ?_)
  · exact ev_eq (ev_now _) (by rw [if_pos h])
  rw [if_neg h]
  refine ev_ite (fun h1 => ?_) (fun h1 => ?_)
  · exact rj2 _ _ _ _ _ _ ⟨rfl, by rw [if_pos h1]⟩
  · exact rj2 _ _ _ _ _ _ ⟨rfl, by rw [if_neg h1]⟩
theorem rnode_ev (op : Int) (nm : ByteArray) (n a : Int) : Ev (fun k => dancestudioref35_node.f k op nm n a) (nodeE op nm n a) := by
  have hj : ∀ b : Bool, Ev (fun k => dancestudioref35_node.j0 k b op nm n a) (if b = true then 9 else if op = 1 then (if nameB nm = true then rngE op n a else 8) else if nm.toList = [] then rngE op n a else 8) := by
    intro b
    refine ev_step (fun k => by simp only [dancestudioref35_node.j0] <;> exact rfl) ?_
    refine ev_ite (fun h => ?_) (fun h => ?_)
    · exact ev_eq (ev_now _) (by simp_all)
    refine ev_ite (fun h1 => ?_) (fun h1 => ?_)
    · refine Ev.bind (rvalid nm) ?_
      refine ev_ite (fun h2 => ?_) (fun h2 => ?_)
      · exact ev_eq (rj1 _ _ _ _ _) (by simp_all)
      · exact ev_eq (rj1 _ _ _ _ _) (by simp_all)
    · exact ev_eq (rj1 _ _ _ _ _) (by by_cases h3 : nm.toList = [] <;> simp_all)
  unfold dancestudioref35_node.f nodeE
  refine ev_ite (fun h => ?_) (fun h => ?_)
  · exact ev_eq (hj true) (by rw [if_pos rfl, if_pos h])
  · exact ev_eq (hj _) (by rw [if_neg h]; by_cases h2 : op > 7 <;> simp [h2])
theorem fe_loop2 {F : Nat → Nat → Option Int} {e : Nat → Int} {n : Nat} {r : Int} (hend : (∀ j, j < n → e j = 0) → Ev (fun k => F k n) r)
    (hstep : ∀ i, i < n → e i = 0 → ∀ v, Ev (fun k => F k (i + 1)) v → Ev (fun k => F k i) v) (herr : ∀ i, i < n → e i ≠ 0 → Ev (fun k => F k i) (e i)) :
    ∀ d i : Nat, i + d = n → (∀ j, j < i → e j = 0) → Ev (fun k => F k i) (fe e d i r)
 | 0, i, h, hz => by
  obtain rfl : i = n := by omega
  exact hend hz
 | d + 1, i, h, hz => by
  unfold fe
  by_cases h0 : e i = 0
  · rw [if_pos h0]
    exact hstep i (by omega) h0 _ (fe_loop2 hend hstep herr d (i + 1) (by omega) (fun j hj => by
      by_cases hji : j = i
      · rw [hji]; exact h0
      · exact hz j (by omega)))
  · rw [if_neg h0]; exact herr i (by omega) h0
theorem rd43 (l : List S43) {i : Nat} (h : i < l.length) : rd_T43 l (i : Int) = l[i] := by
  unfold rd_T43; rw [Int.toNat_natCast, List.getD_eq_getElem?_getD, List.getElem?_eq_getElem h]; rfl
noncomputable def nodeI (l : List S43) (i : Nat) : Int := nodeE (rd_T43 l i).f0 (rd_T43 l i).f1 (rd_T43 l i).f2 (rd_T43 l i).f3
theorem nodeE_args {op : Int} {nm : ByteArray} {n a : Int} (h : nodeE op nm n a = 0) : 0 ≤ a ∧ a ≤ 8 := by
  unfold nodeE rngE argE at h
  (repeat' split at h) <;> first | omega | exact absurd h (by decide)
/-- Do the arguments come out: x trees are missing. -/
def okT : Int → List S43 → Bool
 | x, [] => decide (x = 0)
 | x, s :: l => if x = 0 then false else okT (x + (s.f3 - 1)) l
def szT : Int → List S43 → Nat → Int
 | _, [], _ => 0
 | x, s :: l, i => if x - 1 + s.f3 = 0 then (i : Int) + 1 else szT (x - 1 + s.f3) l (i + 1)
theorem szT_ok : ∀ (l : List S43) (x : Int) (i : Nat), x ≠ 0 → (1 ≤ i ∨ l ≠ []) → ((szT x l i = ((i + l.length : Nat) : Int)) ↔ okT x l = true)
 | [], x, i, hx, hi => by
  have : 1 ≤ i := hi.resolve_right (fun h => h rfl)
  simp only [szT, okT, List.length_nil, decide_eq_true_eq]
  constructor
  · intro h; omega
  · intro h; exact absurd h hx
 | s :: l, x, i, hx, hi => by
  simp only [szT, okT, if_neg hx, List.length_cons]
  have hxx : x + (s.f3 - 1) = x - 1 + s.f3 := by omega
  rw [hxx]
  by_cases h0 : x - 1 + s.f3 = 0
  · rw [if_pos h0, h0]
    cases l with
    | nil => simp [okT]
    | cons s2 l => simp only [okT, List.length_cons, if_true]; constructor
                   · intro h; omega
                   · intro h; cases h
  · rw [if_neg h0]
    have := szT_ok l (x - 1 + s.f3) (i + 1) h0 (.inl (by omega))
    rw [← this]
    constructor <;> intro h <;> omega
noncomputable def chkE (l : List S43) : Int := if (l.length : Int) = 0 then 4 else if (l.length : Int) > 64 then 3 else fe (nodeI l) l.length 0 (if okT 1 l = true then 0 else 2)
section
variable (l : List S43) (hn : l.length ≤ 64)
include hn
theorem ptail (ha : ∀ i : Nat, i < l.length → 0 ≤ (rd_T43 l i).f3 ∧ (rd_T43 l i).f3 ≤ 8) (d : Nat) : ∀ (i : Nat) (x : Int), i + d = l.length → -(i : Int) ≤ x → x ≤ 1 + 8 * i → Ev (fun k => lang_Check.l1 k x l (l.length : Int) (i : Int)) (if okT x (l.drop i) = true then 0 else 2) := by
  induction d with
  | zero =>
    intro i x hi h1 h2
    rw [List.drop_eq_nil_of_le (by omega)]
    refine ev_step (fun k => by simp only [lang_Check.l1] <;> exact rfl) (ev_neg (by omega) ?_)
    refine ev_ite (fun h => ?_) (fun h => ?_) <;> exact ev_eq (ev_now _) (by simp [okT, h])
  | succ d ih =>
    intro i x hi h1 h2
    have hlt : i < l.length := by omega
    obtain ⟨a1, a2⟩ := ha i hlt
    rw [List.drop_eq_getElem_cons hlt, ← rd43 l hlt]
    refine ev_step (fun k => by simp only [lang_Check.l1] <;> exact rfl) (ev_pos (by omega) (ev_pos (by omega) (ev_pos (by omega) ?_)))
    refine ev_ite (fun h => ?_) (fun h => ?_)
    · exact ev_eq (ev_now _) (by simp [okT, h])
    · rw [show okT x (rd_T43 l (i : Int) :: l.drop (i + 1)) = okT (x + ((rd_T43 l (i : Int)).f3 - 1)) (l.drop (i + 1)) from by simp only [okT, if_neg h], w64 (n := (rd_T43 l i).f3 - 1) (by omega) (by omega), w64 (by omega) (by omega), w64 (by omega) (by omega)]
      exact ih (i + 1) _ (by omega) (by omega) (by omega)
theorem rsize (ha : ∀ i : Nat, i < l.length → 0 ≤ (rd_T43 l i).f3 ∧ (rd_T43 l i).f3 ≤ 8) (d : Nat) : ∀ (i : Nat) (x : Int), i + d = l.length → -(i : Int) ≤ x → x ≤ 1 + 8 * i → Ev (fun k => dancestudioref35_Size.l0 k l x (i : Int)) (szT x (l.drop i) i) := by
  induction d with
  | zero =>
    intro i x hi h1 h2
    rw [List.drop_eq_nil_of_le (by omega)]
    exact ev_step (fun k => by simp only [dancestudioref35_Size.l0] <;> exact rfl) (ev_neg (by omega) (ev_now _))
  | succ d ih =>
    intro i x hi h1 h2
    have hlt : i < l.length := by omega
    obtain ⟨a1, a2⟩ := ha i hlt
    rw [List.drop_eq_getElem_cons hlt, ← rd43 l hlt]
    refine ev_step (fun k => by simp only [dancestudioref35_Size.l0] <;> exact rfl) (ev_pos (by omega) (ev_pos (by omega) ?_))
    rw [w64 (n := x - 1) (by omega) (by omega), w64 (n := x - 1 + (rd_T43 l i).f3) (by omega) (by omega), w64 (n := (i : Int) + 1) (by omega) (by omega)]
    simp only [szT]
    refine ev_ite (fun h => ?_) (fun h => ?_)
    · exact ev_eq (ev_now _) (by rw [if_pos h])
    · rw [if_neg h]
      exact ih (i + 1) _ (by omega) (by omega) (by omega)
end
theorem pchk_ev (l : List S43) : Ev (fun k => lang_Check.f k l) (chkE l) := by
  unfold lang_Check.f chkE
  refine ev_ite (fun h => ?_) (fun h => ?_)
  · exact ev_eq (ev_now _) (by rw [if_pos h])
  rw [if_neg h]
  refine ev_ite (fun h1 => ?_) (fun h1 => ?_)
  · exact ev_eq (ev_now _) (by rw [if_pos h1])
  rw [if_neg h1]
  refine fe_loop2 (F := fun k i => lang_Check.l0 k l l (l.length : Int) (i : Int)) (n := l.length) (fun hz => ?_) (fun i hi h0 v hv => ?_) (fun i hi h0 => ?_) l.length 0 (by omega) (fun j hj => by omega)
  · refine ev_step (fun k => by simp only [lang_Check.l0] <;> exact rfl) (ev_neg (by omega) ?_)
    exact ptail l (by omega) (fun i hi => nodeE_args (hz i hi)) l.length 0 1 (by omega) (by omega) (by omega)
  · refine ev_step (fun k => by simp only [lang_Check.l0] <;> exact rfl) (ev_pos (by omega) (ev_pos (by omega) (ev_pos (by omega) ?_)))
    refine Ev.bind (node_ev _ _ _ _) ?_
    rw [w64 (by omega) (by omega)]
    exact ev_pos h0 hv
  · refine ev_step (fun k => by simp only [lang_Check.l0] <;> exact rfl) (ev_pos (by omega) (ev_pos (by omega) (ev_pos (by omega) ?_)))
    refine Ev.bind (node_ev _ _ _ _) ?_
    exact ev_neg h0 (ev_now _)
theorem rchk_ev (l : List S43) : Ev (fun k => dancestudioref35_Check.f k l) (chkE l) := by
  unfold dancestudioref35_Check.f chkE
  refine ev_ite (fun h => ?_) (fun h => ?_)
  · exact ev_eq (ev_now _) (by rw [if_pos h])
  rw [if_neg h]
  refine ev_ite (fun h1 => ?_) (fun h1 => ?_)
  · exact ev_eq (ev_now _) (by rw [if_pos h1])
  rw [if_neg h1]
  refine fe_loop2 (F := fun k i => dancestudioref35_Check.l0 k l (i : Int)) (n := l.length) (fun hz => ?_) (fun i hi h0 v hv => ?_) (fun i hi h0 => ?_) l.length 0 (by omega) (fun j hj => by omega)
  · refine ev_step (fun k => by simp only [dancestudioref35_Check.l0] <;> exact rfl) (ev_neg (by omega) ?_)
    refine Ev.bind (show Ev (fun k => dancestudioref35_Size.f k l) (szT 1 l 0) from rsize l (by omega) (fun i hi => nodeE_args (hz i hi)) l.length 0 1 (by omega) (by omega) (by omega)) ?_
    have hs := szT_ok l 1 0 (by decide) (.inr (fun h2 => h (by rw [h2]; rfl)))
    rw [Nat.zero_add] at hs
    refine ev_ite (fun h2 => ?_) (fun h2 => ?_)
    · exact ev_eq (ev_now _) (by rw [if_pos (hs.mp h2)])
    · exact ev_eq (ev_now _) (by rw [if_neg (fun h3 => h2 (hs.mpr h3))])
  · refine ev_step (fun k => by simp only [dancestudioref35_Check.l0] <;> exact rfl) (ev_pos (by omega) (ev_pos (by omega) ?_))
    refine Ev.bind (rnode_ev _ _ _ _) ?_
    rw [w64 (by omega) (by omega)]
    exact ev_pos h0 hv
  · refine ev_step (fun k => by simp only [dancestudioref35_Check.l0] <;> exact rfl) (ev_pos (by omega) (ev_pos (by omega) ?_))
    refine Ev.bind (rnode_ev _ _ _ _) ?_
    exact ev_neg h0 (ev_now _)
end Go.Proofs.YtimikhbnihedkaaDoor.PAll
namespace Go.Proofs.YtimikhbnihedkaaDoor.PAll
open Go.RowKit Go.Proofs.YtimikhbnihedkaaDoorW.PrintWords Go.Proofs.YtimikhbnihedkaaDoorW.PrintLast Go.Proofs.YtimikhbnihedkaaDoorW.PrintMore
attribute [local go_sem] max2_int min2_int max_two min_two max_three min_three max_four min_four
set_option linter.unusedVariables false
set_option linter.unusedSimpArgs false
mutual
def lang_arguments.l0 : Nat → List (S43) → List (List (S43)) → Int → Int → Int → Option ((List (List (S43))))
 | 0, _, _, _, _, _ => none
 | k + 1, x0, x3, x4, x10, x11 => if x11 < x10 then (lang_arguments.l1 k x0 x3 x4 x4 1 x10 x11) else (some x3)
def lang_arguments.l1 : Nat → List (S43) → List (List (S43)) → Int → Int → Int → Int → Int → Option ((List (List (S43))))
 | 0, _, _, _, _, _, _, _ => none
 | k + 1, x0, x3, x4, x5, x6, x10, x11 => if x6 > 0 then (if 0 ≤ x4 then (if x4 < (x0.length : Int) then (lang_arguments.l1 k x0 x3 (wrap64 (x4 + 1)) x5 (wrap64 (x6 + (wrap64 (((rd_T43 x0 x4).f3) - 1)))) x10 x11) else (none)) else (none)) else (if 0 ≤ x5 then (if x5 ≤ x4 then (if x4 ≤ (x0.length : Int) then (if x3.length < 5864062014805 then (lang_arguments.l0 k x0 (x3 ++ [((x0.take (x4 : Int).toNat).drop (x5 : Int).toNat)]) x4 x10 (wrap64 (x11 + 1))) else (none)) else (none)) else (none)) else (none))
end
def lang_arguments.f (k : Nat) (l0 : List (S43)) : Option ((List (List (S43)))) := if 0 < (l0.length : Int) then (lang_arguments.l0 k l0 ([] : List (List (S43))) 1 ((rd_T43 l0 0).f3) 0) else (none)
set_option maxHeartbeats 8000000 in
set_option maxRecDepth 100000 in
theorem lang_arguments.calls (k : Nat) (P0_ : Nat → Prop) (A0 : Option Addr) (c0 : Nat) (l0 : List (S43)) (r : List (List (S43))) (w : World) (hs0 : Kd.V k43 43 w w.heap.size (fun k_ => P0_ k_) (.slice A0 l0.length c0) l0) (h : lang_arguments.f k l0 = some r) :
  Calls Tryd.prog 49 #[.slice A0 l0.length c0] w fun e w' => ∃ v0_ : Value, e = .returned (v0_) ∧ Kd.N (Kd.slice 43 k43) 22 w' w.heap.size (fun k_ => (P0_ k_ ∨ w.heap.size ≤ k_)) v0_ r ∧ Below w.heap.size w w' := by
 have HO0 := Aside0.mk (show Kd.V k43 43 w w.heap.size (fun k_ => (P0_ k_ ∨ w.heap.size ≤ k_)) (.slice A0 l0.length c0) l0 from Kd.V_mono hs0 (fun k_ hk => .inl hk))
 have HB := Aside0.mk (Below.refl w.heap.size w)
 have H := h
 unfold lang_arguments.f at H
 clear h
 obtain ⟨c2, H⟩ : (0 < (l0.length : Int)) ∧ _ := mIf H
 have c2b0 := decide_eq_true c2
 have c2b1 : decide (0 < l0.length) = true := decide_eq_true (by omega)
 clear c2
 have H' := Aside0.mk H
 clear H
 have p115 : 0 ≤ (0 : Int) := (by omega)
 have q115 : 0 < (l0.length : Int) := of_decide_eq_true (by assumption)
 obtain ⟨ad115, e115, hx115_0, hx115_1, hx115_2, hx115_3⟩ := at_T43 (Kd.V_reads' HO0.out).2.2 0 p115 q115
 cases e115
 have qi115 : (0 < l0.length) = True := eq_true (by omega)
 (try rw [show ((0 : Int)).toNat = 0 from rfl] at hx115_0)
 (try rw [show 0 * 4 = 0 from rfl] at hx115_0)
 (try rw [Addr.add_zero'] at hx115_0)
 (try rw [show ((0 : Int)).toNat = 0 from rfl] at hx115_1)
 (try rw [show 0 * 4 = 0 from rfl] at hx115_1)
 (try rw [Addr.add_zero'] at hx115_1)
 (try rw [show ((0 : Int)).toNat = 0 from rfl] at hx115_2)
 (try rw [show 0 * 4 = 0 from rfl] at hx115_2)
 (try rw [Addr.add_zero'] at hx115_2)
 (try rw [show ((0 : Int)).toNat = 0 from rfl] at hx115_3)
 (try rw [show 0 * 4 = 0 from rfl] at hx115_3)
 (try rw [Addr.add_zero'] at hx115_3)
 replace p115 := eq_true p115
 replace q115 := eq_true q115
 go_enter Tryd.func49, Tryd.ntmps49
 go_wp2
 go_loopg [3, 4, 11] k (fun kq v3 v4 v11 w' => ∃ (x3_1 : List (List (S43))) (x4_1 : Int) (x11_1 : Int), v4 = .int .i64 x4_1 ∧ v11 = .int .i64 x11_1 ∧ Aside0 (lang_arguments.l0 kq l0 x3_1 x4_1 ((rd_T43 l0 0).f3) x11_1 = some r) ∧ Aside0 (kq ≤ k) ∧ Aside0 (Kd.V k43 43 w' w.heap.size (fun k_ => (P0_ k_ ∨ w.heap.size ≤ k_) ∧ some k_ ≠ (v3 : Value).ownBlock) (.slice (some ad115) l0.length c0) l0) ∧ Aside0 (Kd.N (Kd.slice 43 k43) 22 w' w.heap.size (fun k_ => (P0_ k_ ∨ w.heap.size ≤ k_)) v3 x3_1) ∧ Aside0 (Below w.heap.size w w'))
 case atStart => exact ⟨(([] : List (List (S43)))), (1), (0), rfl, rfl, H', ⟨Nat.le_refl _⟩, ⟨Kd.V_mono HO0.out (fun _ hk => ⟨hk, (by simp [Value.ownBlock])⟩)⟩, ⟨by first | exact Kd.S_nil _ _ _ _ _ | exact Kd.N_nil _ _ _ _ _ | exact Kd.V_nil _ _ _ _ _ | exact Kd.Q_nil _ _ _ _ _ | exact Kd.R_nil _ _ _ _ _⟩, ⟨HB.out⟩⟩
 case round =>
  clear H' c2b0 c2b1 hx115_0 hx115_1 hx115_2 hx115_3 p115 q115
  obtain ⟨x3_1, x4_1, x11_1, rfl, rfl, HA, HK1, HO_0, HO_3, HB⟩ := hrel
  cases gk with
  | zero => exact absurd HA.out (by simp [lang_arguments.l0])
  | succ k1 =>
   have H := HA.out
   clear HA
   simp only [lang_arguments.l0] at H
   by_cases c3 : x11_1 < ((rd_T43 l0 0).f3)
   rotate_left
   ·
    rw [if_neg c3] at H
    have c3b0 := decide_eq_false c3
    clear c3
    obtain rfl := Option.some.inj H
    go_wp2
    go_ret
    exact ⟨_, rfl, by (with_reducible repeat (first | apply Kd.N_alloc | apply Kd.N_drewN | apply Kd.N_drew)); exact HO_3.out, HB.out⟩
   rw [if_pos c3] at H
   have c3b0 := decide_eq_true c3
   clear c3
   have H' := Aside0.mk H
   clear H
   go_wp2
   go_loopg [4, 6] k1 (fun kq v4 v6 w' => ∃ (x4_2 : Int) (x6_2 : Int), v4 = .int .i64 x4_2 ∧ v6 = .int .i64 x6_2 ∧ Aside0 (lang_arguments.l1 kq l0 x3_1 x4_2 x4_1 x6_2 ((rd_T43 l0 0).f3) x11_1 = some r) ∧ Aside0 (kq ≤ k1) ∧ Aside0 (Kd.V k43 43 w' w.heap.size (fun k_ => (P0_ k_ ∨ w.heap.size ≤ k_) ∧ some k_ ≠ (u3 : Value).ownBlock) (.slice (some ad115) l0.length c0) l0) ∧ Aside0 (Kd.N (Kd.slice 43 k43) 22 w' w.heap.size (fun k_ => (P0_ k_ ∨ w.heap.size ≤ k_)) u3 x3_1) ∧ Aside0 (Below w.heap.size w w'))
   case atStart => exact ⟨(x4_1), (1), rfl, rfl, H', ⟨Nat.le_refl _⟩, HO_0, HO_3, ⟨HB.out⟩⟩
   case round =>
    clear H' c3b0
    obtain ⟨x4_2, x6_2, rfl, rfl, HA, HK2, HO_0, HO_3, HB⟩ := hrel
    cases gk with
    | zero => exact absurd HA.out (by simp [lang_arguments.l1])
    | succ k2 =>
     have H := HA.out
     clear HA
     simp only [lang_arguments.l1] at H
     by_cases c4 : x6_2 > 0
     ·
      rw [if_pos c4] at H
      have c4b0 := decide_eq_true c4
      clear c4
      obtain ⟨c5, H⟩ : (0 ≤ x4_2) ∧ _ := mIf H
      have c5b0 := decide_eq_true c5
      clear c5
      obtain ⟨c6, H⟩ : (x4_2 < (l0.length : Int)) ∧ _ := mIf H
      have c6b0 := decide_eq_true c6
      clear c6
      have H' := Aside0.mk H
      clear H
      have p116 : 0 ≤ (x4_2 : Int) := of_decide_eq_true (by assumption)
      have q116 : x4_2 < (l0.length : Int) := of_decide_eq_true (by assumption)
      obtain ⟨ad116, e116, hx116_0, hx116_1, hx116_2, hx116_3⟩ := at_T43 (Kd.V_reads' HO_0.out).2.2 x4_2 p116 q116
      obtain rfl : ad115 = ad116 := (by injection e116)
      replace p116 := eq_true p116
      replace q116 := eq_true q116
      go_wp2
      go_roundg k2
      case measure => have := HK1.out; have := HK2.out; omega
      case rel => exact ⟨(wrap64 (x4_2 + 1)), (wrap64 (x6_2 + (wrap64 (((rd_T43 l0 x4_2).f3) - 1)))), rfl, rfl, H', ⟨by have := HK1.out; have := HK2.out; omega⟩, HO_0, HO_3, ⟨HB.out⟩⟩
     rw [if_neg c4] at H
     have c4b0 := decide_eq_false c4
     clear c4
     obtain ⟨c7, H⟩ : (0 ≤ x4_1) ∧ _ := mIf H
     have c7b0 := eq_true c7
     have c7b1 := decide_eq_true c7
     clear c7
     obtain ⟨c8, H⟩ : (x4_1 ≤ x4_2) ∧ _ := mIf H
     have c8b0 := eq_true c8
     have c8b1 := decide_eq_true c8
     clear c8
     obtain ⟨c9, H⟩ : (x4_2 ≤ (l0.length : Int)) ∧ _ := mIf H
     have c9b0 := eq_true c9
     have c9b1 := decide_eq_true c9
     clear c9
     obtain ⟨y117, hy117⟩ : ∃ y_ : List (S43), y_ = ((l0.take (x4_2 : Int).toNat).drop (x4_1 : Int).toNat) := ⟨_, rfl⟩
     rw [← hy117] at H
     have Ny117 := Aside0.mk hy117
     clear hy117
     obtain ⟨c10, H⟩ : (x3_1.length < 5864062014805) ∧ _ := mIf H
     have LMc10 := Aside0.mk c10
     clear c10
     obtain ⟨y122, hy122⟩ : ∃ y_ : List (List (S43)), y_ = (x3_1 ++ [y117]) := ⟨_, rfl⟩
     rw [← hy122] at H
     have Ny122 := Aside0.mk hy122
     clear hy122
     have H' := Aside0.mk H
     clear H
     have q11 : (x4_2 : Int) ≤ ((l0.length : Int) : Int) := of_decide_eq_true (by assumption)
     obtain ⟨i011, hi011, _, hsz11, _⟩ := info_parts info43
     have hroom11 : l0.length ≤ c0 := (Kd.V_reads' HO_0.out).2.1
     have hC11 : Kd.F k43 _ _ (some ad115) l0.length l0 := (Kd.V_at (base := w.heap.size) HO_0.out).2.2
     have ql11 : (x4_1 : Int) ≤ (x4_2 : Int) := of_decide_eq_true (by assumption)
     have q011 : (0 : Int) ≤ (x4_1 : Int) := of_decide_eq_true (by assumption)
     have hcut11 := cut_mid (P := Tryd.prog) 22 43 .i64 .i64 Tryd.underlying22 hi011 4 hsz11 (some ad115) l0.length c0 x4_1 x4_2 q011 ql11 q11 hroom11
     have hr11 := Kd.F_mid (lo := (x4_1 : Int).toNat) (hi := (x4_2 : Int).toNat) (c := c0) hC11 (by omega) (by omega) hroom11
     obtain ⟨A11, hA11⟩ : ∃ A1, A1 = (if c0 = (x4_1 : Int).toNat then (some ad115) else ((some ad115) : Option Addr).map (·.add ((x4_1 : Int).toNat * 4))) := ⟨_, rfl⟩
     obtain ⟨c11, hc11⟩ : ∃ c1, c1 = c0 - (x4_1 : Int).toNat := ⟨_, rfl⟩
     have hy11 : y117.length = (x4_2 : Int).toNat - (x4_1 : Int).toNat := (by rw [Ny117.out, List.length_drop, List.length_take] <;> omega)
     rw [show ((l0).take (x4_2 : Int).toNat).drop (x4_1 : Int).toNat = y117 from Ny117.out.symm] at hr11
     replace hr11 : Kd.F k43 _ _ A11 y117.length y117 := (by rw [hA11]; exact hr11)
     rw [← hy11, ← hA11, ← hc11] at hcut11
     have HO121 := Aside0.mk (show Kd.V k43 43 _ w.heap.size _ (.slice A11 y117.length c11) y117 from Kd.V_mk (by rw [hy11, hc11]; exact Nat.sub_le_sub_right (Nat.le_trans (by omega) hroom11) _) hr11)
     have HC121 := Aside0.mk (show y117.length ≤ c11 from by rw [hy11, hc11]; exact Nat.sub_le_sub_right (Nat.le_trans (by omega) hroom11) _)
     clear hr11 hC11 hroom11 hi011 hsz11 hc11
     have KY11 := Aside0.mk hy11
     have KA11 := Aside0.mk hA11
     clear hy11 hA11
     replace q11 := eq_true q11
     go_wp2_with (first | ((with_reducible refine gate_builtin (b := .append) (xs := #[.tmp 26, .tmp 31]) rfl ?_); at_builtin; refine Kd.N_append (Kd.slice 43 k43) (w0 := w) w.heap.size rfl (.tmp 26) (.tmp 31) 61 22 (.slice none 0 0) 24 rfl Tryd.underlying61 info22 rfl (by decide) (by omega) u3 x3_1 y117 [.slice A11 y117.length c11] (fun k_ => (P0_ k_ ∨ w.heap.size ≤ k_)) (fun k_ => ((fun k_ => (P0_ k_ ∨ w.heap.size ≤ k_))) k_ ∧ some k_ ≠ (u3 : Value).ownBlock) rfl rfl ?aP (fun _ hk => hk) ?aF ?aO ?aB ?aS ?aL ?_; (case aP => exact (Kd.FK_slice_mk (Kd.V_reads' (Kd.V_mono (ok' := (fun k_ => ((fun k_ => (P0_ k_ ∨ w.heap.size ≤ k_))) k_ ∧ some k_ ≠ (u3 : Value).ownBlock)) (HO121.out) (fun k_ hk => ⟨hk.1, hk.2⟩))).2.1 (Kd.V_F (Kd.V_mono (ok' := (fun k_ => ((fun k_ => (P0_ k_ ∨ w.heap.size ≤ k_))) k_ ∧ some k_ ≠ (u3 : Value).ownBlock)) (HO121.out) (fun k_ hk => ⟨hk.1, hk.2⟩))))); (case aB => exact HB.out); (case aF => exact (fun k_ hk => (.inr (Nat.le_trans (below_size HB.out) hk)))); (case aO => exact HO_3.out); (case aS => exact (below_size HB.out)); (case aL => have := LMc10.out; omega); intro v123 w12 ho hb hg hat; rw [← Ny122.out] at ho; replace HO_0 := Aside0.mk (Kd.V_afterv (ok := (fun k_ => (P0_ k_ ∨ w.heap.size ≤ k_))) HO_0.out hg hat); replace HO121 := Aside0.mk (Kd.V_afterv (ok := (fun k_ => (P0_ k_ ∨ w.heap.size ≤ k_))) HO121.out hg hat); replace HB := Aside0.mk hb; have HO124 := Aside0.mk ho; clear HO_3; clear ho hb hg hat))
     go_roundg k2
     case measure => have := HK1.out; have := HK2.out; omega
     case rel => exact ⟨(y122), (x4_2), (wrap64 (x11_1 + 1)), rfl, rfl, H', ⟨by have := HK1.out; have := HK2.out; omega⟩, HO_0, HO124, ⟨HB.out⟩⟩
def lang_numbered.f (a0 : Int) : Option (Bool) := some (decide (a0 ≥ 5))
set_option maxHeartbeats 8000000 in
set_option maxRecDepth 100000 in
theorem lang_numbered.calls (a0 : Int) (r : Bool) (w : World) (h : lang_numbered.f a0 = some r) :
  Calls Tryd.prog 50 #[.int .i64 a0] w fun e w' => e = .returned (.bool r) ∧ Drawn0 w w' := by
 have H := h
 unfold lang_numbered.f at H
 clear h
 obtain rfl := Option.some.inj H
 go_enter Tryd.func50, Tryd.ntmps50
 go_wp2
 go_ret
 exact ⟨by first | rfl | (simp; done) | (simp [*]; done), by repeat (first | exact Drawn0.refl _ | apply Drawn0.step)⟩
def strconv_Itoa.f (a0 : Int) : Option (ByteArray) := if 0 ≤ a0 then (if a0 < 100 then (some ⟨(Lib.decDigits a0.toNat).toArray⟩) else none) else none
theorem strconv_Itoa.calls (a0 : Int) (r : ByteArray) (w : World) (h : strconv_Itoa.f a0 = some r) :
    Calls Tryd.prog 51 #[.int .i64 a0] w fun e w' => e = .returned (.string r) ∧ Drawn0 w w' := by
  unfold strconv_Itoa.f at h
  by_cases h0 : 0 ≤ a0
  case neg => rw [if_neg h0] at h; exact absurd h (by simp)
  rw [if_pos h0] at h
  by_cases h1 : a0 < 100
  case neg => rw [if_neg h1] at h; exact absurd h (by simp)
  rw [if_pos h1] at h
  injection h with h; subst h
  have hn : ((a0.toNat : Nat) : Int) = a0 := Int.toNat_of_nonneg h0
  have hc := Tryd.strconv_Itoa_small a0.toNat (by omega) w
  rw [hn] at hc
  exact hc.mono fun e w' ⟨h1, h2⟩ => ⟨h1, by subst h2; exact Drawn0.refl _⟩
def lang_word.f (a0 : Int) : Option (ByteArray) := if a0 = 2 then (some (⟨#[115, 101, 113]⟩ : ByteArray)) else (if a0 = 3 then (some (⟨#[109, 105, 114, 114, 111, 114]⟩ : ByteArray)) else (if a0 = 4 then (some (⟨#[114, 101, 116, 114, 111]⟩ : ByteArray)) else (if a0 = 5 then (some (⟨#[114, 111, 116, 97, 116, 101]⟩ : ByteArray)) else (if a0 = 6 then (some (⟨#[115, 116, 114, 101, 116, 99, 104]⟩ : ByteArray)) else (if a0 = 7 then (some (⟨#[114, 101, 112, 101, 97, 116]⟩ : ByteArray)) else (some (⟨#[]⟩ : ByteArray)))))))
set_option maxHeartbeats 8000000 in
set_option maxRecDepth 100000 in
theorem lang_word.calls (a0 : Int) (r : ByteArray) (w : World) (h : lang_word.f a0 = some r) :
  Calls Tryd.prog 52 #[.int .i64 a0] w fun e w' => e = .returned (.string r) ∧ Drawn0 w w' := by
 have H := h
 unfold lang_word.f at H
 clear h
 by_cases c2 : a0 = 2
 ·
  rw [if_pos c2] at H
  have c2b0 := beq_iff_eq.mpr c2
  have c2b1 := bne_eq_false_iff_eq.mpr c2
  clear c2
  obtain rfl := Option.some.inj H
  go_enter Tryd.func52, Tryd.ntmps52
  go_wp2
  go_ret
  exact ⟨by first | rfl | (simp; done) | (simp [*]; done), by repeat (first | exact Drawn0.refl _ | apply Drawn0.step)⟩
 rw [if_neg c2] at H
 have c2b0 := beq_eq_false_iff_ne.mpr c2
 have c2b1 := bne_iff_ne.mpr c2
 by_cases c3 : a0 = 3
 ·
  rw [if_pos c3] at H
  have c3b0 := beq_iff_eq.mpr c3
  have c3b1 := bne_eq_false_iff_eq.mpr c3
  clear c3
  obtain rfl := Option.some.inj H
  go_enter Tryd.func52, Tryd.ntmps52
  go_wp2
  go_ret
  exact ⟨by first | rfl | (simp; done) | (simp [*]; done), by repeat (first | exact Drawn0.refl _ | apply Drawn0.step)⟩
 rw [if_neg c3] at H
 have c3b0 := beq_eq_false_iff_ne.mpr c3
 have c3b1 := bne_iff_ne.mpr c3
 by_cases c4 : a0 = 4
 ·
  rw [if_pos c4] at H
  have c4b0 := beq_iff_eq.mpr c4
  have c4b1 := bne_eq_false_iff_eq.mpr c4
  clear c4
  obtain rfl := Option.some.inj H
  go_enter Tryd.func52, Tryd.ntmps52
  go_wp2
  go_ret
  exact ⟨by first | rfl | (simp; done) | (simp [*]; done), by repeat (first | exact Drawn0.refl _ | apply Drawn0.step)⟩
 rw [if_neg c4] at H
 have c4b0 := beq_eq_false_iff_ne.mpr c4
 have c4b1 := bne_iff_ne.mpr c4
 by_cases c5 : a0 = 5
 ·
  rw [if_pos c5] at H
  have c5b0 := beq_iff_eq.mpr c5
  have c5b1 := bne_eq_false_iff_eq.mpr c5
  clear c5
  obtain rfl := Option.some.inj H
  go_enter Tryd.func52, Tryd.ntmps52
  go_wp2
  go_ret
  exact ⟨by first | rfl | (simp; done) | (simp [*]; done), by repeat (first | exact Drawn0.refl _ | apply Drawn0.step)⟩
 rw [if_neg c5] at H
 have c5b0 := beq_eq_false_iff_ne.mpr c5
 have c5b1 := bne_iff_ne.mpr c5
 by_cases c6 : a0 = 6
 ·
  rw [if_pos c6] at H
  have c6b0 := beq_iff_eq.mpr c6
  have c6b1 := bne_eq_false_iff_eq.mpr c6
  clear c6
  obtain rfl := Option.some.inj H
  go_enter Tryd.func52, Tryd.ntmps52
  go_wp2
  go_ret
  exact ⟨by first | rfl | (simp; done) | (simp [*]; done), by repeat (first | exact Drawn0.refl _ | apply Drawn0.step)⟩
 rw [if_neg c6] at H
 have c6b0 := beq_eq_false_iff_ne.mpr c6
 have c6b1 := bne_iff_ne.mpr c6
 by_cases c7 : a0 = 7
 rotate_left
 ·
  rw [if_neg c7] at H
  have c7b0 := beq_eq_false_iff_ne.mpr c7
  have c7b1 := bne_iff_ne.mpr c7
  obtain rfl := Option.some.inj H
  go_enter Tryd.func52, Tryd.ntmps52
  go_wp2
  go_ret
  exact ⟨by first | rfl | (simp; done) | (simp [*]; done), by repeat (first | exact Drawn0.refl _ | apply Drawn0.step)⟩
 rw [if_pos c7] at H
 have c7b0 := beq_iff_eq.mpr c7
 have c7b1 := bne_eq_false_iff_eq.mpr c7
 clear c7
 obtain rfl := Option.some.inj H
 go_enter Tryd.func52, Tryd.ntmps52
 go_wp2
 go_ret
 exact ⟨by first | rfl | (simp; done) | (simp [*]; done), by repeat (first | exact Drawn0.refl _ | apply Drawn0.step)⟩
def strings_Join.f (l0 : List ByteArray) (a1 : ByteArray) : Option (ByteArray) := if l0.length ≤ 140737488355328 then (if (Lib.join (l0.map (·.data.toList)) a1.data.toList).length ≤ 140737488355328 then (some ⟨(Lib.join (l0.map (·.data.toList)) a1.data.toList).toArray⟩) else none) else none
theorem strings_Join.calls (A0 : Option Addr) (c0 : Nat) (l0 : List ByteArray) (a1 : ByteArray) (r : ByteArray) (w : World) (hr0 : Kd.C Kd.string w A0 l0.length l0) (hc0 : l0.length ≤ c0) (h : strings_Join.f l0 a1 = some r) :
    Calls Tryd.prog 53 #[.slice A0 l0.length c0, .string a1] w fun e w' => e = .returned (.string r) ∧ Below w.heap.size w w' := by
  unfold strings_Join.f at h
  by_cases h0 : l0.length ≤ 140737488355328
  case neg => rw [if_neg h0] at h; exact absurd h (by simp)
  rw [if_pos h0] at h
  by_cases h1 : (Lib.join (l0.map (·.data.toList)) a1.data.toList).length ≤ 140737488355328
  case neg => rw [if_neg h1] at h; exact absurd h (by simp)
  rw [if_pos h1] at h
  injection h with h; subst h
  cases l0 with
  | nil => exact (Tryd.strings_Join_none A0 c0 a1 w).mono fun e w' ⟨h1, h2⟩ => ⟨h1, by subst h2; exact Below.refl _ _⟩
  | cons x l =>
    obtain ⟨ad, rfl, hc⟩ := hr0.2.2 (by simp)
    have hcell : ∀ (j : Nat) y, (x :: l)[j]? = some y → w.cell? (ad.add j) = some (.string y) := by
      intro j y hy
      obtain ⟨c, hs, hr, hu⟩ := hc j y hy
      have hr' : c = [.string y] := hr
      subst hr'
      have := hu 0 (.string y) rfl
      simpa [Kd.string, Kd.scalar] using this
    have h00 := hcell 0 x rfl
    have hsp : ad.spot = none := by
      cases hq : ad.spot with
      | none => rfl
      | some q =>
        exfalso
        unfold World.cell? at h00
        simp only [Addr.add] at h00
        split at h00 <;> simp [hq] at h00
    have hlt := World.block_lt_of_cell? w _ h00
    have ha : ∀ j : Nat, ad.add j = ⟨ad.block, ad.off + j, none⟩ := by
      intro j; cases ad; simp only at hsp; subst hsp; simp only [Addr.add]; split <;> simp_all
    have he : ad = ⟨ad.block, ad.off, none⟩ := by cases ad; simp only at hsp; subst hsp; rfl
    have hb : ad.block < w.heap.size := by rw [ha 0] at hlt; exact hlt
    have hcs : ∀ (j : Nat) y, (x :: l)[j]? = some y → w.cell? ⟨ad.block, ad.off + j, none⟩ = some (.string y) := by
      intro j y hy; rw [← ha j]; exact hcell j y hy
    rw [he]
    exact Tryd.strings_Join ad.block ad.off c0 (x :: l) a1 w hcs hb h0 hc0 h1
mutual
def lang_text.l0 : Nat → List (S43) → List ByteArray → List (List (S43)) → Int → Int → Option (ByteArray)
 | 0, _, _, _, _, _ => none
 | k + 1, x0, x3, x16, x17, x18 => if x18 < x17 then (if 0 ≤ x18 then (if x18 < (x16.length : Int) then ((lang_text.f k (rd_L3 x16 x18)).bind fun t131 => (if x3.length < 8796093022208 then (lang_text.l0 k x0 (x3 ++ [t131]) x16 x17 (wrap64 (x18 + 1))) else (none))) else (none)) else (none)) else (if 0 < (x0.length : Int) then ((lang_numbered.f ((rd_T43 x0 0).f0)).bind fun t136 => (if t136 = true then ((strconv_Itoa.f ((rd_T43 x0 0).f2)).bind fun t138 => (if x3.length < 8796093022208 then ((lang_word.f ((rd_T43 x0 0).f0)).bind fun t143 => (if t143.size + 1 ≤ 9223372036854775807 then ((strings_Join.f (x3 ++ [t138]) (⟨#[44, 32]⟩ : ByteArray)).bind fun t144 => (if (t143 ++ (⟨#[40]⟩ : ByteArray)).size + t144.size ≤ 9223372036854775807 then (if ((t143 ++ (⟨#[40]⟩ : ByteArray)) ++ t144).size + 1 ≤ 9223372036854775807 then (some (((t143 ++ (⟨#[40]⟩ : ByteArray)) ++ t144) ++ (⟨#[41]⟩ : ByteArray))) else (none)) else (none))) else (none))) else (none))) else ((lang_word.f ((rd_T43 x0 0).f0)).bind fun t146 => (if t146.size + 1 ≤ 9223372036854775807 then ((strings_Join.f x3 (⟨#[44, 32]⟩ : ByteArray)).bind fun t147 => (if (t146 ++ (⟨#[40]⟩ : ByteArray)).size + t147.size ≤ 9223372036854775807 then (if ((t146 ++ (⟨#[40]⟩ : ByteArray)) ++ t147).size + 1 ≤ 9223372036854775807 then (some (((t146 ++ (⟨#[40]⟩ : ByteArray)) ++ t147) ++ (⟨#[41]⟩ : ByteArray))) else (none)) else (none))) else (none))))) else (none))
def lang_text.f : Nat → List (S43) → Option (ByteArray)
 | 0, _ => none
 | k + 1, l0 => if 0 < (l0.length : Int) then (if ((rd_T43 l0 0).f0) = 1 then (some ((rd_T43 l0 0).f1)) else ((lang_arguments.f k l0).bind fun t127 => (lang_text.l0 k l0 ([] : List ByteArray) t127 (t127.length : Int) 0))) else (none)
end
set_option maxHeartbeats 8000000 in
set_option maxRecDepth 100000 in
theorem lang_text.calls (k : Nat) : ∀ (A0 : Option Addr) (c0 : Nat) (l0 : List (S43)) (r : ByteArray) (w : World) (hr0 : Kd.C k43 w A0 l0.length l0) (hc0 : l0.length ≤ c0) (h : lang_text.f k l0 = some r),
  Calls Tryd.prog 30 #[.slice A0 l0.length c0] w fun e w' => e = .returned (.string r) ∧ Below w.heap.size w w' := by
 induction k using Nat.strongRecOn with
 | _ k ih =>
 intro A0 c0 l0 r w hr0 hc0 h
 cases k with
 | zero => exact absurd h (by simp [lang_text.f])
 | succ k =>
 simp only [lang_text.f] at h
 have HR0 := Aside0.mk hr0
 have HC0 := Aside0.mk hc0
 clear hr0 hc0
 have HB := Aside0.mk (Below.refl w.heap.size w)
 have H := h
 unfold lang_text.f at H
 clear h
 obtain ⟨c2, H⟩ : (0 < (l0.length : Int)) ∧ _ := mIf H
 have c2b0 := decide_eq_true c2
 have c2b1 : decide (0 < l0.length) = true := decide_eq_true (by omega)
 clear c2
 by_cases c3 : ((rd_T43 l0 0).f0) = 1
 ·
  rw [if_pos c3] at H
  have c3b0 := beq_iff_eq.mpr c3
  have c3b1 := bne_eq_false_iff_eq.mpr c3
  clear c3
  obtain rfl := Option.some.inj H
  have p125 : 0 ≤ (0 : Int) := (by omega)
  have q125 : 0 < (l0.length : Int) := of_decide_eq_true (by assumption)
  obtain ⟨ad125, e125, hx125_0, hx125_1, hx125_2, hx125_3⟩ := at_T43 HR0.out 0 p125 q125
  cases e125
  have qi125 : (0 < l0.length) = True := eq_true (by omega)
  (try rw [show ((0 : Int)).toNat = 0 from rfl] at hx125_0)
  (try rw [show 0 * 4 = 0 from rfl] at hx125_0)
  (try rw [Addr.add_zero'] at hx125_0)
  (try rw [show ((0 : Int)).toNat = 0 from rfl] at hx125_1)
  (try rw [show 0 * 4 = 0 from rfl] at hx125_1)
  (try rw [Addr.add_zero'] at hx125_1)
  (try rw [show ((0 : Int)).toNat = 0 from rfl] at hx125_2)
  (try rw [show 0 * 4 = 0 from rfl] at hx125_2)
  (try rw [Addr.add_zero'] at hx125_2)
  (try rw [show ((0 : Int)).toNat = 0 from rfl] at hx125_3)
  (try rw [show 0 * 4 = 0 from rfl] at hx125_3)
  (try rw [Addr.add_zero'] at hx125_3)
  replace p125 := eq_true p125
  replace q125 := eq_true q125
  have p126 : 0 ≤ (0 : Int) := (by omega)
  have q126 : 0 < (l0.length : Int) := of_decide_eq_true (by assumption)
  obtain ⟨ad126, e126, hx126_0, hx126_1, hx126_2, hx126_3⟩ := at_T43 HR0.out 0 p126 q126
  obtain rfl : ad125 = ad126 := (by injection e126)
  have qi126 : (0 < l0.length) = True := eq_true (by omega)
  (try rw [show ((0 : Int)).toNat = 0 from rfl] at hx126_0)
  (try rw [show 0 * 4 = 0 from rfl] at hx126_0)
  (try rw [Addr.add_zero'] at hx126_0)
  (try rw [show ((0 : Int)).toNat = 0 from rfl] at hx126_1)
  (try rw [show 0 * 4 = 0 from rfl] at hx126_1)
  (try rw [Addr.add_zero'] at hx126_1)
  (try rw [show ((0 : Int)).toNat = 0 from rfl] at hx126_2)
  (try rw [show 0 * 4 = 0 from rfl] at hx126_2)
  (try rw [Addr.add_zero'] at hx126_2)
  (try rw [show ((0 : Int)).toNat = 0 from rfl] at hx126_3)
  (try rw [show 0 * 4 = 0 from rfl] at hx126_3)
  (try rw [Addr.add_zero'] at hx126_3)
  replace p126 := eq_true p126
  replace q126 := eq_true q126
  go_enter Tryd.func30, Tryd.ntmps30
  go_wp2
  go_ret
  exact ⟨rfl, HB.out⟩
 rw [if_neg c3] at H
 have c3b0 := beq_eq_false_iff_ne.mpr c3
 have c3b1 := bne_iff_ne.mpr c3
 replace H := Option.bind_eq_some_iff.mp H
 obtain ⟨t127, A40, H⟩ := H
 try dsimp only at H
 have A4 := Aside0.mk A40
 clear A40
 have H' := Aside0.mk H
 clear H
 have p125 : 0 ≤ (0 : Int) := (by omega)
 have q125 : 0 < (l0.length : Int) := of_decide_eq_true (by assumption)
 obtain ⟨ad125, e125, hx125_0, hx125_1, hx125_2, hx125_3⟩ := at_T43 HR0.out 0 p125 q125
 cases e125
 have qi125 : (0 < l0.length) = True := eq_true (by omega)
 (try rw [show ((0 : Int)).toNat = 0 from rfl] at hx125_0)
 (try rw [show 0 * 4 = 0 from rfl] at hx125_0)
 (try rw [Addr.add_zero'] at hx125_0)
 (try rw [show ((0 : Int)).toNat = 0 from rfl] at hx125_1)
 (try rw [show 0 * 4 = 0 from rfl] at hx125_1)
 (try rw [Addr.add_zero'] at hx125_1)
 (try rw [show ((0 : Int)).toNat = 0 from rfl] at hx125_2)
 (try rw [show 0 * 4 = 0 from rfl] at hx125_2)
 (try rw [Addr.add_zero'] at hx125_2)
 (try rw [show ((0 : Int)).toNat = 0 from rfl] at hx125_3)
 (try rw [show 0 * 4 = 0 from rfl] at hx125_3)
 (try rw [Addr.add_zero'] at hx125_3)
 replace p125 := eq_true p125
 replace q125 := eq_true q125
 go_enter Tryd.func30, Tryd.ntmps30
 go_wp2_with (first | ((with_reducible refine gate_callee (f := 49) rfl ?_); refine goesL_ (some 16) rfl rfl Tryd.func49 (by kernel_rfl) rfl #[.slice (some ad125) l0.length c0] rfl (mA1 rfl) ?_; (with_reducible refine (lang_arguments.calls k (fun k_ => k_ < w.heap.size) _ _ l0 t127 _ (Kd.V_mk HC0.out (Kd.F_below (Kd.C_F k43_heap HR0.out) HB.out)) A4.out).mono ?_); rintro e w5 ⟨v128, rfl, ho0, hb⟩; refine ⟨_, rfl, ?_⟩; have HO129 := Aside0.mk (Kd.N_lower (Kd.N_mono (ok' := fun k_ => True) ho0 (fun k_ hk_ => trivial)) (below_size HB.out)); replace HB := mSt HB hb; (try clear hb); (try clear ho0); obtain ⟨Ao6, co6, eo6⟩ := Kd.N_slice HO129.out; subst eo6))
 go_loopg [3, 18] k (fun kq v3 v18 w' => ∃ (x3_1 : List ByteArray) (x18_1 : Int), v18 = .int .i64 x18_1 ∧ Aside0 (lang_text.l0 kq l0 x3_1 t127 (t127.length : Int) x18_1 = some r) ∧ Aside0 (kq ≤ k) ∧ Aside0 (Kd.R Kd.string 9 w' w.heap.size (fun _ => True) v3 x3_1) ∧ Aside0 (Kd.N (Kd.slice 43 k43) 22 w' w.heap.size (fun k_ => some k_ ≠ (v3 : Value).ownBlock) (.slice Ao6 t127.length co6) t127) ∧ Aside0 (Below w.heap.size w w'))
 case atStart => exact ⟨(([] : List ByteArray)), (0), rfl, H', ⟨Nat.le_refl _⟩, ⟨by first | exact Kd.R_nil _ _ _ _ _ | exact Kd.N_nil _ _ _ _ _ | exact Kd.V_nil _ _ _ _ _ | exact Kd.Q_nil _ _ _ _ _ | exact Kd.S_nil _ _ _ _ _⟩, ⟨Kd.N_mono HO129.out (fun _ hk => (by simp [Value.ownBlock]))⟩, ⟨HB.out⟩⟩
 case round =>
  clear H' c2b0 c2b1 c3 c3b0 c3b1 hx125_0 hx125_1 hx125_2 hx125_3 p125 q125
  obtain ⟨x3_1, x18_1, rfl, HA, HK1, HO_3, HO_16, HB⟩ := hrel
  cases gk with
  | zero => exact absurd HA.out (by simp [lang_text.l0])
  | succ k1 =>
   have H := HA.out
   clear HA
   simp only [lang_text.l0] at H
   by_cases c7 : x18_1 < (t127.length : Int)
   ·
    rw [if_pos c7] at H
    have c7b0 := decide_eq_true c7
    clear c7
    obtain ⟨c8, H⟩ : (0 ≤ x18_1) ∧ _ := mIf H
    have c8b0 := decide_eq_true c8
    clear c8
    obtain ⟨c9, H⟩ : (x18_1 < (t127.length : Int)) ∧ _ := mIf H
    have c9b0 := decide_eq_true c9
    clear c9
    replace H := Option.bind_eq_some_iff.mp H
    obtain ⟨t131, A100, H⟩ := H
    try dsimp only at H
    have A10 := Aside0.mk A100
    clear A100
    obtain ⟨c11, H⟩ : (x3_1.length < 8796093022208) ∧ _ := mIf H
    have LMc11 := Aside0.mk c11
    clear c11
    obtain ⟨y132, hy132⟩ : ∃ y_ : List ByteArray, y_ = (x3_1 ++ [t131]) := ⟨_, rfl⟩
    rw [← hy132] at H
    have Ny132 := Aside0.mk hy132
    clear hy132
    have H' := Aside0.mk H
    clear H
    have p130 : 0 ≤ (x18_1 : Int) := of_decide_eq_true (by assumption)
    have q130 : x18_1 < (t127.length : Int) := of_decide_eq_true (by assumption)
    obtain ⟨ad130, A130_0, c130_0, e130, hx130_0, hl130_0, hi130_0⟩ := at_L3 (Kd.N_reads' HO_16.out).2.2 x18_1 p130 q130
    cases e130
    obtain ⟨ce130, hce130, hMe130, hcc130⟩ := Kd.N_get HO_16.out [] x18_1 p130 (by first | exact q130 | exact of_decide_eq_true (by assumption) | (have e_ := (Kd.N_reads' HO_16.out).1; omega))
    obtain ⟨ua130_0, uc130_0, rfl, ul130_0, ge130_0⟩ := Kd.FK_slice_open hMe130
    have hv130_0 := hcc130 0 _ rfl
    rw [Nat.add_zero, show ((Kd.slice 43 k43)).sz = 1 from rfl, Nat.mul_one] at hv130_0
    replace hv130_0 := Option.some.inj (hv130_0.symm.trans hx130_0)
    injection hv130_0 with hva_ hvn_ hvc_
    rw [hva_] at ge130_0
    rw [hvc_] at ul130_0
    have HL130_0 := Aside0.mk (show Kd.V k43 43 _ w.heap.size _ _ (rd_L3 t127 x18_1) from Kd.V_mk ul130_0 ge130_0)
    clear hva_ hvn_ hvc_ ge130_0 ul130_0 hcc130 hce130
    have HR130_0 := Aside0.mk hi130_0
    have HC130_0 := Aside0.mk hl130_0
    clear hi130_0 hl130_0
    replace p130 := eq_true p130
    replace q130 := eq_true q130
    go_wp2_with (first | ((with_reducible refine gate_callee (f := 30) rfl ?_); refine goesL_ (some 24) rfl rfl Tryd.func30 (by kernel_rfl) rfl #[.slice A130_0 (rd_L3 t127 x18_1).length c130_0] rfl (mA1 rfl) ?_; (with_reducible refine (ih k1 (by have := HK1.out; omega) _ _ (rd_L3 t127 x18_1) t131 _ ?side1 ?side2 A10.out).mono ?_); (case side1 => repeat (first | exact (by repeat (first | (with_reducible exact HR130_0.out) | (with_reducible refine Kd.C_alloc ?_ _) | (with_reducible refine Kd.C_drewN ?_ _) | (with_reducible refine Kd.C_drew ?_) | exact HR130_0.out)) | (with_reducible refine Kd.C_alloc ?_ _) | (with_reducible refine Kd.C_drewN ?_ _) | (with_reducible refine Kd.C_drew ?_))); (case side2 => exact HC130_0.out); rintro e w12 ⟨rfl, hb⟩; refine ⟨_, rfl, ?_⟩; replace HO_3 := Aside0.mk (Kd.R_below HO_3.out hb); replace HO_16 := Aside0.mk (Kd.N_below HO_16.out hb); replace HL130_0 := Aside0.mk (Kd.V_below HL130_0.out hb); replace HR130_0 := Aside0.mk (Kd.C_below (by repeat (first | (with_reducible exact HR130_0.out) | (with_reducible refine Kd.C_alloc ?_ _) | (with_reducible refine Kd.C_drewN ?_ _) | (with_reducible refine Kd.C_drew ?_) | exact HR130_0.out)) hb); replace HB := mSt HB hb; (try clear hb)) | ((with_reducible refine gate_builtin (b := .append) (xs := #[.tmp 22, .tmp 25]) rfl ?_); at_builtin; refine Kd.R_append Kd.string (w0 := w) w.heap.size rfl (.tmp 22) (.tmp 25) 28 9 (.string ⟨#[]⟩) 16 rfl Tryd.underlying28 info9 rfl (by decide) (by omega) u3 x3_1 t131 [.string t131] (fun _ => True) (fun _ => False) rfl rfl ?aP (fun _ hk => hk.elim) ?aF ?aO ?aB ?aS ?aL ?_; (case aP => exact rfl); (case aB => exact HB.out); (case aF => exact (fun _ _ => trivial)); (case aO => exact HO_3.out); (case aS => exact (below_size HB.out)); (case aL => have := LMc11.out; omega); intro v133 w13 ho hb hg hat; rw [← Ny132.out] at ho; replace HO_16 := Aside0.mk (Kd.N_afterv (ok := (fun _ => True)) (by (with_reducible repeat (first | apply Kd.N_alloc | apply Kd.N_drewN | apply Kd.N_drew)); exact Kd.N_mono HO_16.out (fun _ hk => ⟨trivial, hk⟩)) hg hat); replace HL130_0 := Aside0.mk (Kd.V_afterv (ok := (fun k_ => some k_ ≠ (.slice (some ad130) t127.length co6 : Value).ownBlock)) (by (with_reducible repeat (first | apply Kd.V_alloc | apply Kd.V_drewN | apply Kd.V_drew)); exact Kd.V_mono HL130_0.out (fun _ hk => ⟨hk.2, hk.1⟩)) hg hat); replace HB := Aside0.mk hb; have HO134 := Aside0.mk ho; clear HO_3; clear ho hb hg hat))
    go_roundg k1
    case measure => have := HK1.out; omega
    case rel => exact ⟨(y132), (wrap64 (x18_1 + 1)), rfl, H', ⟨by have := HK1.out; omega⟩, HO134, ⟨Kd.N_mono HO_16.out (fun _ hk => hk.2)⟩, ⟨HB.out⟩⟩
   rw [if_neg c7] at H
   have c7b0 := decide_eq_false c7
   clear c7
   obtain ⟨c14, H⟩ : (0 < (l0.length : Int)) ∧ _ := mIf H
   have c14b0 := decide_eq_true c14
   have c14b1 : decide (0 < l0.length) = true := decide_eq_true (by omega)
   clear c14
   replace H := Option.bind_eq_some_iff.mp H
   obtain ⟨t136, A150, H⟩ := H
   try dsimp only at H
   have A15 := Aside0.mk A150
   clear A150
   by_cases c16 : t136 = true
   rotate_left
   ·
    replace c16 := Bool.eq_false_iff.mpr c16
    subst c16
    rw [if_neg (show ¬ (false = true) by decide)] at H
    replace H := Option.bind_eq_some_iff.mp H
    obtain ⟨t146, A270, H⟩ := H
    try dsimp only at H
    have A27 := Aside0.mk A270
    clear A270
    obtain ⟨c28, H⟩ : (t146.size + 1 ≤ 9223372036854775807) ∧ _ := mIf H
    have c28b0 := eq_true c28
    have c28b1 := decide_eq_true c28
    try have c28b2 : (9223372036854775807 < t146.size + 1) = False := eq_false (Nat.not_lt.2 c28)
    replace H := Option.bind_eq_some_iff.mp H
    obtain ⟨t147, A290, H⟩ := H
    try dsimp only at H
    have A29 := Aside0.mk A290
    clear A290
    obtain ⟨c30, H⟩ : ((t146 ++ (⟨#[40]⟩ : ByteArray)).size + t147.size ≤ 9223372036854775807) ∧ _ := mIf H
    have c30b0 := eq_true c30
    have c30b1 := decide_eq_true c30
    try (have c30b1s := c30b1; simp only [ByteArray.size_append, Int.natCast_add, show (⟨#[40]⟩ : ByteArray).size = 1 from rfl, show ((1 : Nat) : Int) = 1 from rfl] at c30b1s)
    try have c30b2 : (9223372036854775807 < (t146 ++ (⟨#[40]⟩ : ByteArray)).size + t147.size) = False := eq_false (Nat.not_lt.2 c30)
    try (have c30b9 := c30b2; simp only [ByteArray.size_append, show (⟨#[40]⟩ : ByteArray).size = 1 from rfl] at c30b9)
    obtain ⟨c31, H⟩ : (((t146 ++ (⟨#[40]⟩ : ByteArray)) ++ t147).size + 1 ≤ 9223372036854775807) ∧ _ := mIf H
    have c31b0 := eq_true c31
    have c31b1 := decide_eq_true c31
    try (have c31b1s := c31b1; simp only [ByteArray.size_append, Int.natCast_add, show (⟨#[40]⟩ : ByteArray).size = 1 from rfl, show ((1 : Nat) : Int) = 1 from rfl] at c31b1s)
    try have c31b2 : (9223372036854775807 < ((t146 ++ (⟨#[40]⟩ : ByteArray)) ++ t147).size + 1) = False := eq_false (Nat.not_lt.2 c31)
    try (have c31b9 := c31b2; simp only [ByteArray.size_append, show (⟨#[40]⟩ : ByteArray).size = 1 from rfl] at c31b9)
    obtain rfl := Option.some.inj H
    have p135 : 0 ≤ (0 : Int) := (by omega)
    have q135 : 0 < (l0.length : Int) := of_decide_eq_true (by assumption)
    obtain ⟨ad135, e135, hx135_0, hx135_1, hx135_2, hx135_3⟩ := at_T43 HR0.out 0 p135 q135
    obtain rfl : ad125 = ad135 := (by injection e135)
    have qi135 : (0 < l0.length) = True := eq_true (by omega)
    (try rw [show ((0 : Int)).toNat = 0 from rfl] at hx135_0)
    (try rw [show 0 * 4 = 0 from rfl] at hx135_0)
    (try rw [Addr.add_zero'] at hx135_0)
    (try rw [show ((0 : Int)).toNat = 0 from rfl] at hx135_1)
    (try rw [show 0 * 4 = 0 from rfl] at hx135_1)
    (try rw [Addr.add_zero'] at hx135_1)
    (try rw [show ((0 : Int)).toNat = 0 from rfl] at hx135_2)
    (try rw [show 0 * 4 = 0 from rfl] at hx135_2)
    (try rw [Addr.add_zero'] at hx135_2)
    (try rw [show ((0 : Int)).toNat = 0 from rfl] at hx135_3)
    (try rw [show 0 * 4 = 0 from rfl] at hx135_3)
    (try rw [Addr.add_zero'] at hx135_3)
    replace hx135_0 := mHx HB hx135_0
    replace hx135_1 := mHx HB hx135_1
    replace hx135_2 := mHx HB hx135_2
    replace hx135_3 := mHx HB hx135_3
    replace p135 := eq_true p135
    replace q135 := eq_true q135
    go_wp2_with (first | ((with_reducible refine gate_callee (f := 50) rfl ?_); refine goesL_ (some 32) rfl rfl Tryd.func50 (by kernel_rfl) rfl #[.int .i64 ((rd_T43 l0 0).f0)] rfl (mA1 rfl) ?_; (with_reducible refine (lang_numbered.calls ((rd_T43 l0 0).f0) false _ A15.out).mono ?_); rintro e w' ⟨rfl, ⟨nd, rfl⟩⟩; refine ⟨_, rfl, ?_⟩; have p145 : 0 ≤ (0 : Int) := (by omega); have q145 : 0 < (l0.length : Int) := of_decide_eq_true (by assumption); obtain ⟨ad145, e145, hx145_0, hx145_1, hx145_2, hx145_3⟩ := at_T43 HR0.out 0 p145 q145; obtain rfl : ad125 = ad145 := (by injection e145); have qi145 : (0 < l0.length) = True := eq_true (by omega); (try rw [show ((0 : Int)).toNat = 0 from rfl] at hx145_0); (try rw [show 0 * 4 = 0 from rfl] at hx145_0); (try rw [Addr.add_zero'] at hx145_0); (try rw [show ((0 : Int)).toNat = 0 from rfl] at hx145_1); (try rw [show 0 * 4 = 0 from rfl] at hx145_1); (try rw [Addr.add_zero'] at hx145_1); (try rw [show ((0 : Int)).toNat = 0 from rfl] at hx145_2); (try rw [show 0 * 4 = 0 from rfl] at hx145_2); (try rw [Addr.add_zero'] at hx145_2); (try rw [show ((0 : Int)).toNat = 0 from rfl] at hx145_3); (try rw [show 0 * 4 = 0 from rfl] at hx145_3); (try rw [Addr.add_zero'] at hx145_3); replace hx145_0 := mHx HB hx145_0; replace hx145_1 := mHx HB hx145_1; replace hx145_2 := mHx HB hx145_2; replace hx145_3 := mHx HB hx145_3; replace p145 := eq_true p145; replace q145 := eq_true q145) | ((with_reducible refine gate_callee (f := 52) rfl ?_); refine goesL_ (some 45) rfl rfl Tryd.func52 (by kernel_rfl) rfl #[.int .i64 ((rd_T43 l0 0).f0)] rfl (mA1 rfl) ?_; (with_reducible refine (lang_word.calls ((rd_T43 l0 0).f0) t146 _ A27.out).mono ?_); rintro e w' ⟨rfl, ⟨nd, rfl⟩⟩; refine ⟨_, rfl, ?_⟩; obtain ⟨Ao32, co32, eo32⟩ := Kd.R_slice HO_3.out; subst eo32) | ((with_reducible refine gate_callee (f := 53) rfl ?_); refine goesL_ (some 48) rfl rfl Tryd.func53 (by kernel_rfl) rfl #[.slice Ao32 x3_1.length co32, .string (⟨#[44, 32]⟩ : ByteArray)] rfl (mA2 rfl rfl) ?_; (with_reducible refine (strings_Join.calls _ _ x3_1 (⟨#[44, 32]⟩ : ByteArray) t147 _ (cO (Kd.R_reads' HO_3.out).2.2) ((Kd.R_reads' HO_3.out).2.1) A29.out).mono ?_); rintro e w33 ⟨rfl, hb⟩; refine ⟨_, rfl, ?_⟩; replace HO_3 := Aside0.mk (Kd.R_below (rO HO_3) hb); replace HO_16 := Aside0.mk (Kd.N_below (by (with_reducible repeat (first | apply Kd.N_alloc | apply Kd.N_drewN | apply Kd.N_drew)); exact HO_16.out) hb); replace HB := mSx HB hb; (try clear hb)))
    go_ret
    exact ⟨rfl, HB.out⟩
   subst c16
   rw [if_pos rfl] at H
   replace H := Option.bind_eq_some_iff.mp H
   obtain ⟨t138, A170, H⟩ := H
   try dsimp only at H
   have A17 := Aside0.mk A170
   clear A170
   obtain ⟨c18, H⟩ : (x3_1.length < 8796093022208) ∧ _ := mIf H
   have LMc18 := Aside0.mk c18
   clear c18
   obtain ⟨y139, hy139⟩ : ∃ y_ : List ByteArray, y_ = (x3_1 ++ [t138]) := ⟨_, rfl⟩
   rw [← hy139] at H
   have Ny139 := Aside0.mk hy139
   clear hy139
   replace H := Option.bind_eq_some_iff.mp H
   obtain ⟨t143, A190, H⟩ := H
   try dsimp only at H
   have A19 := Aside0.mk A190
   clear A190
   obtain ⟨c20, H⟩ : (t143.size + 1 ≤ 9223372036854775807) ∧ _ := mIf H
   have c20b0 := eq_true c20
   have c20b1 := decide_eq_true c20
   try have c20b2 : (9223372036854775807 < t143.size + 1) = False := eq_false (Nat.not_lt.2 c20)
   replace H := Option.bind_eq_some_iff.mp H
   obtain ⟨t144, A210, H⟩ := H
   try dsimp only at H
   have A21 := Aside0.mk A210
   clear A210
   obtain ⟨c22, H⟩ : ((t143 ++ (⟨#[40]⟩ : ByteArray)).size + t144.size ≤ 9223372036854775807) ∧ _ := mIf H
   have c22b0 := eq_true c22
   have c22b1 := decide_eq_true c22
   try (have c22b1s := c22b1; simp only [ByteArray.size_append, Int.natCast_add, show (⟨#[40]⟩ : ByteArray).size = 1 from rfl, show ((1 : Nat) : Int) = 1 from rfl] at c22b1s)
   try have c22b2 : (9223372036854775807 < (t143 ++ (⟨#[40]⟩ : ByteArray)).size + t144.size) = False := eq_false (Nat.not_lt.2 c22)
   try (have c22b9 := c22b2; simp only [ByteArray.size_append, show (⟨#[40]⟩ : ByteArray).size = 1 from rfl] at c22b9)
   obtain ⟨c23, H⟩ : (((t143 ++ (⟨#[40]⟩ : ByteArray)) ++ t144).size + 1 ≤ 9223372036854775807) ∧ _ := mIf H
   have c23b0 := eq_true c23
   have c23b1 := decide_eq_true c23
   try (have c23b1s := c23b1; simp only [ByteArray.size_append, Int.natCast_add, show (⟨#[40]⟩ : ByteArray).size = 1 from rfl, show ((1 : Nat) : Int) = 1 from rfl] at c23b1s)
   try have c23b2 : (9223372036854775807 < ((t143 ++ (⟨#[40]⟩ : ByteArray)) ++ t144).size + 1) = False := eq_false (Nat.not_lt.2 c23)
   try (have c23b9 := c23b2; simp only [ByteArray.size_append, show (⟨#[40]⟩ : ByteArray).size = 1 from rfl] at c23b9)
   obtain rfl := Option.some.inj H
   have p135 : 0 ≤ (0 : Int) := (by omega)
   have q135 : 0 < (l0.length : Int) := of_decide_eq_true (by assumption)
   obtain ⟨ad135, e135, hx135_0, hx135_1, hx135_2, hx135_3⟩ := at_T43 HR0.out 0 p135 q135
   obtain rfl : ad125 = ad135 := (by injection e135)
   have qi135 : (0 < l0.length) = True := eq_true (by omega)
   (try rw [show ((0 : Int)).toNat = 0 from rfl] at hx135_0)
   (try rw [show 0 * 4 = 0 from rfl] at hx135_0)
   (try rw [Addr.add_zero'] at hx135_0)
   (try rw [show ((0 : Int)).toNat = 0 from rfl] at hx135_1)
   (try rw [show 0 * 4 = 0 from rfl] at hx135_1)
   (try rw [Addr.add_zero'] at hx135_1)
   (try rw [show ((0 : Int)).toNat = 0 from rfl] at hx135_2)
   (try rw [show 0 * 4 = 0 from rfl] at hx135_2)
   (try rw [Addr.add_zero'] at hx135_2)
   (try rw [show ((0 : Int)).toNat = 0 from rfl] at hx135_3)
   (try rw [show 0 * 4 = 0 from rfl] at hx135_3)
   (try rw [Addr.add_zero'] at hx135_3)
   replace hx135_0 := mHx HB hx135_0
   replace hx135_1 := mHx HB hx135_1
   replace hx135_2 := mHx HB hx135_2
   replace hx135_3 := mHx HB hx135_3
   replace p135 := eq_true p135
   replace q135 := eq_true q135
   go_wp2_with (first | ((with_reducible refine gate_callee (f := 50) rfl ?_); refine goesL_ (some 32) rfl rfl Tryd.func50 (by kernel_rfl) rfl #[.int .i64 ((rd_T43 l0 0).f0)] rfl (mA1 rfl) ?_; (with_reducible refine (lang_numbered.calls ((rd_T43 l0 0).f0) true _ A15.out).mono ?_); rintro e w' ⟨rfl, ⟨nd, rfl⟩⟩; refine ⟨_, rfl, ?_⟩; have p137 : 0 ≤ (0 : Int) := (by omega); have q137 : 0 < (l0.length : Int) := of_decide_eq_true (by assumption); obtain ⟨ad137, e137, hx137_0, hx137_1, hx137_2, hx137_3⟩ := at_T43 HR0.out 0 p137 q137; obtain rfl : ad125 = ad137 := (by injection e137); have qi137 : (0 < l0.length) = True := eq_true (by omega); (try rw [show ((0 : Int)).toNat = 0 from rfl] at hx137_0); (try rw [show 0 * 4 = 0 from rfl] at hx137_0); (try rw [Addr.add_zero'] at hx137_0); (try rw [show ((0 : Int)).toNat = 0 from rfl] at hx137_1); (try rw [show 0 * 4 = 0 from rfl] at hx137_1); (try rw [Addr.add_zero'] at hx137_1); (try rw [show ((0 : Int)).toNat = 0 from rfl] at hx137_2); (try rw [show 0 * 4 = 0 from rfl] at hx137_2); (try rw [Addr.add_zero'] at hx137_2); (try rw [show ((0 : Int)).toNat = 0 from rfl] at hx137_3); (try rw [show 0 * 4 = 0 from rfl] at hx137_3); (try rw [Addr.add_zero'] at hx137_3); replace hx137_0 := mHx HB hx137_0; replace hx137_1 := mHx HB hx137_1; replace hx137_2 := mHx HB hx137_2; replace hx137_3 := mHx HB hx137_3; replace p137 := eq_true p137; replace q137 := eq_true q137) | ((with_reducible refine gate_callee (f := 51) rfl ?_); refine goesL_ (some 38) rfl rfl Tryd.func51 (by kernel_rfl) rfl #[.int .i64 ((rd_T43 l0 0).f2)] rfl (mA1 rfl) ?_; (with_reducible refine (strconv_Itoa.calls ((rd_T43 l0 0).f2) t138 _ A17.out).mono ?_); rintro e w' ⟨rfl, ⟨nd, rfl⟩⟩; refine ⟨_, rfl, ?_⟩) | ((with_reducible refine gate_builtin (b := .append) (xs := #[.tmp 33, .tmp 39]) rfl ?_); at_builtin; refine Kd.R_append Kd.string (w0 := w) w.heap.size rfl (.tmp 33) (.tmp 39) 28 9 (.string ⟨#[]⟩) 16 rfl Tryd.underlying28 info9 rfl (by decide) (by omega) u3 x3_1 t138 [.string t138] (fun _ => True) (fun _ => False) rfl rfl ?aP (fun _ hk => hk.elim) ?aF ?aO ?aB ?aS ?aL ?_; (case aP => exact rfl); (case aB => exact (hO HB)); (case aF => exact (fun _ _ => trivial)); (case aO => exact (rO HO_3)); (case aS => exact (below_size (hO HB))); (case aL => have := LMc18.out; omega); intro v140 w24 ho hb hg hat; rw [← Ny139.out] at ho; replace HO_16 := Aside0.mk (Kd.N_afterv (ok := (fun _ => True)) (by (with_reducible repeat (first | apply Kd.N_alloc | apply Kd.N_drewN | apply Kd.N_drew)); exact Kd.N_mono HO_16.out (fun _ hk => ⟨trivial, hk⟩)) hg hat); replace HB := Aside0.mk hb; have HO141 := Aside0.mk ho; clear HO_3; clear ho hb hg hat; have p142 : 0 ≤ (0 : Int) := (by omega); have q142 : 0 < (l0.length : Int) := of_decide_eq_true (by assumption); obtain ⟨ad142, e142, hx142_0, hx142_1, hx142_2, hx142_3⟩ := at_T43 HR0.out 0 p142 q142; obtain rfl : ad125 = ad142 := (by injection e142); have qi142 : (0 < l0.length) = True := eq_true (by omega); (try rw [show ((0 : Int)).toNat = 0 from rfl] at hx142_0); (try rw [show 0 * 4 = 0 from rfl] at hx142_0); (try rw [Addr.add_zero'] at hx142_0); (try rw [show ((0 : Int)).toNat = 0 from rfl] at hx142_1); (try rw [show 0 * 4 = 0 from rfl] at hx142_1); (try rw [Addr.add_zero'] at hx142_1); (try rw [show ((0 : Int)).toNat = 0 from rfl] at hx142_2); (try rw [show 0 * 4 = 0 from rfl] at hx142_2); (try rw [Addr.add_zero'] at hx142_2); (try rw [show ((0 : Int)).toNat = 0 from rfl] at hx142_3); (try rw [show 0 * 4 = 0 from rfl] at hx142_3); (try rw [Addr.add_zero'] at hx142_3); replace hx142_0 := mHx HB hx142_0; replace hx142_1 := mHx HB hx142_1; replace hx142_2 := mHx HB hx142_2; replace hx142_3 := mHx HB hx142_3; replace p142 := eq_true p142; replace q142 := eq_true q142) | ((with_reducible refine gate_callee (f := 52) rfl ?_); refine goesL_ (some 45) rfl rfl Tryd.func52 (by kernel_rfl) rfl #[.int .i64 ((rd_T43 l0 0).f0)] rfl (mA1 rfl) ?_; (with_reducible refine (lang_word.calls ((rd_T43 l0 0).f0) t143 _ A19.out).mono ?_); rintro e w' ⟨rfl, ⟨nd, rfl⟩⟩; refine ⟨_, rfl, ?_⟩; obtain ⟨Ao25, co25, eo25⟩ := Kd.R_slice HO141.out; subst eo25) | ((with_reducible refine gate_callee (f := 53) rfl ?_); refine goesL_ (some 48) rfl rfl Tryd.func53 (by kernel_rfl) rfl #[.slice Ao25 y139.length co25, .string (⟨#[44, 32]⟩ : ByteArray)] rfl (mA2 rfl rfl) ?_; (with_reducible refine (strings_Join.calls _ _ y139 (⟨#[44, 32]⟩ : ByteArray) t144 _ (cO (Kd.R_reads' HO141.out).2.2) ((Kd.R_reads' HO141.out).2.1) A21.out).mono ?_); rintro e w26 ⟨rfl, hb⟩; refine ⟨_, rfl, ?_⟩; replace HO_16 := Aside0.mk (Kd.N_below (by (with_reducible repeat (first | apply Kd.N_alloc | apply Kd.N_drewN | apply Kd.N_drew)); exact HO_16.out) hb); replace HO141 := Aside0.mk (Kd.R_below (rO HO141) hb); replace HB := mSx HB hb; (try clear hb)))
   go_ret
   exact ⟨rfl, HB.out⟩
def lang_Print.f (k : Nat) (l0 : List (S43)) : Option (ByteArray × Int) := (lang_Check.f k l0).bind fun t148 => (if t148 = 0 then ((lang_text.f k l0).bind fun t149 => (some (t149, 0))) else (some ((⟨#[]⟩ : ByteArray), t148)))
set_option maxHeartbeats 8000000 in
set_option maxRecDepth 100000 in
theorem lang_Print.calls (k : Nat) (A0 : Option Addr) (c0 : Nat) (l0 : List (S43)) (r1 : ByteArray) (r2 : Int) (w : World) (hr0 : Kd.C k43 w A0 l0.length l0) (hc0 : l0.length ≤ c0) (hmx : Mx w) (h : lang_Print.f k l0 = some (r1, r2)) :
  Calls Tryd.prog 12 #[.slice A0 l0.length c0] w fun e w' => e = .returned (.tuple #[.string r1, .int .i64 r2]) ∧ Below w.heap.size w w' := by
 have HMX_ := Aside0.mk hmx
 clear hmx
 have HR0 := Aside0.mk hr0
 have HC0 := Aside0.mk hc0
 clear hr0 hc0
 have HB := Aside0.mk (Below.refl w.heap.size w)
 have H := h
 unfold lang_Print.f at H
 clear h
 replace H := Option.bind_eq_some_iff.mp H
 obtain ⟨t148, A20, H⟩ := H
 try dsimp only at H
 have A2 := Aside0.mk A20
 clear A20
 by_cases c3 : t148 = 0
 rotate_left
 ·
  rw [if_neg c3] at H
  have c3b0 := beq_eq_false_iff_ne.mpr c3
  have c3b1 := bne_iff_ne.mpr c3
  simp only [Option.some.injEq, Prod.mk.injEq] at H
  obtain ⟨rfl, rfl⟩ := H
  go_enter Tryd.func12, Tryd.ntmps12
  go_wp2_with (first | ((with_reducible refine gate_callee (f := 16) rfl ?_); refine goesL_ (some 6) rfl rfl Tryd.func16 (by kernel_rfl) rfl #[.slice A0 l0.length c0] rfl (mA1 rfl) ?_; (with_reducible refine (lang_Check.calls k _ _ l0 t148 _ HR0.out HC0.out (Mx.below HMX_.out HB.out) A2.out).mono ?_); rintro e w7 ⟨rfl, hb⟩; refine ⟨_, rfl, ?_⟩; replace HB := mSt HB hb; (try clear hb)))
  go_ret2
  exact ⟨rfl, HB.out⟩
 rw [if_pos c3] at H
 have c3b0 := beq_iff_eq.mpr c3
 have c3b1 := bne_eq_false_iff_eq.mpr c3
 clear c3
 replace H := Option.bind_eq_some_iff.mp H
 obtain ⟨t149, A40, H⟩ := H
 try dsimp only at H
 have A4 := Aside0.mk A40
 clear A40
 simp only [Option.some.injEq, Prod.mk.injEq] at H
 obtain ⟨rfl, rfl⟩ := H
 go_enter Tryd.func12, Tryd.ntmps12
 go_wp2_with (first | ((with_reducible refine gate_callee (f := 16) rfl ?_); refine goesL_ (some 6) rfl rfl Tryd.func16 (by kernel_rfl) rfl #[.slice A0 l0.length c0] rfl (mA1 rfl) ?_; (with_reducible refine (lang_Check.calls k _ _ l0 t148 _ HR0.out HC0.out (Mx.below HMX_.out HB.out) A2.out).mono ?_); rintro e w5 ⟨rfl, hb⟩; refine ⟨_, rfl, ?_⟩; replace HB := mSt HB hb; (try clear hb)) | ((with_reducible refine gate_callee (f := 30) rfl ?_); refine goesL_ (some 11) rfl rfl Tryd.func30 (by kernel_rfl) rfl #[.slice A0 l0.length c0] rfl (mA1 rfl) ?_; (with_reducible refine (lang_text.calls k _ _ l0 t149 _ (Kd.C_below HR0.out HB.out) HC0.out A4.out).mono ?_); rintro e w6 ⟨rfl, hb⟩; refine ⟨_, rfl, ?_⟩; replace HB := mSt HB hb; (try clear hb)))
 go_ret2
 exact ⟨rfl, HB.out⟩
def slices_Index_string_string.l0 : Nat → List ByteArray → ByteArray → Int → Int → Option (Int)
 | 0, _, _, _, _ => none
 | k + 1, x0, x1, x7, x8 => if x8 < x7 then (if 0 ≤ x8 then (if x8 < (x0.length : Int) then (if x1.toList = (rdOf ByteArray.empty x0 x8).toList then (some x8) else (slices_Index_string_string.l0 k x0 x1 x7 (wrap64 (x8 + 1)))) else (none)) else (none)) else (some (-1))
def slices_Index_string_string.f (k : Nat) (l0 : List ByteArray) (a1 : ByteArray) : Option (Int) := slices_Index_string_string.l0 k l0 a1 (l0.length : Int) 0
set_option maxHeartbeats 8000000 in
set_option maxRecDepth 100000 in
theorem slices_Index_string_string.calls (k : Nat) (A0 : Option Addr) (c0 : Nat) (l0 : List ByteArray) (a1 : ByteArray) (r : Int) (w : World) (hr0 : Kd.C Kd.string w A0 l0.length l0) (hc0 : l0.length ≤ c0) (h : slices_Index_string_string.f k l0 a1 = some r) :
  Calls Tryd.prog 46 #[.slice A0 l0.length c0, .string a1] w fun e w' => e = .returned (.int .i64 r) ∧ Drawn0 w w' := by
 have HR0 := Aside0.mk hr0
 have HC0 := Aside0.mk hc0
 clear hr0 hc0
 have H := h
 unfold slices_Index_string_string.f at H
 clear h
 have H' := Aside0.mk H
 clear H
 go_enter Tryd.func46, Tryd.ntmps46
 go_wp2
 go_loopg [8] k (fun kq v8 w' => ∃ (x8_1 : Int), v8 = .int .i64 x8_1 ∧ Aside0 (slices_Index_string_string.l0 kq l0 a1 (l0.length : Int) x8_1 = some r) ∧ Aside0 (kq ≤ k) ∧ Drawn0 w w')
 case atStart => exact ⟨(0), rfl, H', ⟨Nat.le_refl _⟩, by repeat (first | exact Drawn0.refl _ | apply Drawn0.step)⟩
 case round =>
  clear H'
  obtain ⟨x8_1, rfl, HA, HK1, ⟨m1, rfl⟩⟩ := hrel
  cases gk with
  | zero => exact absurd HA.out (by simp [slices_Index_string_string.l0])
  | succ k1 =>
   have H := HA.out
   clear HA
   simp only [slices_Index_string_string.l0] at H
   by_cases c3 : x8_1 < (l0.length : Int)
   rotate_left
   ·
    rw [if_neg c3] at H
    have c3b0 := decide_eq_false c3
    clear c3
    obtain rfl := Option.some.inj H
    go_wp2
    go_ret
    exact ⟨by first | rfl | (simp; done) | (simp [*]; done), by repeat (first | exact Drawn0.refl _ | apply Drawn0.step)⟩
   rw [if_pos c3] at H
   have c3b0 := decide_eq_true c3
   clear c3
   obtain ⟨c4, H⟩ : (0 ≤ x8_1) ∧ _ := mIf H
   have c4b0 := decide_eq_true c4
   clear c4
   obtain ⟨c5, H⟩ : (x8_1 < (l0.length : Int)) ∧ _ := mIf H
   have c5b0 := decide_eq_true c5
   clear c5
   by_cases c6 : a1.toList = (rdOf ByteArray.empty l0 x8_1).toList
   ·
    rw [if_pos c6] at H
    have c6b0 := beq_iff_eq.mpr c6
    have c6b1 := bne_eq_false_iff_eq.mpr c6
    clear c6
    obtain rfl := Option.some.inj H
    have p150 : 0 ≤ (x8_1 : Int) := of_decide_eq_true (by assumption)
    have q150 : x8_1 < (l0.length : Int) := of_decide_eq_true (by assumption)
    obtain ⟨ad150, e150, hx150_0⟩ := Kd.at_string HR0.out x8_1 p150 q150
    cases e150
    replace p150 := eq_true p150
    replace q150 := eq_true q150
    go_wp2
    go_ret
    exact ⟨by first | rfl | (simp; done) | (simp [*]; done), by repeat (first | exact Drawn0.refl _ | apply Drawn0.step)⟩
   rw [if_neg c6] at H
   have c6b0 := beq_eq_false_iff_ne.mpr c6
   have c6b1 := bne_iff_ne.mpr c6
   have H' := Aside0.mk H
   clear H
   have p150 : 0 ≤ (x8_1 : Int) := of_decide_eq_true (by assumption)
   have q150 : x8_1 < (l0.length : Int) := of_decide_eq_true (by assumption)
   obtain ⟨ad150, e150, hx150_0⟩ := Kd.at_string HR0.out x8_1 p150 q150
   cases e150
   replace p150 := eq_true p150
   replace q150 := eq_true q150
   go_wp2
   go_roundg k1
   case measure => have := HK1.out; omega
   case rel => exact ⟨(wrap64 (x8_1 + 1)), rfl, H', ⟨by have := HK1.out; omega⟩, by repeat (first | exact Drawn0.refl _ | apply Drawn0.step)⟩
def slices_Contains_string_string.f (k : Nat) (l0 : List ByteArray) (a1 : ByteArray) : Option (Bool) := (slices_Index_string_string.f k l0 a1).bind fun t151 => (some (decide (t151 ≥ 0)))
set_option maxHeartbeats 8000000 in
set_option maxRecDepth 100000 in
theorem slices_Contains_string_string.calls (k : Nat) (A0 : Option Addr) (c0 : Nat) (l0 : List ByteArray) (a1 : ByteArray) (r : Bool) (w : World) (hr0 : Kd.C Kd.string w A0 l0.length l0) (hc0 : l0.length ≤ c0) (h : slices_Contains_string_string.f k l0 a1 = some r) :
  Calls Tryd.prog 32 #[.slice A0 l0.length c0, .string a1] w fun e w' => e = .returned (.bool r) ∧ Drawn0 w w' := by
 have HR0 := Aside0.mk hr0
 have HC0 := Aside0.mk hc0
 clear hr0 hc0
 have H := h
 unfold slices_Contains_string_string.f at H
 clear h
 replace H := Option.bind_eq_some_iff.mp H
 obtain ⟨t151, A30, H⟩ := H
 try dsimp only at H
 have A3 := Aside0.mk A30
 clear A30
 obtain rfl := Option.some.inj H
 go_enter Tryd.func32, Tryd.ntmps32
 go_wp2_with (first | ((with_reducible refine gate_callee (f := 46) rfl ?_); refine goesL_ (some 7) rfl rfl Tryd.func46 (by kernel_rfl) rfl #[.slice A0 l0.length c0, .string a1] rfl (mA2 rfl rfl) ?_; (with_reducible refine (slices_Index_string_string.calls k _ _ l0 a1 t151 _ HR0.out HC0.out A3.out).mono ?_); rintro e w' ⟨rfl, ⟨nd, rfl⟩⟩; refine ⟨_, rfl, ?_⟩))
 go_ret
 exact ⟨by first | rfl | (simp; done) | (simp [*]; done), by repeat (first | exact Drawn0.refl _ | apply Drawn0.step)⟩
end Go.Proofs.YtimikhbnihedkaaDoor.PAll
