-- Written by wip/tools/handprint.py: walks of the functions that the law reaches; Lean checks them.
import Derived.Deep.MidRow
import Derived.Test.YtjppjppapdflmaaPAllx0
import Derived.Test.YtjppjppapdflmaaRPg
import Derived.Test.YtjppjppapdflmaaPAllf15
import Derived.Test.YtjppjppapdflmaaPAllf18
import Derived.Test.YtjppjppapdflmaaPAllf24
import Derived.Test.YtjppjppapdflmaaRMi
import Derived.Test.YtjppjppapdflmaaMiniU
namespace Go.Proofs.Ytjppjppapdflmaa.PAll
open Go.RowKit Go.Proofs.YtjppjppapdflmaaW.PrintWords Go.Proofs.YtjppjppapdflmaaW.PrintLast Go.Proofs.YtjppjppapdflmaaW.PrintMore
attribute [local go_sem] max2_int min2_int max_two min_two max_three min_three max_four min_four   -- for this text's walks alone
set_option linter.unusedVariables false
set_option linter.unusedSimpArgs false

theorem list24 {xs : List Int} (h : xs.length = 24) : xs = (List.range 24).map (fun (i : Nat) => rdOf 0 xs (i : Int)) := by
  apply List.ext_getElem
  · simp [h]
  · intro i h1 h2
    rw [List.getElem_map, List.getElem_range]; unfold rdOf; rw [List.getD_eq_getElem?_getD, Int.toNat_natCast, List.getElem?_eq_getElem h1]; rfl
theorem wpList_load_midG {P : Program} {ops : Array Oper} {rest : List Oper} {op : Oper} {a : Act} {w : World} {Q : Exit → Act → World → Prop} (hgd : Region.wanted op (yielded ops a.tmps) = true) (ty : TypeId) (x : Operand) (ho : op.op = .load ty x)
    (b o : Nat) (hx : a.eval x = .pointer (some ⟨b, o, none⟩)) (cs : List Value) (d : TypeDesc) (hc : w.rangeAt b o cs)
    (hu : P.underlying ty = some d) (hd : d.isRow = true) (hi : (P.info? ty).map (·.size) = some cs.length)
    (h : wpList P ops Q rest (a.put op.dst (.agg cs.toArray)) w) : wpList P ops Q (op :: rest) a w := by
  simp only [wpList, hgd, if_true]
  exact Or.inl (wp_load_mid ty x ho b o hx cs d hc hu hd hi h)
theorem mid_of {w : World} {g base n c t : Nat} {ok : Nat → Prop} {xs : List Int} (h : (Kd.int .i64).R t w base ok (.slice (some ⟨g, 0, none⟩) n c) xs) : w.rangeAt g 0 (xs.map (Value.int .i64)) := by
  intro j v hv
  rw [List.getElem?_map] at hv
  obtain ⟨x, hx, rfl⟩ := Option.map_eq_some_iff.mp hv
  have hn : n = xs.length := (Kd.R_reads' h).1
  have hj : j < xs.length := (List.getElem?_eq_some_iff.1 hx).1
  have := (Kd.R_celln 0 h (j : Int) (by omega) (by omega)).1
  rw [Int.toNat_natCast] at this
  rw [Nat.zero_add, this]; unfold rdOf; rw [List.getD_eq_getElem?_getD, Int.toNat_natCast, hx]; rfl
/-! ### dancestudiolaw50_RehearseNobody: function 7 -/
mutual
def dancestudiolaw50_RehearseNobody.j0 : Nat → List (S48) → Int → Bool → List (S53) → List (S55) → List (S59) → Int → Option (Bool)
 | 0, _, _, _, _, _, _, _ => none
 | k + 1, x1, x2, x31, x613000, x613001, x613002, x613003 => if x31 = true then (none) else (if 24 ≤ 35184372088832 then (if 4 ≤ 35184372088832 then (dancestudiolaw50_RehearseNobody.l0 k x1 x2 (List.replicate 24 0) (List.replicate 4 0) 0 x613000 x613001 x613002 x613003) else (none)) else (none))
def dancestudiolaw50_RehearseNobody.l0 : Nat → List (S48) → Int → List Int → List Int → Int → List (S53) → List (S55) → List (S59) → Int → Option (Bool)
 | 0, _, _, _, _, _, _, _, _, _ => none
 | k + 1, x1, x2, x7, x8, x9, x613000, x613001, x613002, x613003 => if x9 < (x1.length : Int) then (if 0 ≤ x9 then (if x9 < (x613000.length : Int) then (if ((rd_T48 x1 x9).f0) = x9 then (if ((rd_T48 x1 x9).f2) < 0 then (dancestudiolaw50_RehearseNobody.j2 k x1 x2 x7 x8 x9 true x613000 x613001 x613002 x613003 ((rd_T53 x613000 x9).f0) ((rd_T53 x613000 x9).f1) ((rd_T53 x613000 x9).f2)) else (if ((rd_T48 x1 x9).f2) > (wrap64 (x613003 - ((rd_T53 x613000 x9).f1))) then (dancestudiolaw50_RehearseNobody.j2 k x1 x2 x7 x8 x9 true x613000 x613001 x613002 x613003 ((rd_T53 x613000 x9).f0) ((rd_T53 x613000 x9).f1) ((rd_T53 x613000 x9).f2)) else (if ((rd_T48 x1 x9).f1) < 0 then (dancestudiolaw50_RehearseNobody.j2 k x1 x2 x7 x8 x9 true x613000 x613001 x613002 x613003 ((rd_T53 x613000 x9).f0) ((rd_T53 x613000 x9).f1) ((rd_T53 x613000 x9).f2)) else (if ((rd_T48 x1 x9).f1) ≥ (x613001.length : Int) then (dancestudiolaw50_RehearseNobody.j2 k x1 x2 x7 x8 x9 true x613000 x613001 x613002 x613003 ((rd_T53 x613000 x9).f0) ((rd_T53 x613000 x9).f1) ((rd_T53 x613000 x9).f2)) else (if 0 ≤ ((rd_T48 x1 x9).f1) then (if ((rd_T48 x1 x9).f1) < (x613001.length : Int) then (dancestudiolaw50_RehearseNobody.j2 k x1 x2 x7 x8 x9 (decide ((((rd_T53 x613000 x9).f2).length : Int) > ((rd_T55 x613001 ((rd_T48 x1 x9).f1)).f0))) x613000 x613001 x613002 x613003 ((rd_T53 x613000 x9).f0) ((rd_T53 x613000 x9).f1) ((rd_T53 x613000 x9).f2)) else (none)) else (none)))))) else (dancestudiolaw50_RehearseNobody.j2 k x1 x2 x7 x8 x9 true x613000 x613001 x613002 x613003 ((rd_T53 x613000 x9).f0) ((rd_T53 x613000 x9).f1) ((rd_T53 x613000 x9).f2))) else (none)) else (none)) else (dancestudiolaw50_RehearseNobody.l2 k x2 x7 x8 0 x613000 x613001 x613002 x613003)
def dancestudiolaw50_RehearseNobody.j2 : Nat → List (S48) → Int → List Int → List Int → Int → Bool → List (S53) → List (S55) → List (S59) → Int → ByteArray → Int → List Int → Option (Bool)
 | 0, _, _, _, _, _, _, _, _, _, _, _, _, _ => none
 | k + 1, x1, x2, x7, x8, x9, x105, x613000, x613001, x613002, x613003, x626000, x626001, x626002 => if x105 = true then (none) else (if 0 ≤ x9 then (if x9 < (x1.length : Int) then (if x2 < ((rd_T48 x1 x9).f2) then (dancestudiolaw50_RehearseNobody.j3 k x1 x2 x7 x8 x9 true x613000 x613001 x613002 x613003 x626000 x626001 x626002) else (dancestudiolaw50_RehearseNobody.j3 k x1 x2 x7 x8 x9 (decide (x2 ≥ (wrap64 (((rd_T48 x1 x9).f2) + x626001)))) x613000 x613001 x613002 x613003 x626000 x626001 x626002)) else (none)) else (none))
def dancestudiolaw50_RehearseNobody.j3 : Nat → List (S48) → Int → List Int → List Int → Int → Bool → List (S53) → List (S55) → List (S59) → Int → ByteArray → Int → List Int → Option (Bool)
 | 0, _, _, _, _, _, _, _, _, _, _, _, _, _ => none
 | k + 1, x1, x2, x7, x8, x9, x124, x613000, x613001, x613002, x613003, x626000, x626001, x626002 => if x124 = true then (dancestudiolaw50_RehearseNobody.l0 k x1 x2 x7 x8 (wrap64 (x9 + 1)) x613000 x613001 x613002 x613003) else (if 0 ≤ x9 then (if x9 < (x1.length : Int) then (if ((rd_T48 x1 x9).f1) ≥ 4 then (none) else (if 0 ≤ ((rd_T48 x1 x9).f1) then (if ((rd_T48 x1 x9).f1) < (x8.length : Int) then (dancestudiolaw50_RehearseNobody.l1 k x1 x2 x7 (x8.set (((rd_T48 x1 x9).f1) : Int).toNat (wrap64 ((rd x8 ((rd_T48 x1 x9).f1)) + 1))) x9 0 x613000 x613001 x613002 x613003 x626000 x626001 x626002) else (none)) else (none))) else (none)) else (none))
def dancestudiolaw50_RehearseNobody.l1 : Nat → List (S48) → Int → List Int → List Int → Int → Int → List (S53) → List (S55) → List (S59) → Int → ByteArray → Int → List Int → Option (Bool)
 | 0, _, _, _, _, _, _, _, _, _, _, _, _, _ => none
 | k + 1, x1, x2, x7, x8, x9, x11, x613000, x613001, x613002, x613003, x626000, x626001, x626002 => if x11 < (x626002.length : Int) then (if 0 ≤ x11 then (if (rd x626002 x11) < 0 then (none) else (if (rd x626002 x11) ≥ 24 then (none) else (if 0 ≤ (rd x626002 x11) then (if (rd x626002 x11) < (x7.length : Int) then (dancestudiolaw50_RehearseNobody.l1 k x1 x2 (x7.set ((rd x626002 x11) : Int).toNat (wrap64 ((rd x7 (rd x626002 x11)) + 1))) x8 x9 (wrap64 (x11 + 1)) x613000 x613001 x613002 x613003 x626000 x626001 x626002) else (none)) else (none)))) else (none)) else (dancestudiolaw50_RehearseNobody.l0 k x1 x2 x7 x8 (wrap64 (x9 + 1)) x613000 x613001 x613002 x613003)
def dancestudiolaw50_RehearseNobody.l2 : Nat → Int → List Int → List Int → Int → List (S53) → List (S55) → List (S59) → Int → Option (Bool)
 | 0, _, _, _, _, _, _, _, _ => none
 | k + 1, x2, x7, x8, x12, x613000, x613001, x613002, x613003 => if x12 < (x613002.length : Int) then (if 0 ≤ x12 then (if ((rd_T59 x613002 x12).f0) < 0 then (none) else (if ((rd_T59 x613002 x12).f0) ≥ 24 then (none) else (if ((rd_T59 x613002 x12).f1.f0) ≤ x2 then (if x2 < ((rd_T59 x613002 x12).f1.f1) then (if 0 ≤ ((rd_T59 x613002 x12).f0) then (if ((rd_T59 x613002 x12).f0) < (x7.length : Int) then (if (rd x7 ((rd_T59 x613002 x12).f0)) > 0 then (none) else (dancestudiolaw50_RehearseNobody.l2 k x2 x7 x8 (wrap64 (x12 + 1)) x613000 x613001 x613002 x613003)) else (none)) else (none)) else (dancestudiolaw50_RehearseNobody.l2 k x2 x7 x8 (wrap64 (x12 + 1)) x613000 x613001 x613002 x613003)) else (dancestudiolaw50_RehearseNobody.l2 k x2 x7 x8 (wrap64 (x12 + 1)) x613000 x613001 x613002 x613003)))) else (none)) else (if 0 < (x8.length : Int) then (if 1 < (x8.length : Int) then (if 2 < (x8.length : Int) then (if 3 < (x8.length : Int) then (if (mx (mx (mx (rd x8 0) (rd x8 1)) (rd x8 2)) (rd x8 3)) ≤ 1 then ((dancestudiolaw50_once.f k x7).bind fun t653 => (if t653 = true then ((dancestudiolaw50_awake.f k).bind fun t654 => (some t654)) else (none))) else (none)) else (none)) else (none)) else (none)) else (none))
end
def dancestudiolaw50_RehearseNobody.f (k : Nat) (l0_0 : List (S53)) (l0_1 : List (S55)) (l0_2 : List (S59)) (a0_3 : Int) (l1 : List (S48)) (a2 : Int) : Option (Bool) := (dancestudiolaw50_of.f).bind fun t613 => ((rehearse_Valid.f k l0_0 l0_1 l0_2 a0_3 l1).bind fun t614 => (if t614 = 0 then ((dancestudiolaw50_of.f).bind fun t616 => ((rehearse_Check.f k l0_0 l0_1 l0_2 a0_3).bind fun t617 => (if t617 = 0 then (dancestudiolaw50_RehearseNobody.j0 k l1 a2 ((l1.length : Int) != (l0_0.length : Int)) l0_0 l0_1 l0_2 a0_3) else (dancestudiolaw50_RehearseNobody.j0 k l1 a2 true l0_0 l0_1 l0_2 a0_3)))) else ((dancestudiolaw50_awake.f k).bind fun t615 => (some t615))))
def dancestudiolaw50_RehearseNobody.T11 : Bool × List (List Nat × List Nat) := (true, [([], []), ([], []), ([0, 1], [0, 1]), ([2], [2]), ([3], [3]), ([], []), ([4, 5], [4, 5]), ([6], [6]), ([7], [7]), ([7], [7]), ([8, 9, 7], [7, 8, 9]), ([10, 7], [7, 10]), ([11, 7], [7, 11]), ([12, 7], [7, 12]), ([7, 13], [7, 13]), ([14, 7], [14]), ([15], [15]), ([15], [15]), ([16, 17, 15], [15, 16, 17]), ([18, 15], [15, 18]), ([19, 15], [15, 19]), ([15], [15]), ([21, 15], [15, 21]), ([15], [15]), ([23, 15], [15, 23]), ([22, 24, 15], [15, 22, 24]), ([20, 25, 15], [15, 20, 25]), ([15, 26], [15, 26]), ([27, 15], [27]), ([28], [28]), ([28], [28]), ([29, 30, 28], [28, 29, 30]), ([31, 28], [28, 31]), ([32, 28], [28, 32]), ([33, 28], [28, 33]), ([28, 34], [28, 34]), ([35, 28], [35]), ([36], [36]), ([36], [36]), ([37, 38, 36], [36, 37, 38]), ([39, 36], [36, 39]), ([40, 36], [36, 40]), ([36], [36]), ([42, 36], [36, 42]), ([43, 36], [36, 43]), ([41, 44, 36], [36, 41, 44]), ([36, 45], [36, 45]), ([46, 36], [46]), ([47], [47]), ([48, 47], [47, 48]), ([49, 47], [47, 49]), ([47], [47]), ([51, 47], [47, 51]), ([47], [47]), ([47], [47]), ([53, 54, 47], [47, 53, 54]), ([55, 47], [47, 55]), ([56, 47], [47, 56]), ([52, 57, 47], [47, 52, 57]), ([58, 47], [47, 58]), ([59, 47], [47, 59]), ([50, 60, 47], [47, 50, 60]), ([47, 61], [47, 61])])
def dancestudiolaw50_RehearseNobody.B11 : List Nat := [0, 0, 3, 7, 15, 0, 63, 127, 255, 255, 1023, 2047, 4095, 8191, 16383, 32767, 65535, 65535, 262143, 524287, 1048575, 65535, 2162687, 65535, 8454143, 31522815, 67108863, 134217727, 268435455, 536870911, 536870911, 2147483647, 4294967295, 8589934591, 17179869183, 34359738367, 68719476735, 137438953471, 137438953471, 549755813887, 1099511627775, 2199023255551, 137438953471, 4535485464575, 13331578486783, 35184372088831, 70368744177663, 140737488355327, 281474976710655, 562949953421311, 1125899906842623, 281474976710655, 2533274790395903, 281474976710655, 281474976710655, 27303072740933631, 63331869759897599, 135389463797825535, 286260051314737151, 574490427466448895, 1150951179769872383, 2305843009213693951, 4611686018427387903]
theorem dancestudiolaw50_RehearseNobody.tab11 : rtab .any (opsOf Try.f7 11) = dancestudiolaw50_RehearseNobody.T11 := by kernel_rfl
theorem dancestudiolaw50_RehearseNobody.bits11 : waitsOk dancestudiolaw50_RehearseNobody.T11.2 dancestudiolaw50_RehearseNobody.B11 = true := by kernel_rfl
def dancestudiolaw50_RehearseNobody.T13 : Bool × List (List Nat × List Nat) := (true, [([], []), ([], []), ([], []), ([1, 2], [1, 2]), ([3], [3]), ([4], [4]), ([0, 5], [0, 5]), ([6], [6]), ([7], [7]), ([7], [7]), ([7], [7]), ([9, 10, 7], [7, 9, 10]), ([11, 7], [7, 11]), ([12, 7], [7, 12]), ([7], [7]), ([14, 7], [7, 14]), ([13, 15, 7], [7, 13, 15]), ([8, 16, 7], [7, 8, 16]), ([7, 17], [7, 17])])
def dancestudiolaw50_RehearseNobody.B13 : List Nat := [0, 0, 0, 6, 14, 30, 63, 127, 255, 255, 255, 1791, 3839, 7935, 255, 16639, 65279, 131071, 262143]
theorem dancestudiolaw50_RehearseNobody.tab13 : rtab .any (opsOf Try.f7 13) = dancestudiolaw50_RehearseNobody.T13 := by kernel_rfl
theorem dancestudiolaw50_RehearseNobody.bits13 : waitsOk dancestudiolaw50_RehearseNobody.T13.2 dancestudiolaw50_RehearseNobody.B13 = true := by kernel_rfl
def dancestudiolaw50_RehearseNobody.T16 : Bool × List (List Nat × List Nat) := (true, [([], []), ([], []), ([0, 1], [0, 1]), ([2], [2]), ([3], [3]), ([], []), ([], []), ([5, 6], [5, 6]), ([7], [7]), ([8], [8]), ([9], [9]), ([10], [10]), ([11], [11]), ([4, 0, 1, 2, 3, 4, 5, 6, 7, 8, 9, 10, 11, 12], [4]), ([13, 12, 0, 1, 2, 3, 4, 5, 6, 7, 8, 9, 10, 11, 12], [12, 13])])
def dancestudiolaw50_RehearseNobody.B16 : List Nat := [0, 0, 3, 7, 15, 0, 0, 96, 224, 480, 992, 2016, 4064, 8191, 16383]
theorem dancestudiolaw50_RehearseNobody.tab16 : rtab .any (opsOf Try.f7 16) = dancestudiolaw50_RehearseNobody.T16 := by kernel_rfl
theorem dancestudiolaw50_RehearseNobody.bits16 : waitsOk dancestudiolaw50_RehearseNobody.T16.2 dancestudiolaw50_RehearseNobody.B16 = true := by kernel_rfl
def dancestudiolaw50_RehearseNobody.T22 : Bool × List (List Nat × List Nat) := (true, [([], []), ([0], [0]), ([], []), ([1, 2], [1, 2]), ([3], [3]), ([], []), ([5], [5]), ([], []), ([6, 7], [6, 7]), ([8], [8]), ([9], [9]), ([10], [10]), ([11], [11]), ([4, 0, 1, 2, 3, 4, 5, 6, 7, 8, 9, 10, 11, 12], [4]), ([13, 12, 0, 1, 2, 3, 4, 5, 6, 7, 8, 9, 10, 11, 12], [12, 13])])
def dancestudiolaw50_RehearseNobody.B22 : List Nat := [0, 1, 0, 7, 15, 0, 32, 0, 224, 480, 992, 2016, 4064, 8191, 16383]
theorem dancestudiolaw50_RehearseNobody.tab22 : rtab .any (opsOf Try.f7 22) = dancestudiolaw50_RehearseNobody.T22 := by kernel_rfl
theorem dancestudiolaw50_RehearseNobody.bits22 : waitsOk dancestudiolaw50_RehearseNobody.T22.2 dancestudiolaw50_RehearseNobody.B22 = true := by kernel_rfl
set_option maxHeartbeats 8000000 in
set_option maxRecDepth 100000 in
theorem dancestudiolaw50_RehearseNobody.calls (k : Nat) (A0_0 : Option Addr) (c0_0 : Nat) (l0_0 : List (S53)) (A0_1 : Option Addr) (c0_1 : Nat) (l0_1 : List (S55)) (A0_2 : Option Addr) (c0_2 : Nat) (l0_2 : List (S59)) (a0_3 : Int) (A1 : Option Addr) (c1 : Nat) (l1 : List (S48)) (a2 : Int) (r : Bool) (w : World) (hr0_0 : Kd.C k53 w A0_0 l0_0.length l0_0) (hc0_0 : l0_0.length ≤ c0_0) (hr0_1 : Kd.C k55 w A0_1 l0_1.length l0_1) (hc0_1 : l0_1.length ≤ c0_1) (hr0_2 : Kd.C k59 w A0_2 l0_2.length l0_2) (hc0_2 : l0_2.length ≤ c0_2) (hr1 : Kd.C k48 w A1 l1.length l1) (hc1 : l1.length ≤ c1) (hmx : Mx w) (h : dancestudiolaw50_RehearseNobody.f k l0_0 l0_1 l0_2 a0_3 l1 a2 = some r) :
  Calls Try.prog 7 #[.agg #[.slice A0_0 l0_0.length c0_0, .slice A0_1 l0_1.length c0_1, .slice A0_2 l0_2.length c0_2, .int .i64 a0_3], .slice A1 l1.length c1, .int .i64 a2] w fun e w' => e = .returned (.bool r) ∧ Below w.heap.size w w' := by
 have HMX_ := Aside0.mk hmx
 clear hmx
 have hu30 := Try.underlying26
 have hu53 := Try.underlying53
 have hu59 := Try.underlying59
 have HR0_0 := Aside0.mk hr0_0
 have HC0_0 := Aside0.mk hc0_0
 clear hr0_0 hc0_0
 have HR0_1 := Aside0.mk hr0_1
 have HC0_1 := Aside0.mk hc0_1
 clear hr0_1 hc0_1
 have HR0_2 := Aside0.mk hr0_2
 have HC0_2 := Aside0.mk hc0_2
 clear hr0_2 hc0_2
 have HR1 := Aside0.mk hr1
 have HC1 := Aside0.mk hc1
 clear hr1 hc1
 have HB := Aside0.mk (Below.refl w.heap.size w)
 have H : ((dancestudiolaw50_of.f).bind fun t613 => ((rehearse_Valid.f k l0_0 l0_1 l0_2 a0_3 l1).bind fun t614 => (if t614 = 0 then ((dancestudiolaw50_of.f).bind fun t616 => ((rehearse_Check.f k l0_0 l0_1 l0_2 a0_3).bind fun t617 => (if t617 = 0 then (dancestudiolaw50_RehearseNobody.j0 k l1 a2 ((l1.length : Int) != (l0_0.length : Int)) l0_0 l0_1 l0_2 a0_3) else (dancestudiolaw50_RehearseNobody.j0 k l1 a2 true l0_0 l0_1 l0_2 a0_3)))) else ((dancestudiolaw50_awake.f k).bind fun t615 => (some t615))))) = some r := h
 clear h
 replace H := Option.bind_eq_some_iff.mp H
 obtain ⟨t613, A40, H⟩ := H
 replace H : ((rehearse_Valid.f k l0_0 l0_1 l0_2 a0_3 l1).bind fun t614 => (if t614 = 0 then ((dancestudiolaw50_of.f).bind fun t616 => ((rehearse_Check.f k l0_0 l0_1 l0_2 a0_3).bind fun t617 => (if t617 = 0 then (dancestudiolaw50_RehearseNobody.j0 k l1 a2 ((l1.length : Int) != (l0_0.length : Int)) l0_0 l0_1 l0_2 a0_3) else (dancestudiolaw50_RehearseNobody.j0 k l1 a2 true l0_0 l0_1 l0_2 a0_3)))) else ((dancestudiolaw50_awake.f k).bind fun t615 => (some t615)))) = some r := H
 have A4 := Aside0.mk A40
 clear A40
 replace H := Option.bind_eq_some_iff.mp H
 obtain ⟨t614, A50, H⟩ := H
 replace H : (if t614 = 0 then ((dancestudiolaw50_of.f).bind fun t616 => ((rehearse_Check.f k l0_0 l0_1 l0_2 a0_3).bind fun t617 => (if t617 = 0 then (dancestudiolaw50_RehearseNobody.j0 k l1 a2 ((l1.length : Int) != (l0_0.length : Int)) l0_0 l0_1 l0_2 a0_3) else (dancestudiolaw50_RehearseNobody.j0 k l1 a2 true l0_0 l0_1 l0_2 a0_3)))) else ((dancestudiolaw50_awake.f k).bind fun t615 => (some t615))) = some r := H
 have A5 := Aside0.mk A50
 clear A50
 by_cases c6 : t614 = 0
 ·
  rw [if_pos c6] at H
  have c6b0 : (t614 == 0) = true := beq_iff_eq.mpr c6
  have c6b1 : (t614 != 0) = false := bne_eq_false_iff_eq.mpr c6
  clear c6
  have HC7 := Aside0.mk H
  clear H
  go_enter Try.func7, Try.ntmps7
  go_upto_region 3 with (first | ((with_reducible refine gate_dst (N := 3) rfl ?_); (try (refine gate_guard (by rfl) ?_; dsimp only)); refine box_event ?hg (N := 3) ?hd (cs := #[.slice A0_0 l0_0.length c0_0, .slice A0_1 l0_1.length c0_1, .slice A0_2 l0_2.length c0_2, .int .i64 a0_3]) (t := 26) ?hr ?_; (case hd => rfl); (case hg => rfl); (case hr => first | (go_simp; done) | (go_simp; rfl)); intro gb612 hg w8 hbox hb; have n0_ := Aside0.mk (below_step (by repeat (first | (with_reducible first | exact HB.out | apply below_alloc | apply pw_below_drewN | apply below_drew1) | exact HB.out)) hb); have n1_ := Aside0.mk (hbox); have n2_ := Aside0.mk ((by rw [hg]; exact (below_size (by repeat (first | (with_reducible first | exact HB.out | apply below_alloc | apply pw_below_drewN | apply below_drew1) | exact HB.out))) : w.heap.size ≤ gb612)); have n3_ := Aside0.mk ((by rw [hg]; exact (below_size (by repeat (first | (with_reducible first | exact HB.out | apply below_alloc | apply pw_below_drewN | apply below_drew1) | exact HB.out))) : w.heap.size ≤ gb612)); clear HB; have HB := n0_; have BK612 := n1_; have GW612 := n2_; have GE612 := n3_; clear n0_ n1_ n2_ n3_; clear hb hbox hg; have hcz9_0 : w8.cell? ⟨gb612, 0, none⟩ = some (.slice A0_0 l0_0.length c0_0) := (blk_cell BK612.out 0).trans rfl; have hcz9_1 : w8.cell? ⟨gb612, 1, none⟩ = some (.slice A0_1 l0_1.length c0_1) := (blk_cell BK612.out 1).trans rfl; have hcz9_2 : w8.cell? ⟨gb612, 2, none⟩ = some (.slice A0_2 l0_2.length c0_2) := (blk_cell BK612.out 2).trans rfl; have hcz9_3 : w8.cell? ⟨gb612, 3, none⟩ = some (.int .i64 a0_3) := (blk_cell BK612.out 3).trans rfl; have hfz9_0 := blk_frozen BK612.out 0; have hfz9_1 := blk_frozen BK612.out 1; have hfz9_2 := blk_frozen BK612.out 2; have hfz9_3 := blk_frozen BK612.out 3) | (go_at_call 11; (with_reducible refine (dancestudiolaw50_of.calls  t613 _ A4.out).mono ?_); rintro e w10 ⟨rfl, hb⟩; have n0_ := Aside0.mk (blk_below (g := gb612) (o := .cells #[.slice A0_0 l0_0.length c0_0, .slice A0_1 l0_1.length c0_1, .slice A0_2 l0_2.length c0_2, .int .i64 a0_3] 26 (0, 0)) (by (with_reducible repeat (first | refine blk_drewN ?_ _ | refine blk_drew ?_ | refine blk_alloc ?_ _)); exact BK612.out) hb); have n1_ := Aside0.mk (below_step (by repeat (first | (with_reducible first | exact HB.out | apply below_alloc | apply pw_below_drewN | apply below_drew1 | refine below_set ?_ GE612.out) | exact HB.out)) hb); clear BK612; clear HB; have BK612 := n0_; have HB := n1_; clear n0_ n1_; (try clear hb); (try clear hb2); (try clear hk); (try clear hi)) | ((with_reducible refine gate_callee (f := 18) rfl ?_); refine goesL_ (some 17) rfl rfl Try.func18 (by kernel_rfl) rfl #[.agg #[.slice A0_0 l0_0.length c0_0, .slice A0_1 l0_1.length c0_1, .slice A0_2 l0_2.length c0_2, .int .i64 a0_3], .slice A1 l1.length c1] rfl (by (try simp only [List.map_toArray, List.map_cons, List.map_nil]); first | done | rfl | (simp only [List.length_drop, List.length_take]; rfl)) ?_; (with_reducible refine (rehearse_Valid.calls k _ _ l0_0 _ _ l0_1 _ _ l0_2 a0_3 _ _ l1 t614 _ ?side1 ?side2 ?side3 ?side4 ?side5 ?side6 ?side7 ?side8 ?sidem_ A5.out).mono ?_); (case sidem_ => first | ((repeat (first | exact HMX_.out | apply Mx.drewN | apply Mx.drew)); done) | (refine Mx.below HMX_.out ?_; (repeat (first | (with_reducible first | exact HB.out | apply below_alloc | apply pw_below_drewN | apply below_drew1 | refine below_set ?_ (Aside0.out (by assumption))) | exact HB.out)); done)); (case side1 => repeat (first | exact (Kd.C_below HR0_0.out HB.out) | (with_reducible refine Kd.C_alloc ?_ _) | (with_reducible refine Kd.C_drewN ?_ _) | (with_reducible refine Kd.C_drew ?_))); (case side2 => exact HC0_0.out); (case side3 => repeat (first | exact (Kd.C_below HR0_1.out HB.out) | (with_reducible refine Kd.C_alloc ?_ _) | (with_reducible refine Kd.C_drewN ?_ _) | (with_reducible refine Kd.C_drew ?_))); (case side4 => exact HC0_1.out); (case side5 => repeat (first | exact (Kd.C_below HR0_2.out HB.out) | (with_reducible refine Kd.C_alloc ?_ _) | (with_reducible refine Kd.C_drewN ?_ _) | (with_reducible refine Kd.C_drew ?_))); (case side6 => exact HC0_2.out); (case side7 => repeat (first | exact (Kd.C_below HR1.out HB.out) | (with_reducible refine Kd.C_alloc ?_ _) | (with_reducible refine Kd.C_drewN ?_ _) | (with_reducible refine Kd.C_drew ?_))); (case side8 => exact HC1.out); rintro e w11 ⟨rfl, hb⟩; refine ⟨_, rfl, ?_⟩; have n0_ := Aside0.mk (blk_below (g := gb612) (o := .cells #[.slice A0_0 l0_0.length c0_0, .slice A0_1 l0_1.length c0_1, .slice A0_2 l0_2.length c0_2, .int .i64 a0_3] 26 (0, 0)) (by (with_reducible repeat (first | refine blk_drewN ?_ _ | refine blk_drew ?_ | refine blk_alloc ?_ _)); exact BK612.out) hb); have n1_ := Aside0.mk (below_step (by repeat (first | (with_reducible first | exact HB.out | apply below_alloc | apply pw_below_drewN | apply below_drew1 | refine below_set ?_ GE612.out) | exact HB.out)) hb); clear BK612; clear HB; have BK612 := n0_; have HB := n1_; clear n0_ n1_; (try clear hb); (try clear hb2); (try clear hk); (try clear hi)))
  (try simp only [Act.put, List.setIfInBounds_toArray, List.set_cons_zero, List.set_cons_succ])
  go_cut [31] (fun v31 wc => ∃ (kq : Nat) (x31_6 : Bool), v31 = .bool x31_6 ∧ Aside0 (dancestudiolaw50_RehearseNobody.j0 kq l1 a2 x31_6 l0_0 l0_1 l0_2 a0_3 = some r) ∧ Aside0 (kq ≤ k) ∧ Aside0 (wc.heap[gb612]? = some (.cells #[(.slice A0_0 l0_0.length c0_0), (.slice A0_1 l0_1.length c0_1), (.slice A0_2 l0_2.length c0_2), .int .i64 a0_3] 26 (0, 0))) ∧ Aside0 (Below w.heap.size w wc))
  case first => as_aux_lemma =>
   have H := HC7.out
   clear HC7
   replace H := Option.bind_eq_some_iff.mp H
   obtain ⟨t616, A120, H⟩ := H
   replace H : ((rehearse_Check.f k l0_0 l0_1 l0_2 a0_3).bind fun t617 => (if t617 = 0 then (dancestudiolaw50_RehearseNobody.j0 k l1 a2 ((l1.length : Int) != (l0_0.length : Int)) l0_0 l0_1 l0_2 a0_3) else (dancestudiolaw50_RehearseNobody.j0 k l1 a2 true l0_0 l0_1 l0_2 a0_3))) = some r := H
   have A12 := Aside0.mk A120
   clear A120
   replace H := Option.bind_eq_some_iff.mp H
   obtain ⟨t617, A130, H⟩ := H
   replace H : (if t617 = 0 then (dancestudiolaw50_RehearseNobody.j0 k l1 a2 ((l1.length : Int) != (l0_0.length : Int)) l0_0 l0_1 l0_2 a0_3) else (dancestudiolaw50_RehearseNobody.j0 k l1 a2 true l0_0 l0_1 l0_2 a0_3)) = some r := H
   have A13 := Aside0.mk A130
   clear A130
   by_cases c14 : t617 = 0
   ·
    rw [if_pos c14] at H
    have c14b0 : (t617 == 0) = true := beq_iff_eq.mpr c14
    have c14b1 : (t617 != 0) = false := bne_eq_false_iff_eq.mpr c14
    clear c14
    (first | rw [c14b0] | (simp only [i64_w, i32_w]; rw [c14b0]) | skip)
    have H' := Aside0.mk H
    clear H
    have hcz15_0 : w11.cell? ⟨gb612, 0, none⟩ = some (.slice A0_0 l0_0.length c0_0) := (blk_cell BK612.out 0).trans rfl
    have hcz15_1 : w11.cell? ⟨gb612, 1, none⟩ = some (.slice A0_1 l0_1.length c0_1) := (blk_cell BK612.out 1).trans rfl
    have hcz15_2 : w11.cell? ⟨gb612, 2, none⟩ = some (.slice A0_2 l0_2.length c0_2) := (blk_cell BK612.out 2).trans rfl
    have hcz15_3 : w11.cell? ⟨gb612, 3, none⟩ = some (.int .i64 a0_3) := (blk_cell BK612.out 3).trans rfl
    have hfz15_0 := blk_frozen BK612.out 0
    have hfz15_1 := blk_frozen BK612.out 1
    have hfz15_2 := blk_frozen BK612.out 2
    have hfz15_3 := blk_frozen BK612.out 3
    go_wp2_with (first | (go_at_call 11; (with_reducible refine (dancestudiolaw50_of.calls  t616 _ A12.out).mono ?_); rintro e w16 ⟨rfl, hb⟩; have n0_ := Aside0.mk (blk_below (g := gb612) (o := .cells #[.slice A0_0 l0_0.length c0_0, .slice A0_1 l0_1.length c0_1, .slice A0_2 l0_2.length c0_2, .int .i64 a0_3] 26 (0, 0)) (by (with_reducible repeat (first | refine blk_drewN ?_ _ | refine blk_drew ?_ | refine blk_alloc ?_ _)); exact BK612.out) hb); have n1_ := Aside0.mk (below_step (by repeat (first | (with_reducible first | exact HB.out | apply below_alloc | apply pw_below_drewN | apply below_drew1 | refine below_set ?_ GE612.out) | exact HB.out)) hb); clear BK612; clear HB; have BK612 := n0_; have HB := n1_; clear n0_ n1_; (try clear hb); (try clear hb2); (try clear hk); (try clear hi)) | ((with_reducible refine gate_callee (f := 13) rfl ?_); refine goesL_ (some 22) rfl rfl Try.func13 (by kernel_rfl) rfl #[.agg #[.slice A0_0 l0_0.length c0_0, .slice A0_1 l0_1.length c0_1, .slice A0_2 l0_2.length c0_2, .int .i64 a0_3]] rfl (by (try simp only [List.map_toArray, List.map_cons, List.map_nil]); first | done | rfl | (simp only [List.length_drop, List.length_take]; rfl)) ?_; (with_reducible refine (rehearse_Check.calls k _ _ l0_0 _ _ l0_1 _ _ l0_2 a0_3 t617 _ ?side1 ?side2 ?side3 ?side4 ?side5 ?side6 ?sidem_ A13.out).mono ?_); (case sidem_ => first | ((repeat (first | exact HMX_.out | apply Mx.drewN | apply Mx.drew)); done) | (refine Mx.below HMX_.out ?_; (repeat (first | (with_reducible first | exact HB.out | apply below_alloc | apply pw_below_drewN | apply below_drew1 | refine below_set ?_ (Aside0.out (by assumption))) | exact HB.out)); done)); (case side1 => repeat (first | exact (Kd.C_below HR0_0.out HB.out) | (with_reducible refine Kd.C_alloc ?_ _) | (with_reducible refine Kd.C_drewN ?_ _) | (with_reducible refine Kd.C_drew ?_))); (case side2 => exact HC0_0.out); (case side3 => repeat (first | exact (Kd.C_below HR0_1.out HB.out) | (with_reducible refine Kd.C_alloc ?_ _) | (with_reducible refine Kd.C_drewN ?_ _) | (with_reducible refine Kd.C_drew ?_))); (case side4 => exact HC0_1.out); (case side5 => repeat (first | exact (Kd.C_below HR0_2.out HB.out) | (with_reducible refine Kd.C_alloc ?_ _) | (with_reducible refine Kd.C_drewN ?_ _) | (with_reducible refine Kd.C_drew ?_))); (case side6 => exact HC0_2.out); rintro e w17 ⟨rfl, hb⟩; refine ⟨_, rfl, ?_⟩; have n0_ := Aside0.mk (blk_below (g := gb612) (o := .cells #[.slice A0_0 l0_0.length c0_0, .slice A0_1 l0_1.length c0_1, .slice A0_2 l0_2.length c0_2, .int .i64 a0_3] 26 (0, 0)) (by (with_reducible repeat (first | refine blk_drewN ?_ _ | refine blk_drew ?_ | refine blk_alloc ?_ _)); exact BK612.out) hb); have n1_ := Aside0.mk (below_step (by repeat (first | (with_reducible first | exact HB.out | apply below_alloc | apply pw_below_drewN | apply below_drew1 | refine below_set ?_ GE612.out) | exact HB.out)) hb); clear BK612; clear HB; have BK612 := n0_; have HB := n1_; clear n0_ n1_; (try clear hb); (try clear hb2); (try clear hk); (try clear hi); have hcz18_0 : w17.cell? ⟨gb612, 0, none⟩ = some (.slice A0_0 l0_0.length c0_0) := (blk_cell BK612.out 0).trans rfl; have hcz18_1 : w17.cell? ⟨gb612, 1, none⟩ = some (.slice A0_1 l0_1.length c0_1) := (blk_cell BK612.out 1).trans rfl; have hcz18_2 : w17.cell? ⟨gb612, 2, none⟩ = some (.slice A0_2 l0_2.length c0_2) := (blk_cell BK612.out 2).trans rfl; have hcz18_3 : w17.cell? ⟨gb612, 3, none⟩ = some (.int .i64 a0_3) := (blk_cell BK612.out 3).trans rfl; have hfz18_0 := blk_frozen BK612.out 0; have hfz18_1 := blk_frozen BK612.out 1; have hfz18_2 := blk_frozen BK612.out 2; have hfz18_3 := blk_frozen BK612.out 3))
    go_meet
    case rel => exact ⟨_, (((l1.length : Int) != (l0_0.length : Int))), (by first | rfl | (simp; done) | (simp [*]; done)), H', ⟨by first | omega | exact Nat.le_refl _⟩, ⟨by (with_reducible repeat (first | refine blk_drewN ?_ _ | refine blk_drew ?_ | refine blk_alloc ?_ _)); exact BK612.out⟩, ⟨by repeat (first | (with_reducible first | exact HB.out | apply below_alloc | apply pw_below_drewN | apply below_drew1 | refine below_set ?_ GE612.out) | exact HB.out)⟩⟩
   ·
    rw [if_neg c14] at H
    have c14b0 : (t617 == 0) = false := beq_eq_false_iff_ne.mpr c14
    have c14b1 : (t617 != 0) = true := bne_iff_ne.mpr c14
    (first | rw [c14b0] | (simp only [i64_w, i32_w]; rw [c14b0]) | skip)
    have H' := Aside0.mk H
    clear H
    have hcz19_0 : w11.cell? ⟨gb612, 0, none⟩ = some (.slice A0_0 l0_0.length c0_0) := (blk_cell BK612.out 0).trans rfl
    have hcz19_1 : w11.cell? ⟨gb612, 1, none⟩ = some (.slice A0_1 l0_1.length c0_1) := (blk_cell BK612.out 1).trans rfl
    have hcz19_2 : w11.cell? ⟨gb612, 2, none⟩ = some (.slice A0_2 l0_2.length c0_2) := (blk_cell BK612.out 2).trans rfl
    have hcz19_3 : w11.cell? ⟨gb612, 3, none⟩ = some (.int .i64 a0_3) := (blk_cell BK612.out 3).trans rfl
    have hfz19_0 := blk_frozen BK612.out 0
    have hfz19_1 := blk_frozen BK612.out 1
    have hfz19_2 := blk_frozen BK612.out 2
    have hfz19_3 := blk_frozen BK612.out 3
    go_wp2_with (first | (go_at_call 11; (with_reducible refine (dancestudiolaw50_of.calls  t616 _ A12.out).mono ?_); rintro e w20 ⟨rfl, hb⟩; have n0_ := Aside0.mk (blk_below (g := gb612) (o := .cells #[.slice A0_0 l0_0.length c0_0, .slice A0_1 l0_1.length c0_1, .slice A0_2 l0_2.length c0_2, .int .i64 a0_3] 26 (0, 0)) (by (with_reducible repeat (first | refine blk_drewN ?_ _ | refine blk_drew ?_ | refine blk_alloc ?_ _)); exact BK612.out) hb); have n1_ := Aside0.mk (below_step (by repeat (first | (with_reducible first | exact HB.out | apply below_alloc | apply pw_below_drewN | apply below_drew1 | refine below_set ?_ GE612.out) | exact HB.out)) hb); clear BK612; clear HB; have BK612 := n0_; have HB := n1_; clear n0_ n1_; (try clear hb); (try clear hb2); (try clear hk); (try clear hi)) | ((with_reducible refine gate_callee (f := 13) rfl ?_); refine goesL_ (some 22) rfl rfl Try.func13 (by kernel_rfl) rfl #[.agg #[.slice A0_0 l0_0.length c0_0, .slice A0_1 l0_1.length c0_1, .slice A0_2 l0_2.length c0_2, .int .i64 a0_3]] rfl (by (try simp only [List.map_toArray, List.map_cons, List.map_nil]); first | done | rfl | (simp only [List.length_drop, List.length_take]; rfl)) ?_; (with_reducible refine (rehearse_Check.calls k _ _ l0_0 _ _ l0_1 _ _ l0_2 a0_3 t617 _ ?side1 ?side2 ?side3 ?side4 ?side5 ?side6 ?sidem_ A13.out).mono ?_); (case sidem_ => first | ((repeat (first | exact HMX_.out | apply Mx.drewN | apply Mx.drew)); done) | (refine Mx.below HMX_.out ?_; (repeat (first | (with_reducible first | exact HB.out | apply below_alloc | apply pw_below_drewN | apply below_drew1 | refine below_set ?_ (Aside0.out (by assumption))) | exact HB.out)); done)); (case side1 => repeat (first | exact (Kd.C_below HR0_0.out HB.out) | (with_reducible refine Kd.C_alloc ?_ _) | (with_reducible refine Kd.C_drewN ?_ _) | (with_reducible refine Kd.C_drew ?_))); (case side2 => exact HC0_0.out); (case side3 => repeat (first | exact (Kd.C_below HR0_1.out HB.out) | (with_reducible refine Kd.C_alloc ?_ _) | (with_reducible refine Kd.C_drewN ?_ _) | (with_reducible refine Kd.C_drew ?_))); (case side4 => exact HC0_1.out); (case side5 => repeat (first | exact (Kd.C_below HR0_2.out HB.out) | (with_reducible refine Kd.C_alloc ?_ _) | (with_reducible refine Kd.C_drewN ?_ _) | (with_reducible refine Kd.C_drew ?_))); (case side6 => exact HC0_2.out); rintro e w21 ⟨rfl, hb⟩; refine ⟨_, rfl, ?_⟩; have n0_ := Aside0.mk (blk_below (g := gb612) (o := .cells #[.slice A0_0 l0_0.length c0_0, .slice A0_1 l0_1.length c0_1, .slice A0_2 l0_2.length c0_2, .int .i64 a0_3] 26 (0, 0)) (by (with_reducible repeat (first | refine blk_drewN ?_ _ | refine blk_drew ?_ | refine blk_alloc ?_ _)); exact BK612.out) hb); have n1_ := Aside0.mk (below_step (by repeat (first | (with_reducible first | exact HB.out | apply below_alloc | apply pw_below_drewN | apply below_drew1 | refine below_set ?_ GE612.out) | exact HB.out)) hb); clear BK612; clear HB; have BK612 := n0_; have HB := n1_; clear n0_ n1_; (try clear hb); (try clear hb2); (try clear hk); (try clear hi)))
    go_meet
    case rel => exact ⟨_, (true), (by first | rfl | (simp; done) | (simp [*]; done)), H', ⟨by first | omega | exact Nat.le_refl _⟩, ⟨by (with_reducible repeat (first | refine blk_drewN ?_ _ | refine blk_drew ?_ | refine blk_alloc ?_ _)); exact BK612.out⟩, ⟨by repeat (first | (with_reducible first | exact HB.out | apply below_alloc | apply pw_below_drewN | apply below_drew1 | refine below_set ?_ GE612.out) | exact HB.out)⟩⟩
  case rest => as_aux_lemma =>
   clear HC7
   try clear c1
   try clear p2
   try clear c6
   try clear c6b0
   try clear c6b1
   try clear c7
   try clear c11
   try clear c13
   try clear c14
   try clear c14b0
   try clear c14b1
   try clear c18
   try clear hcz15_0
   try clear hcz15_1
   try clear hcz15_2
   try clear hcz15_3
   try clear hcz18_0
   try clear hcz18_1
   try clear hcz18_2
   try clear hcz18_3
   try clear hcz19_0
   try clear hcz19_1
   try clear hcz19_2
   try clear hcz19_3
   try clear hcz9_0
   try clear hcz9_1
   try clear hcz9_2
   try clear hcz9_3
   try clear hfz15_0
   try clear hfz15_1
   try clear hfz15_2
   try clear hfz15_3
   try clear hfz18_0
   try clear hfz18_1
   try clear hfz18_2
   try clear hfz18_3
   try clear hfz19_0
   try clear hfz19_1
   try clear hfz19_2
   try clear hfz19_3
   try clear hfz9_0
   try clear hfz9_1
   try clear hfz9_2
   try clear hfz9_3
   obtain ⟨kq, x31_6, rfl, HA, HJ6, BK612, HB⟩ := hcut
   cases kq with
   | zero => exact absurd HA.out (by simp [dancestudiolaw50_RehearseNobody.j0])
   | succ kj6 =>
    have H := HA.out
    clear HA
    simp only [dancestudiolaw50_RehearseNobody.j0] at H
    by_cases c22 : x31_6 = true
    ·
     subst c22
     have H1 : (none) = some r := by rw [if_pos rfl] at H; exact H
     clear H
     have H := H1
     clear H1
     exact absurd H (by simp)
    ·
     replace c22 := Bool.eq_false_iff.mpr c22
     subst c22
     have H1 : (if 24 ≤ 35184372088832 then (if 4 ≤ 35184372088832 then (dancestudiolaw50_RehearseNobody.l0 kj6 l1 a2 (List.replicate 24 0) (List.replicate 4 0) 0 l0_0 l0_1 l0_2 a0_3) else (none)) else (none)) = some r := by rw [if_neg (show ¬ (false = true) by decide)] at H; exact H
     clear H
     have H := H1
     clear H1
     by_cases c23 : 24 ≤ 35184372088832
     ·
      rw [if_pos c23] at H
      have c23b0 := eq_true c23
      have c23b1 : decide (24 ≤ 35184372088832) = true := decide_eq_true c23
      clear c23
      obtain ⟨y618, hy618⟩ : ∃ y_ : List Int, y_ = (List.replicate 24 0) := ⟨_, rfl⟩
      replace H : (if 4 ≤ 35184372088832 then (dancestudiolaw50_RehearseNobody.l0 kj6 l1 a2 y618 (List.replicate 4 0) 0 l0_0 l0_1 l0_2 a0_3) else (none)) = some r := by first | (rw [hy618]; with_reducible exact H) | (have H2_ := (Option.bind_some _ _).symm.trans H; rw [hy618]; with_reducible exact H2_) | (have H2_ := (Option.bind_some _ _).symm.trans H; with_reducible exact H2_) | with_reducible exact H | (rw [hy618]; exact H) | exact H
      have Ny618 := Aside0.mk hy618
      clear hy618
      by_cases c24 : 4 ≤ 35184372088832
      ·
       rw [if_pos c24] at H
       have c24b0 := eq_true c24
       have c24b1 : decide (4 ≤ 35184372088832) = true := decide_eq_true c24
       clear c24
       obtain ⟨y621, hy621⟩ : ∃ y_ : List Int, y_ = (List.replicate 4 0) := ⟨_, rfl⟩
       replace H : (dancestudiolaw50_RehearseNobody.l0 kj6 l1 a2 y618 y621 0 l0_0 l0_1 l0_2 a0_3) = some r := by first | (rw [hy621]; with_reducible exact H) | (have H2_ := (Option.bind_some _ _).symm.trans H; rw [hy621]; with_reducible exact H2_) | (have H2_ := (Option.bind_some _ _).symm.trans H; with_reducible exact H2_) | with_reducible exact H | (rw [hy621]; exact H) | exact H
       have Ny621 := Aside0.mk hy621
       clear hy621
       have H' := Aside0.mk H
       clear H
       go_upto_region 6 with (fail)
       obtain ⟨gb619, hg⟩ : ∃ g, g = wc.heap.size := ⟨_, rfl⟩
       have hbox := blk_new wc (.cells #[.int .i64 0, .int .i64 0, .int .i64 0, .int .i64 0, .int .i64 0, .int .i64 0, .int .i64 0, .int .i64 0, .int .i64 0, .int .i64 0, .int .i64 0, .int .i64 0, .int .i64 0, .int .i64 0, .int .i64 0, .int .i64 0, .int .i64 0, .int .i64 0, .int .i64 0, .int .i64 0, .int .i64 0, .int .i64 0, .int .i64 0, .int .i64 0] 49 (0, 0))
       have hb := below_alloc (Below.refl wc.heap.size wc) (.cells #[.int .i64 0, .int .i64 0, .int .i64 0, .int .i64 0, .int .i64 0, .int .i64 0, .int .i64 0, .int .i64 0, .int .i64 0, .int .i64 0, .int .i64 0, .int .i64 0, .int .i64 0, .int .i64 0, .int .i64 0, .int .i64 0, .int .i64 0, .int .i64 0, .int .i64 0, .int .i64 0, .int .i64 0, .int .i64 0, .int .i64 0, .int .i64 0] 49 (0, 0))
       rw [← hg] at hbox ⊢
       generalize wc.alloc (.cells #[.int .i64 0, .int .i64 0, .int .i64 0, .int .i64 0, .int .i64 0, .int .i64 0, .int .i64 0, .int .i64 0, .int .i64 0, .int .i64 0, .int .i64 0, .int .i64 0, .int .i64 0, .int .i64 0, .int .i64 0, .int .i64 0, .int .i64 0, .int .i64 0, .int .i64 0, .int .i64 0, .int .i64 0, .int .i64 0, .int .i64 0, .int .i64 0] 49 (0, 0)) = w25 at hbox hb ⊢
       have ho26 := arr_R (n := 24) hbox (Nat.le_of_eq hg.symm) (by decide)
       clear hbox hg
       (first | rw [← Ny618.out] at ho26 | (simp only [Int.reduceToNat] at ho26; rw [← Ny618.out] at ho26))
       have n0_ := Aside0.mk (Kd.R_lower ho26 (below_size (by repeat (first | (with_reducible first | exact HB.out | apply below_alloc | apply pw_below_drewN | apply below_drew1 | refine below_set ?_ GE612.out) | exact HB.out))))
       have n1_ := Aside0.mk (blk_below (g := gb612) (o := .cells #[.slice A0_0 l0_0.length c0_0, .slice A0_1 l0_1.length c0_1, .slice A0_2 l0_2.length c0_2, .int .i64 a0_3] 26 (0, 0)) (by (with_reducible repeat (first | refine blk_drewN ?_ _ | refine blk_drew ?_ | refine blk_alloc ?_ _)); exact BK612.out) hb)
       have n2_ := Aside0.mk (below_step (by repeat (first | (with_reducible first | exact HB.out | apply below_alloc | apply pw_below_drewN | apply below_drew1 | refine below_set ?_ GE612.out) | exact HB.out)) hb)
       clear BK612
       clear HB
       have HO620 := n0_
       have BK612 := n1_
       have HB := n2_
       clear n0_ n1_ n2_
       clear hb ho26
       go_upto_region 7 with (fail)
       obtain ⟨gb622, hg⟩ : ∃ g, g = w25.heap.size := ⟨_, rfl⟩
       have hbox := blk_new w25 (.cells #[.int .i64 0, .int .i64 0, .int .i64 0, .int .i64 0] 50 (0, 0))
       have hb := below_alloc (Below.refl w25.heap.size w25) (.cells #[.int .i64 0, .int .i64 0, .int .i64 0, .int .i64 0] 50 (0, 0))
       rw [← hg] at hbox ⊢
       generalize w25.alloc (.cells #[.int .i64 0, .int .i64 0, .int .i64 0, .int .i64 0] 50 (0, 0)) = w27 at hbox hb ⊢
       have ho28 := arr_R (n := 4) hbox (Nat.le_of_eq hg.symm) (by decide)
       clear hbox hg
       (first | rw [← Ny621.out] at ho28 | (simp only [Int.reduceToNat] at ho28; rw [← Ny621.out] at ho28))
       have n0_ := Aside0.mk (Kd.R_elder' (by (with_reducible repeat (first | apply Kd.R_alloc | apply Kd.R_drewN | apply Kd.R_drew)); exact HO620.out) (Kd.R_base ho28) hb)
       have n1_ := Aside0.mk (Kd.R_lower (Kd.R_new' ho28 (Kd.R_lt (by (with_reducible repeat (first | apply Kd.R_alloc | apply Kd.R_drewN | apply Kd.R_drew)); exact HO620.out))) (below_size (by repeat (first | (with_reducible first | exact HB.out | apply below_alloc | apply pw_below_drewN | apply below_drew1 | refine below_set ?_ GE612.out) | exact HB.out))))
       have n2_ := Aside0.mk (blk_below (g := gb612) (o := .cells #[.slice A0_0 l0_0.length c0_0, .slice A0_1 l0_1.length c0_1, .slice A0_2 l0_2.length c0_2, .int .i64 a0_3] 26 (0, 0)) (by (with_reducible repeat (first | refine blk_drewN ?_ _ | refine blk_drew ?_ | refine blk_alloc ?_ _)); exact BK612.out) hb)
       have n3_ := Aside0.mk (below_step (by repeat (first | (with_reducible first | exact HB.out | apply below_alloc | apply pw_below_drewN | apply below_drew1 | refine below_set ?_ GE612.out) | exact HB.out)) hb)
       clear HO620
       clear BK612
       clear HB
       have HO620 := n0_
       have HO623 := n1_
       have BK612 := n2_
       have HB := n3_
       clear n0_ n1_ n2_ n3_
       clear hb ho28
       go_wp2
       go_loopg [9] kj6 (fun kq v9 w' => ∃ (x7_2 : List Int) (x8_2 : List Int) (x9_2 : Int), v9 = .int .i64 x9_2 ∧ Aside0 (dancestudiolaw50_RehearseNobody.l0 kq l1 a2 x7_2 x8_2 x9_2 l0_0 l0_1 l0_2 a0_3 = some r) ∧ Aside0 (kq ≤ kj6) ∧ Aside0 (Kd.R (Kd.int .i64) 49 w' w.heap.size (fun k_ => some k_ ≠ (Value.slice (some ⟨gb622, 0, none⟩) 4 4).ownBlock) (.slice (some ⟨gb619, 0, none⟩) 24 24) x7_2) ∧ Aside0 (Kd.R (Kd.int .i64) 50 w' w.heap.size (fun k_ => some k_ ≠ (Value.slice (some ⟨gb619, 0, none⟩) 24 24).ownBlock) (.slice (some ⟨gb622, 0, none⟩) 4 4) x8_2) ∧ Aside0 (w'.heap[gb612]? = some (.cells #[(.slice A0_0 l0_0.length c0_0), (.slice A0_1 l0_1.length c0_1), (.slice A0_2 l0_2.length c0_2), .int .i64 a0_3] 26 (0, 0))) ∧ Aside0 (Below w.heap.size w w'))
       case atStart => exact ⟨(y618), (y621), (0), (by first | rfl | (simp; done) | (simp [*]; done)), H', ⟨Nat.le_refl _⟩, ⟨by (with_reducible repeat (first | apply Kd.R_alloc | apply Kd.R_drewN | apply Kd.R_drew)); exact Kd.R_mono HO620.out (fun _ hk => hk.2)⟩, ⟨by (with_reducible repeat (first | apply Kd.R_alloc | apply Kd.R_drewN | apply Kd.R_drew)); exact Kd.R_mono HO623.out (fun _ hk => hk.2)⟩, ⟨by (with_reducible repeat (first | refine blk_drewN ?_ _ | refine blk_drew ?_ | refine blk_alloc ?_ _)); exact BK612.out⟩, ⟨by repeat (first | (with_reducible first | exact HB.out | apply below_alloc | apply pw_below_drewN | apply below_drew1 | refine below_set ?_ GE612.out) | exact HB.out)⟩⟩
       case round => as_aux_lemma =>
        clear H'
        try clear c1
        try clear c2
        try clear p2
        try clear c6
        try clear c6b0
        try clear c6b1
        try clear c7
        try clear c11
        try clear c13
        try clear c14
        try clear c14b0
        try clear c14b1
        try clear c18
        try clear c22
        try clear c23
        try clear c23b0
        try clear c23b1
        try clear c24
        try clear c24b0
        try clear c24b1
        try clear hcz15_0
        try clear hcz15_1
        try clear hcz15_2
        try clear hcz15_3
        try clear hcz18_0
        try clear hcz18_1
        try clear hcz18_2
        try clear hcz18_3
        try clear hcz19_0
        try clear hcz19_1
        try clear hcz19_2
        try clear hcz19_3
        try clear hcz9_0
        try clear hcz9_1
        try clear hcz9_2
        try clear hcz9_3
        try clear hfz15_0
        try clear hfz15_1
        try clear hfz15_2
        try clear hfz15_3
        try clear hfz18_0
        try clear hfz18_1
        try clear hfz18_2
        try clear hfz18_3
        try clear hfz19_0
        try clear hfz19_1
        try clear hfz19_2
        try clear hfz19_3
        try clear hfz9_0
        try clear hfz9_1
        try clear hfz9_2
        try clear hfz9_3
        try clear p2
        obtain ⟨x7_2, x8_2, x9_2, rfl, HA, HK2, HO_7, HO_8, BK612, HB⟩ := hrel
        cases gk with
        | zero => exact absurd HA.out (by simp [dancestudiolaw50_RehearseNobody.l0])
        | succ k2 =>
         have H := HA.out
         clear HA
         simp only [dancestudiolaw50_RehearseNobody.l0] at H
         by_cases c29 : x9_2 < (l1.length : Int)
         ·
          rw [if_pos c29] at H
          have c29b0 : decide (x9_2 < (l1.length : Int)) = true := decide_eq_true c29
          clear c29
          by_cases c30 : 0 ≤ x9_2
          ·
           rw [if_pos c30] at H
           have c30b0 : decide (0 ≤ x9_2) = true := decide_eq_true c30
           clear c30
           by_cases c31 : x9_2 < (l0_0.length : Int)
           ·
            rw [if_pos c31] at H
            have c31b0 : decide (x9_2 < (l0_0.length : Int)) = true := decide_eq_true c31
            clear c31
            have HC32 := Aside0.mk H
            clear H
            have hcz33_0 : wr.cell? ⟨gb612, 0, none⟩ = some (.slice A0_0 l0_0.length c0_0) := (blk_cell BK612.out 0).trans rfl
            have hcz33_1 : wr.cell? ⟨gb612, 1, none⟩ = some (.slice A0_1 l0_1.length c0_1) := (blk_cell BK612.out 1).trans rfl
            have hcz33_2 : wr.cell? ⟨gb612, 2, none⟩ = some (.slice A0_2 l0_2.length c0_2) := (blk_cell BK612.out 2).trans rfl
            have hcz33_3 : wr.cell? ⟨gb612, 3, none⟩ = some (.int .i64 a0_3) := (blk_cell BK612.out 3).trans rfl
            have hfz33_0 := blk_frozen BK612.out 0
            have hfz33_1 := blk_frozen BK612.out 1
            have hfz33_2 := blk_frozen BK612.out 2
            have hfz33_3 := blk_frozen BK612.out 3
            have p624 : 0 ≤ (x9_2 : Int) := of_decide_eq_true (by first | (with_reducible assumption) | assumption)
            have q624 : x9_2 < (l0_0.length : Int) := of_decide_eq_true (by first | (with_reducible assumption) | assumption)
            obtain ⟨ad624, A624_2, c624_2, e624, hx624_0, hx624_1, hx624_2, hl624_2, hi624_2⟩ := at_T53 HR0_0.out x9_2 p624 q624
            cases e624
            replace hx624_0 := (HB.out.cell (World.block_lt_of_cell? w _ hx624_0)).trans hx624_0
            replace hx624_1 := (HB.out.cell (World.block_lt_of_cell? w _ hx624_1)).trans hx624_1
            replace hx624_2 := (HB.out.cell (World.block_lt_of_cell? w _ hx624_2)).trans hx624_2
            have HR624_2 := Aside0.mk hi624_2
            have HC624_2 := Aside0.mk hl624_2
            clear hi624_2 hl624_2
            replace p624 := eq_true p624
            replace q624 := eq_true q624
            go_upto_region 11 with (first | ((with_reducible refine gate_dst (N := 10) rfl ?_); (try (refine gate_guard (by rfl) ?_; dsimp only)); refine box_event ?hg (N := 10) ?hd (cs := #[.string (⟨#[]⟩ : ByteArray), .int .i64 0, .slice none 0 0]) (t := 53) ?hr ?_; (case hd => rfl); (case hg => rfl); (case hr => first | (go_simp; done) | (go_simp; rfl)); intro gb625 hg w34 hbox hb; have n0_ := Aside0.mk (Kd.R_below (by (with_reducible repeat (first | apply Kd.R_alloc | apply Kd.R_drewN | apply Kd.R_drew)); exact HO_7.out) hb); have n1_ := Aside0.mk (Kd.R_below (by (with_reducible repeat (first | apply Kd.R_alloc | apply Kd.R_drewN | apply Kd.R_drew)); exact HO_8.out) hb); have n2_ := Aside0.mk (blk_below (g := gb612) (o := .cells #[.slice (some ad624) l0_0.length c0_0, .slice A0_1 l0_1.length c0_1, .slice A0_2 l0_2.length c0_2, .int .i64 a0_3] 26 (0, 0)) (by (with_reducible repeat (first | refine blk_drewN ?_ _ | refine blk_drew ?_ | refine blk_alloc ?_ _)); exact BK612.out) hb); have n3_ := Aside0.mk (below_step (by repeat (first | (with_reducible first | exact HB.out | apply below_alloc | apply pw_below_drewN | apply below_drew1 | refine below_set ?_ GE612.out) | exact HB.out)) hb); have n4_ := Aside0.mk (hbox); have n5_ := Aside0.mk ((by rw [hg]; exact (below_size (by repeat (first | (with_reducible first | exact HB.out | apply below_alloc | apply pw_below_drewN | apply below_drew1 | refine below_set ?_ GE612.out) | exact HB.out))) : w.heap.size ≤ gb625)); have n6_ := Aside0.mk ((by rw [hg]; exact (below_size (by repeat (first | (with_reducible first | exact HB.out | apply below_alloc | apply pw_below_drewN | apply below_drew1 | refine below_set ?_ GE612.out) | exact HB.out))) : w.heap.size ≤ gb625)); have n7_ := Aside0.mk ((by rw [hg]; exact Nat.ne_of_lt (blk_lt (g := gb612) (o := .cells #[.slice (some ad624) l0_0.length c0_0, .slice A0_1 l0_1.length c0_1, .slice A0_2 l0_2.length c0_2, .int .i64 a0_3] 26 (0, 0)) (by (with_reducible repeat (first | refine blk_drewN ?_ _ | refine blk_drew ?_ | refine blk_alloc ?_ _)); exact BK612.out)) : gb612 ≠ gb625)); have n8_ := Aside0.mk ((by rw [hg]; exact Nat.ne_of_gt (blk_lt (g := gb612) (o := .cells #[.slice (some ad624) l0_0.length c0_0, .slice A0_1 l0_1.length c0_1, .slice A0_2 l0_2.length c0_2, .int .i64 a0_3] 26 (0, 0)) (by (with_reducible repeat (first | refine blk_drewN ?_ _ | refine blk_drew ?_ | refine blk_alloc ?_ _)); exact BK612.out)) : gb625 ≠ gb612)); clear HO_7; clear HO_8; clear BK612; clear HB; have HO_7 := n0_; have HO_8 := n1_; have BK612 := n2_; have HB := n3_; have BK625 := n4_; have GW625 := n5_; have GE625 := n6_; have NB612_625 := n7_; have NB625_612 := n8_; clear n0_ n1_ n2_ n3_ n4_ n5_ n6_ n7_ n8_; clear hb hbox hg; have hnb35 := NB625_612.out; have hnc35 := NB612_625.out; have hcz36_0 : w34.cell? ⟨gb625, 0, none⟩ = some (.string (⟨#[]⟩ : ByteArray)) := (blk_cell BK625.out 0).trans rfl; have hcz36_1 : w34.cell? ⟨gb625, 1, none⟩ = some (.int .i64 0) := (blk_cell BK625.out 1).trans rfl; have hcz36_2 : w34.cell? ⟨gb625, 2, none⟩ = some (.slice none 0 0) := (blk_cell BK625.out 2).trans rfl; have hfz36_0 := blk_frozen BK625.out 0; have hfz36_1 := blk_frozen BK625.out 1; have hfz36_2 := blk_frozen BK625.out 2))
            (try simp only [Act.put, List.setIfInBounds_toArray, List.set_cons_zero, List.set_cons_succ])
            go_cut [105] (fun v105 wc => ∃ (kq : Nat) (x105_31 : Bool), v105 = .bool x105_31 ∧ Aside0 (dancestudiolaw50_RehearseNobody.j2 kq l1 a2 x7_2 x8_2 x9_2 x105_31 l0_0 l0_1 l0_2 a0_3 ((rd_T53 l0_0 x9_2).f0) ((rd_T53 l0_0 x9_2).f1) ((rd_T53 l0_0 x9_2).f2) = some r) ∧ Aside0 (kq ≤ k2) ∧ Aside0 (Kd.R (Kd.int .i64) 49 wc w.heap.size (fun k_ => some k_ ≠ (Value.slice (some ⟨gb622, 0, none⟩) 4 4).ownBlock) (.slice (some ⟨gb619, 0, none⟩) 24 24) x7_2) ∧ Aside0 (Kd.R (Kd.int .i64) 50 wc w.heap.size (fun k_ => some k_ ≠ (Value.slice (some ⟨gb619, 0, none⟩) 24 24).ownBlock) (.slice (some ⟨gb622, 0, none⟩) 4 4) x8_2) ∧ Aside0 (wc.heap[gb612]? = some (.cells #[(.slice (some ad624) l0_0.length c0_0), (.slice A0_1 l0_1.length c0_1), (.slice A0_2 l0_2.length c0_2), .int .i64 a0_3] 26 (0, 0))) ∧ Aside0 (wc.heap[gb625]? = some (.cells #[.string ((rd_T53 l0_0 x9_2).f0), .int .i64 ((rd_T53 l0_0 x9_2).f1), (.slice A624_2 ((rd_T53 l0_0 x9_2).f2).length c624_2)] 53 (0, 0))) ∧ Aside0 (Below w.heap.size w wc))
            case first => as_aux_lemma =>
             have H := HC32.out
             clear HC32
             by_cases c37 : ((rd_T48 l1 x9_2).f0) = x9_2
             ·
              rw [if_pos c37] at H
              have c37b0 : (((rd_T48 l1 x9_2).f0) == x9_2) = true := beq_iff_eq.mpr c37
              have c37b1 : (((rd_T48 l1 x9_2).f0) != x9_2) = false := bne_eq_false_iff_eq.mpr c37
              clear c37
              (first | rw [c37b0] | (simp only [i64_w, i32_w]; rw [c37b0]) | skip)
              by_cases c38 : ((rd_T48 l1 x9_2).f2) < 0
              · as_aux_lemma =>
               rw [if_pos c38] at H
               have c38b0 : decide (((rd_T48 l1 x9_2).f2) < 0) = true := decide_eq_true c38
               clear c38
               have H' := Aside0.mk H
               clear H
               try go_wp2
               have n0_ : Aside0 (Kd.R (Kd.int .i64) 49 (((w34.setCell ⟨gb625, 0, none⟩ (.string ((rd_T53 l0_0 x9_2).f0))).setCell ⟨gb625, 1, none⟩ (.int .i64 ((rd_T53 l0_0 x9_2).f1))).setCell ⟨gb625, 2, none⟩ (.slice A624_2 ((rd_T53 l0_0 x9_2).f2).length c624_2)) w.heap.size (fun k_ => some k_ ≠ (Value.slice (some ⟨gb622, 0, none⟩) 4 4).ownBlock) (.slice (some ⟨gb619, 0, none⟩) 24 24) x7_2) := ⟨by (with_reducible repeat (first | apply Kd.R_alloc | apply Kd.R_drewN | apply Kd.R_drew)); exact Kd.R_mono (Kd.R_far (p := ⟨gb625, 2, none⟩) (Kd.R_far (p := ⟨gb625, 1, none⟩) (Kd.R_far (p := ⟨gb625, 0, none⟩) (Kd.R_types HO_7.out BK625.out (by decide)) (fun _ hk => hk.2) (.string ((rd_T53 l0_0 x9_2).f0))) (fun _ hk => hk.2) (.int .i64 ((rd_T53 l0_0 x9_2).f1))) (fun _ hk => hk.2) (.slice A624_2 ((rd_T53 l0_0 x9_2).f2).length c624_2)) (fun _ hk => hk.1)⟩
               have n1_ : Aside0 (Kd.R (Kd.int .i64) 50 (((w34.setCell ⟨gb625, 0, none⟩ (.string ((rd_T53 l0_0 x9_2).f0))).setCell ⟨gb625, 1, none⟩ (.int .i64 ((rd_T53 l0_0 x9_2).f1))).setCell ⟨gb625, 2, none⟩ (.slice A624_2 ((rd_T53 l0_0 x9_2).f2).length c624_2)) w.heap.size (fun k_ => some k_ ≠ (Value.slice (some ⟨gb619, 0, none⟩) 24 24).ownBlock) (.slice (some ⟨gb622, 0, none⟩) 4 4) x8_2) := ⟨by (with_reducible repeat (first | apply Kd.R_alloc | apply Kd.R_drewN | apply Kd.R_drew)); exact Kd.R_mono (Kd.R_far (p := ⟨gb625, 2, none⟩) (Kd.R_far (p := ⟨gb625, 1, none⟩) (Kd.R_far (p := ⟨gb625, 0, none⟩) (Kd.R_types HO_8.out BK625.out (by decide)) (fun _ hk => hk.2) (.string ((rd_T53 l0_0 x9_2).f0))) (fun _ hk => hk.2) (.int .i64 ((rd_T53 l0_0 x9_2).f1))) (fun _ hk => hk.2) (.slice A624_2 ((rd_T53 l0_0 x9_2).f2).length c624_2)) (fun _ hk => hk.1)⟩
               have n2_ : Aside0 ((((w34.setCell ⟨gb625, 0, none⟩ (.string ((rd_T53 l0_0 x9_2).f0))).setCell ⟨gb625, 1, none⟩ (.int .i64 ((rd_T53 l0_0 x9_2).f1))).setCell ⟨gb625, 2, none⟩ (.slice A624_2 ((rd_T53 l0_0 x9_2).f2).length c624_2)).heap[gb612]? = some (.cells #[.slice (some ad624) l0_0.length c0_0, .slice A0_1 l0_1.length c0_1, .slice A0_2 l0_2.length c0_2, .int .i64 a0_3] 26 (0, 0))) := ⟨by (with_reducible repeat (first | refine blk_drewN ?_ _ | refine blk_drew ?_ | refine blk_alloc ?_ _)); refine blk_far ?_ NB612_625.out _; (with_reducible repeat (first | refine blk_drewN ?_ _ | refine blk_drew ?_ | refine blk_alloc ?_ _)); refine blk_far ?_ NB612_625.out _; (with_reducible repeat (first | refine blk_drewN ?_ _ | refine blk_drew ?_ | refine blk_alloc ?_ _)); refine blk_far ?_ NB612_625.out _; (with_reducible repeat (first | refine blk_drewN ?_ _ | refine blk_drew ?_ | refine blk_alloc ?_ _)); exact BK612.out⟩
               have n3_ : Aside0 ((((w34.setCell ⟨gb625, 0, none⟩ (.string ((rd_T53 l0_0 x9_2).f0))).setCell ⟨gb625, 1, none⟩ (.int .i64 ((rd_T53 l0_0 x9_2).f1))).setCell ⟨gb625, 2, none⟩ (.slice A624_2 ((rd_T53 l0_0 x9_2).f2).length c624_2)).heap[gb625]? = some (.cells #[.string ((rd_T53 l0_0 x9_2).f0), .int .i64 ((rd_T53 l0_0 x9_2).f1), .slice A624_2 ((rd_T53 l0_0 x9_2).f2).length c624_2] 53 (0, 0))) := ⟨by (with_reducible repeat (first | refine blk_drewN ?_ _ | refine blk_drew ?_ | refine blk_alloc ?_ _)); refine blk_put (cs := #[.string ((rd_T53 l0_0 x9_2).f0), .int .i64 ((rd_T53 l0_0 x9_2).f1), .slice none 0 0]) ?_ 2 _ rfl; (with_reducible repeat (first | refine blk_drewN ?_ _ | refine blk_drew ?_ | refine blk_alloc ?_ _)); refine blk_put (cs := #[.string ((rd_T53 l0_0 x9_2).f0), .int .i64 0, .slice none 0 0]) ?_ 1 _ rfl; (with_reducible repeat (first | refine blk_drewN ?_ _ | refine blk_drew ?_ | refine blk_alloc ?_ _)); refine blk_put (cs := #[.string (⟨#[]⟩ : ByteArray), .int .i64 0, .slice none 0 0]) ?_ 0 _ rfl; (with_reducible repeat (first | refine blk_drewN ?_ _ | refine blk_drew ?_ | refine blk_alloc ?_ _)); exact BK625.out⟩
               have n4_ : Aside0 (Below w.heap.size w (((w34.setCell ⟨gb625, 0, none⟩ (.string ((rd_T53 l0_0 x9_2).f0))).setCell ⟨gb625, 1, none⟩ (.int .i64 ((rd_T53 l0_0 x9_2).f1))).setCell ⟨gb625, 2, none⟩ (.slice A624_2 ((rd_T53 l0_0 x9_2).f2).length c624_2))) := ⟨by repeat (first | (with_reducible first | exact HB.out | apply below_alloc | apply pw_below_drewN | apply below_drew1 | refine below_set ?_ GE612.out | refine below_set ?_ GE625.out) | exact HB.out)⟩
               (try clear HO_7)
               (try clear HO_8)
               (try clear BK612)
               (try clear BK625)
               (try clear HB)
               generalize (((w34.setCell ⟨gb625, 0, none⟩ (.string ((rd_T53 l0_0 x9_2).f0))).setCell ⟨gb625, 1, none⟩ (.int .i64 ((rd_T53 l0_0 x9_2).f1))).setCell ⟨gb625, 2, none⟩ (.slice A624_2 ((rd_T53 l0_0 x9_2).f2).length c624_2)) = w39 at n0_ n1_ n2_ n3_ n4_ ⊢
               have HO_7 := n0_
               have HO_8 := n1_
               have BK612 := n2_
               have BK625 := n3_
               have HB := n4_
               clear n0_ n1_ n2_ n3_ n4_
               have n0_ := Aside0.mk (Kd.R_drew HO_7.out)
               have n1_ := Aside0.mk (Kd.R_drew HO_8.out)
               have n2_ := Aside0.mk (blk_drew BK612.out)
               have n3_ := Aside0.mk (blk_drew BK625.out)
               have n4_ := Aside0.mk (below_drew1 HB.out)
               clear HO_7
               clear HO_8
               clear BK612
               clear BK625
               clear HB
               have HO_7 := n0_
               have HO_8 := n1_
               have BK612 := n2_
               have BK625 := n3_
               have HB := n4_
               clear n0_ n1_ n2_ n3_ n4_
               have p626 : 0 ≤ (x9_2 : Int) := of_decide_eq_true (by first | (with_reducible assumption) | assumption)
               have q626 : x9_2 < (l1.length : Int) := of_decide_eq_true (by first | (with_reducible assumption) | assumption)
               obtain ⟨ad626, e626, hx626_0, hx626_1, hx626_2⟩ := at_T48 HR1.out x9_2 p626 q626
               have hw626_2 := hx626_2
               have hw626_1 := hx626_1
               have hw626_0 := hx626_0
               cases e626
               replace hx626_0 := (HB.out.cell (World.block_lt_of_cell? w _ hx626_0)).trans hx626_0
               replace hx626_1 := (HB.out.cell (World.block_lt_of_cell? w _ hx626_1)).trans hx626_1
               replace hx626_2 := (HB.out.cell (World.block_lt_of_cell? w _ hx626_2)).trans hx626_2
               replace p626 := eq_true p626
               replace q626 := eq_true q626
               have p627 : 0 ≤ (x9_2 : Int) := of_decide_eq_true (by first | (with_reducible assumption) | assumption)
               have q627 : x9_2 < (l1.length : Int) := of_decide_eq_true (by first | (with_reducible assumption) | assumption)
               obtain ⟨ad627, e627, hx627_0, hx627_1, hx627_2⟩ := at_T48 HR1.out x9_2 p627 q627
               have hw627_2 := hx627_2
               have hw627_1 := hx627_1
               have hw627_0 := hx627_0
               obtain rfl : ad626 = ad627 := (by injection e627)
               replace hx627_0 := (HB.out.cell (World.block_lt_of_cell? w _ hx627_0)).trans hx627_0
               replace hx627_1 := (HB.out.cell (World.block_lt_of_cell? w _ hx627_1)).trans hx627_1
               replace hx627_2 := (HB.out.cell (World.block_lt_of_cell? w _ hx627_2)).trans hx627_2
               replace p627 := eq_true p627
               replace q627 := eq_true q627
               refine start_ (n := 63) (S := fun w' => w'.cell? (ad626.add ((x9_2).toNat * 3)) = some (.int .i64 ((rd_T48 l1 x9_2).f0)) ∧ w'.cell? ⟨(ad626.add ((x9_2).toNat * 3)).block, (ad626.add ((x9_2).toNat * 3)).off + 1, none⟩ = some (.int .i64 ((rd_T48 l1 x9_2).f1)) ∧ w'.cell? ⟨(ad626.add ((x9_2).toNat * 3)).block, (ad626.add ((x9_2).toNat * 3)).off + 2, none⟩ = some (.int .i64 ((rd_T48 l1 x9_2).f2)) ∧ w'.cell? (ad626.add ((x9_2).toNat * 3)) = some (.int .i64 ((rd_T48 l1 x9_2).f0)) ∧ w'.cell? ⟨(ad626.add ((x9_2).toNat * 3)).block, (ad626.add ((x9_2).toNat * 3)).off + 1, none⟩ = some (.int .i64 ((rd_T48 l1 x9_2).f1)) ∧ w'.cell? ⟨(ad626.add ((x9_2).toNat * 3)).block, (ad626.add ((x9_2).toNat * 3)).off + 2, none⟩ = some (.int .i64 ((rd_T48 l1 x9_2).f2))) (ds := []) #[false, false, false, false, false, false, false, false, false, false, false, false, false, false, false, false, false, false, false, false, false, false, false, false, false, false, false, false, false, false, false, false, false, false, false, false, false, false, false, false, false, false, false, false, false, false, false, false, false, false, false, false, false, false, false, false, false, false, false, false, false, false, false] (by kernel_rfl) rfl rfl ⟨((HB.out.cell (World.block_lt_of_cell? w _ hw626_0)).trans hw626_0), ((HB.out.cell (World.block_lt_of_cell? w _ hw626_1)).trans hw626_1), ((HB.out.cell (World.block_lt_of_cell? w _ hw626_2)).trans hw626_2), ((HB.out.cell (World.block_lt_of_cell? w _ hw627_0)).trans hw627_0), ((HB.out.cell (World.block_lt_of_cell? w _ hw627_1)).trans hw627_1), ((HB.out.cell (World.block_lt_of_cell? w _ hw627_2)).trans hw627_2)⟩ (fun hHeld => ?_); refine with_tabW dancestudiolaw50_RehearseNobody.tab11 dancestudiolaw50_RehearseNobody.bits11 (fun HT_ HW_ => ?_)
               generalize w39.drew = w40 at HO_7 HO_8 BK612 BK625 HB hx626_0 hx626_1 hx626_2 hx627_0 hx627_1 hx627_2 hHeld ⊢
               refine pM 0 43 HT_ ?_
               refine pM 1 44 HT_ ?_
               refine pM 2 45 HT_ ?_
               refine pM 3 46 HT_ ?_
               refine pM 5 48 HT_ ?_
               refine tM 4 47 rfl HT_ HW_ (by rintro w' ⟨s0, s1, s2, s3, s4, s5⟩; go_simp; with_reducible rfl) hHeld ?_
               refine pM 6 49 HT_ ?_
               refine pM 7 50 HT_ ?_
               refine pM 8 51 HT_ ?_
               refine pM 9 52 HT_ ?_
               refine pM 10 53 HT_ ?_
               refine pM 11 54 HT_ ?_
               refine tM 12 55 rfl HT_ HW_ (by rintro w' ⟨s0, s1, s2, s3, s4, s5⟩; go_simp; with_reducible rfl) hHeld ?_
               refine pM 13 56 HT_ ?_
               refine pM 14 57 HT_ ?_
               refine pM 15 58 HT_ ?_
               refine uM 16 59 HT_ ?_
               refine uM 17 60 HT_ ?_
               refine uM 18 61 HT_ ?_
               refine uM 19 62 HT_ ?_
               refine uM 20 63 HT_ ?_
               refine uM 21 64 HT_ ?_
               refine uM 22 65 HT_ ?_
               refine uM 23 66 HT_ ?_
               refine uM 24 67 HT_ ?_
               refine uM 25 68 HT_ ?_
               refine uM 26 69 HT_ ?_
               refine pM 27 70 HT_ ?_
               refine pM 28 71 HT_ ?_
               refine uM 29 72 HT_ ?_
               refine uM 30 73 HT_ ?_
               refine uM 31 74 HT_ ?_
               refine uM 32 75 HT_ ?_
               refine uM 33 76 HT_ ?_
               refine uM 34 77 HT_ ?_
               refine pM 35 78 HT_ ?_
               refine pM 36 79 HT_ ?_
               refine uM 37 80 HT_ ?_
               refine uM 38 81 HT_ ?_
               refine uM 39 82 HT_ ?_
               refine uM 40 83 HT_ ?_
               refine uM 41 84 HT_ ?_
               refine uM 42 85 HT_ ?_
               refine uM 43 86 HT_ ?_
               refine uM 44 87 HT_ ?_
               refine uM 45 88 HT_ ?_
               refine pM 46 89 HT_ ?_
               refine pM 47 90 HT_ ?_
               refine uM 48 91 HT_ ?_
               refine uM 49 92 HT_ ?_
               refine uM 50 93 HT_ ?_
               refine uM 51 94 HT_ ?_
               refine uM 52 95 HT_ ?_
               refine uM 53 96 HT_ ?_
               refine uM 54 97 HT_ ?_
               refine uM 55 98 HT_ ?_
               refine uM 56 99 HT_ ?_
               refine uM 57 100 HT_ ?_
               refine uM 58 101 HT_ ?_
               refine uM 59 102 HT_ ?_
               refine uM 60 103 HT_ ?_
               refine uM 61 104 HT_ ?_
               refine pM 62 105 HT_ ?_
               refine done_ (done_of HT_.out (by kernel_rfl)) ?_
               try go_wp2
               go_meet
               case rel => exact ⟨_, (true), (by first | rfl | (simp; done) | (simp [*]; done)), H', ⟨by have := HJ6.out; have := HK2.out; first | omega | exact Nat.le_refl _⟩, ⟨by (with_reducible repeat (first | apply Kd.R_alloc | apply Kd.R_drewN | apply Kd.R_drew)); exact HO_7.out⟩, ⟨by (with_reducible repeat (first | apply Kd.R_alloc | apply Kd.R_drewN | apply Kd.R_drew)); exact HO_8.out⟩, ⟨by (with_reducible repeat (first | refine blk_drewN ?_ _ | refine blk_drew ?_ | refine blk_alloc ?_ _)); exact BK612.out⟩, ⟨by (with_reducible repeat (first | refine blk_drewN ?_ _ | refine blk_drew ?_ | refine blk_alloc ?_ _)); exact BK625.out⟩, ⟨by repeat (first | (with_reducible first | exact HB.out | apply below_alloc | apply pw_below_drewN | apply below_drew1 | refine below_set ?_ GE612.out | refine below_set ?_ GE625.out) | exact HB.out)⟩⟩
              ·
               rw [if_neg c38] at H
               have c38b0 : decide (((rd_T48 l1 x9_2).f2) < 0) = false := decide_eq_false c38
               clear c38
               by_cases c41 : ((rd_T48 l1 x9_2).f2) > (wrap64 (a0_3 - ((rd_T53 l0_0 x9_2).f1)))
               · as_aux_lemma =>
                rw [if_pos c41] at H
                have c41b0 : decide ((wrap64 (a0_3 - ((rd_T53 l0_0 x9_2).f1))) < ((rd_T48 l1 x9_2).f2)) = true := decide_eq_true c41
                clear c41
                have H' := Aside0.mk H
                clear H
                try go_wp2
                have n0_ : Aside0 (Kd.R (Kd.int .i64) 49 (((w34.setCell ⟨gb625, 0, none⟩ (.string ((rd_T53 l0_0 x9_2).f0))).setCell ⟨gb625, 1, none⟩ (.int .i64 ((rd_T53 l0_0 x9_2).f1))).setCell ⟨gb625, 2, none⟩ (.slice A624_2 ((rd_T53 l0_0 x9_2).f2).length c624_2)) w.heap.size (fun k_ => some k_ ≠ (Value.slice (some ⟨gb622, 0, none⟩) 4 4).ownBlock) (.slice (some ⟨gb619, 0, none⟩) 24 24) x7_2) := ⟨by (with_reducible repeat (first | apply Kd.R_alloc | apply Kd.R_drewN | apply Kd.R_drew)); exact Kd.R_mono (Kd.R_far (p := ⟨gb625, 2, none⟩) (Kd.R_far (p := ⟨gb625, 1, none⟩) (Kd.R_far (p := ⟨gb625, 0, none⟩) (Kd.R_types HO_7.out BK625.out (by decide)) (fun _ hk => hk.2) (.string ((rd_T53 l0_0 x9_2).f0))) (fun _ hk => hk.2) (.int .i64 ((rd_T53 l0_0 x9_2).f1))) (fun _ hk => hk.2) (.slice A624_2 ((rd_T53 l0_0 x9_2).f2).length c624_2)) (fun _ hk => hk.1)⟩
                have n1_ : Aside0 (Kd.R (Kd.int .i64) 50 (((w34.setCell ⟨gb625, 0, none⟩ (.string ((rd_T53 l0_0 x9_2).f0))).setCell ⟨gb625, 1, none⟩ (.int .i64 ((rd_T53 l0_0 x9_2).f1))).setCell ⟨gb625, 2, none⟩ (.slice A624_2 ((rd_T53 l0_0 x9_2).f2).length c624_2)) w.heap.size (fun k_ => some k_ ≠ (Value.slice (some ⟨gb619, 0, none⟩) 24 24).ownBlock) (.slice (some ⟨gb622, 0, none⟩) 4 4) x8_2) := ⟨by (with_reducible repeat (first | apply Kd.R_alloc | apply Kd.R_drewN | apply Kd.R_drew)); exact Kd.R_mono (Kd.R_far (p := ⟨gb625, 2, none⟩) (Kd.R_far (p := ⟨gb625, 1, none⟩) (Kd.R_far (p := ⟨gb625, 0, none⟩) (Kd.R_types HO_8.out BK625.out (by decide)) (fun _ hk => hk.2) (.string ((rd_T53 l0_0 x9_2).f0))) (fun _ hk => hk.2) (.int .i64 ((rd_T53 l0_0 x9_2).f1))) (fun _ hk => hk.2) (.slice A624_2 ((rd_T53 l0_0 x9_2).f2).length c624_2)) (fun _ hk => hk.1)⟩
                have n2_ : Aside0 ((((w34.setCell ⟨gb625, 0, none⟩ (.string ((rd_T53 l0_0 x9_2).f0))).setCell ⟨gb625, 1, none⟩ (.int .i64 ((rd_T53 l0_0 x9_2).f1))).setCell ⟨gb625, 2, none⟩ (.slice A624_2 ((rd_T53 l0_0 x9_2).f2).length c624_2)).heap[gb612]? = some (.cells #[.slice (some ad624) l0_0.length c0_0, .slice A0_1 l0_1.length c0_1, .slice A0_2 l0_2.length c0_2, .int .i64 a0_3] 26 (0, 0))) := ⟨by (with_reducible repeat (first | refine blk_drewN ?_ _ | refine blk_drew ?_ | refine blk_alloc ?_ _)); refine blk_far ?_ NB612_625.out _; (with_reducible repeat (first | refine blk_drewN ?_ _ | refine blk_drew ?_ | refine blk_alloc ?_ _)); refine blk_far ?_ NB612_625.out _; (with_reducible repeat (first | refine blk_drewN ?_ _ | refine blk_drew ?_ | refine blk_alloc ?_ _)); refine blk_far ?_ NB612_625.out _; (with_reducible repeat (first | refine blk_drewN ?_ _ | refine blk_drew ?_ | refine blk_alloc ?_ _)); exact BK612.out⟩
                have n3_ : Aside0 ((((w34.setCell ⟨gb625, 0, none⟩ (.string ((rd_T53 l0_0 x9_2).f0))).setCell ⟨gb625, 1, none⟩ (.int .i64 ((rd_T53 l0_0 x9_2).f1))).setCell ⟨gb625, 2, none⟩ (.slice A624_2 ((rd_T53 l0_0 x9_2).f2).length c624_2)).heap[gb625]? = some (.cells #[.string ((rd_T53 l0_0 x9_2).f0), .int .i64 ((rd_T53 l0_0 x9_2).f1), .slice A624_2 ((rd_T53 l0_0 x9_2).f2).length c624_2] 53 (0, 0))) := ⟨by (with_reducible repeat (first | refine blk_drewN ?_ _ | refine blk_drew ?_ | refine blk_alloc ?_ _)); refine blk_put (cs := #[.string ((rd_T53 l0_0 x9_2).f0), .int .i64 ((rd_T53 l0_0 x9_2).f1), .slice none 0 0]) ?_ 2 _ rfl; (with_reducible repeat (first | refine blk_drewN ?_ _ | refine blk_drew ?_ | refine blk_alloc ?_ _)); refine blk_put (cs := #[.string ((rd_T53 l0_0 x9_2).f0), .int .i64 0, .slice none 0 0]) ?_ 1 _ rfl; (with_reducible repeat (first | refine blk_drewN ?_ _ | refine blk_drew ?_ | refine blk_alloc ?_ _)); refine blk_put (cs := #[.string (⟨#[]⟩ : ByteArray), .int .i64 0, .slice none 0 0]) ?_ 0 _ rfl; (with_reducible repeat (first | refine blk_drewN ?_ _ | refine blk_drew ?_ | refine blk_alloc ?_ _)); exact BK625.out⟩
                have n4_ : Aside0 (Below w.heap.size w (((w34.setCell ⟨gb625, 0, none⟩ (.string ((rd_T53 l0_0 x9_2).f0))).setCell ⟨gb625, 1, none⟩ (.int .i64 ((rd_T53 l0_0 x9_2).f1))).setCell ⟨gb625, 2, none⟩ (.slice A624_2 ((rd_T53 l0_0 x9_2).f2).length c624_2))) := ⟨by repeat (first | (with_reducible first | exact HB.out | apply below_alloc | apply pw_below_drewN | apply below_drew1 | refine below_set ?_ GE612.out | refine below_set ?_ GE625.out) | exact HB.out)⟩
                (try clear HO_7)
                (try clear HO_8)
                (try clear BK612)
                (try clear BK625)
                (try clear HB)
                generalize (((w34.setCell ⟨gb625, 0, none⟩ (.string ((rd_T53 l0_0 x9_2).f0))).setCell ⟨gb625, 1, none⟩ (.int .i64 ((rd_T53 l0_0 x9_2).f1))).setCell ⟨gb625, 2, none⟩ (.slice A624_2 ((rd_T53 l0_0 x9_2).f2).length c624_2)) = w42 at n0_ n1_ n2_ n3_ n4_ ⊢
                have HO_7 := n0_
                have HO_8 := n1_
                have BK612 := n2_
                have BK625 := n3_
                have HB := n4_
                clear n0_ n1_ n2_ n3_ n4_
                have n0_ := Aside0.mk (Kd.R_drew HO_7.out)
                have n1_ := Aside0.mk (Kd.R_drew HO_8.out)
                have n2_ := Aside0.mk (blk_drew BK612.out)
                have n3_ := Aside0.mk (blk_drew BK625.out)
                have n4_ := Aside0.mk (below_drew1 HB.out)
                clear HO_7
                clear HO_8
                clear BK612
                clear BK625
                clear HB
                have HO_7 := n0_
                have HO_8 := n1_
                have BK612 := n2_
                have BK625 := n3_
                have HB := n4_
                clear n0_ n1_ n2_ n3_ n4_
                have p626 : 0 ≤ (x9_2 : Int) := of_decide_eq_true (by first | (with_reducible assumption) | assumption)
                have q626 : x9_2 < (l1.length : Int) := of_decide_eq_true (by first | (with_reducible assumption) | assumption)
                obtain ⟨ad626, e626, hx626_0, hx626_1, hx626_2⟩ := at_T48 HR1.out x9_2 p626 q626
                have hw626_2 := hx626_2
                have hw626_1 := hx626_1
                have hw626_0 := hx626_0
                cases e626
                replace hx626_0 := (HB.out.cell (World.block_lt_of_cell? w _ hx626_0)).trans hx626_0
                replace hx626_1 := (HB.out.cell (World.block_lt_of_cell? w _ hx626_1)).trans hx626_1
                replace hx626_2 := (HB.out.cell (World.block_lt_of_cell? w _ hx626_2)).trans hx626_2
                replace p626 := eq_true p626
                replace q626 := eq_true q626
                have p627 : 0 ≤ (x9_2 : Int) := of_decide_eq_true (by first | (with_reducible assumption) | assumption)
                have q627 : x9_2 < (l1.length : Int) := of_decide_eq_true (by first | (with_reducible assumption) | assumption)
                obtain ⟨ad627, e627, hx627_0, hx627_1, hx627_2⟩ := at_T48 HR1.out x9_2 p627 q627
                have hw627_2 := hx627_2
                have hw627_1 := hx627_1
                have hw627_0 := hx627_0
                obtain rfl : ad626 = ad627 := (by injection e627)
                replace hx627_0 := (HB.out.cell (World.block_lt_of_cell? w _ hx627_0)).trans hx627_0
                replace hx627_1 := (HB.out.cell (World.block_lt_of_cell? w _ hx627_1)).trans hx627_1
                replace hx627_2 := (HB.out.cell (World.block_lt_of_cell? w _ hx627_2)).trans hx627_2
                replace p627 := eq_true p627
                replace q627 := eq_true q627
                have p628 : 0 ≤ (x9_2 : Int) := of_decide_eq_true (by first | (with_reducible assumption) | assumption)
                have q628 : x9_2 < (l1.length : Int) := of_decide_eq_true (by first | (with_reducible assumption) | assumption)
                obtain ⟨ad628, e628, hx628_0, hx628_1, hx628_2⟩ := at_T48 HR1.out x9_2 p628 q628
                have hw628_2 := hx628_2
                have hw628_1 := hx628_1
                have hw628_0 := hx628_0
                obtain rfl : ad626 = ad628 := (by injection e628)
                replace hx628_0 := (HB.out.cell (World.block_lt_of_cell? w _ hx628_0)).trans hx628_0
                replace hx628_1 := (HB.out.cell (World.block_lt_of_cell? w _ hx628_1)).trans hx628_1
                replace hx628_2 := (HB.out.cell (World.block_lt_of_cell? w _ hx628_2)).trans hx628_2
                replace p628 := eq_true p628
                replace q628 := eq_true q628
                refine start_ (n := 63) (S := fun w' => w'.cell? ⟨gb612, 0, none⟩ = some (.slice (some ad624) l0_0.length c0_0) ∧ w'.cell? ⟨gb612, 1, none⟩ = some (.slice A0_1 l0_1.length c0_1) ∧ w'.cell? ⟨gb612, 2, none⟩ = some (.slice A0_2 l0_2.length c0_2) ∧ w'.cell? ⟨gb612, 3, none⟩ = some (.int .i64 a0_3) ∧ w'.cell? ⟨gb625, 0, none⟩ = some (.string ((rd_T53 l0_0 x9_2).f0)) ∧ w'.cell? ⟨gb625, 1, none⟩ = some (.int .i64 ((rd_T53 l0_0 x9_2).f1)) ∧ w'.cell? ⟨gb625, 2, none⟩ = some (.slice A624_2 ((rd_T53 l0_0 x9_2).f2).length c624_2) ∧ w'.cell? (ad626.add ((x9_2).toNat * 3)) = some (.int .i64 ((rd_T48 l1 x9_2).f0)) ∧ w'.cell? ⟨(ad626.add ((x9_2).toNat * 3)).block, (ad626.add ((x9_2).toNat * 3)).off + 1, none⟩ = some (.int .i64 ((rd_T48 l1 x9_2).f1)) ∧ w'.cell? ⟨(ad626.add ((x9_2).toNat * 3)).block, (ad626.add ((x9_2).toNat * 3)).off + 2, none⟩ = some (.int .i64 ((rd_T48 l1 x9_2).f2)) ∧ w'.cell? (ad626.add ((x9_2).toNat * 3)) = some (.int .i64 ((rd_T48 l1 x9_2).f0)) ∧ w'.cell? ⟨(ad626.add ((x9_2).toNat * 3)).block, (ad626.add ((x9_2).toNat * 3)).off + 1, none⟩ = some (.int .i64 ((rd_T48 l1 x9_2).f1)) ∧ w'.cell? ⟨(ad626.add ((x9_2).toNat * 3)).block, (ad626.add ((x9_2).toNat * 3)).off + 2, none⟩ = some (.int .i64 ((rd_T48 l1 x9_2).f2)) ∧ w'.cell? (ad626.add ((x9_2).toNat * 3)) = some (.int .i64 ((rd_T48 l1 x9_2).f0)) ∧ w'.cell? ⟨(ad626.add ((x9_2).toNat * 3)).block, (ad626.add ((x9_2).toNat * 3)).off + 1, none⟩ = some (.int .i64 ((rd_T48 l1 x9_2).f1)) ∧ w'.cell? ⟨(ad626.add ((x9_2).toNat * 3)).block, (ad626.add ((x9_2).toNat * 3)).off + 2, none⟩ = some (.int .i64 ((rd_T48 l1 x9_2).f2))) (ds := []) #[false, false, false, false, false, false, false, false, false, false, false, false, false, false, false, false, false, false, false, false, false, false, false, false, false, false, false, false, false, false, false, false, false, false, false, false, false, false, false, false, false, false, false, false, false, false, false, false, false, false, false, false, false, false, false, false, false, false, false, false, false, false, false] (by kernel_rfl) rfl rfl ⟨(blk_cell BK612.out 0).trans rfl, (blk_cell BK612.out 1).trans rfl, (blk_cell BK612.out 2).trans rfl, (blk_cell BK612.out 3).trans rfl, (blk_cell BK625.out 0).trans rfl, (blk_cell BK625.out 1).trans rfl, (blk_cell BK625.out 2).trans rfl, ((HB.out.cell (World.block_lt_of_cell? w _ hw626_0)).trans hw626_0), ((HB.out.cell (World.block_lt_of_cell? w _ hw626_1)).trans hw626_1), ((HB.out.cell (World.block_lt_of_cell? w _ hw626_2)).trans hw626_2), ((HB.out.cell (World.block_lt_of_cell? w _ hw627_0)).trans hw627_0), ((HB.out.cell (World.block_lt_of_cell? w _ hw627_1)).trans hw627_1), ((HB.out.cell (World.block_lt_of_cell? w _ hw627_2)).trans hw627_2), ((HB.out.cell (World.block_lt_of_cell? w _ hw628_0)).trans hw628_0), ((HB.out.cell (World.block_lt_of_cell? w _ hw628_1)).trans hw628_1), ((HB.out.cell (World.block_lt_of_cell? w _ hw628_2)).trans hw628_2)⟩ (fun hHeld => ?_); refine with_tabW dancestudiolaw50_RehearseNobody.tab11 dancestudiolaw50_RehearseNobody.bits11 (fun HT_ HW_ => ?_)
                generalize w42.drew = w43 at HO_7 HO_8 BK612 BK625 HB hx626_0 hx626_1 hx626_2 hx627_0 hx627_1 hx627_2 hx628_0 hx628_1 hx628_2 hHeld ⊢
                refine pM 0 43 HT_ ?_
                refine pM 1 44 HT_ ?_
                refine pM 2 45 HT_ ?_
                refine pM 3 46 HT_ ?_
                refine pM 5 48 HT_ ?_
                refine tM 4 47 rfl HT_ HW_ (by rintro w' ⟨s0, s1, s2, s3, s4, s5, s6, s7, s8, s9, s10, s11, s12, s13, s14, s15⟩; go_simp; with_reducible rfl) hHeld ?_
                refine pM 6 49 HT_ ?_
                refine pM 7 50 HT_ ?_
                refine pM 8 51 HT_ ?_
                refine pM 9 52 HT_ ?_
                refine pM 10 53 HT_ ?_
                refine pM 11 54 HT_ ?_
                refine tM 12 55 rfl HT_ HW_ (by rintro w' ⟨s0, s1, s2, s3, s4, s5, s6, s7, s8, s9, s10, s11, s12, s13, s14, s15⟩; go_simp; with_reducible rfl) hHeld ?_
                refine pM 13 56 HT_ ?_
                refine pM 14 57 HT_ ?_
                refine pM 15 58 HT_ ?_
                refine pM 16 59 HT_ ?_
                refine pM 17 60 HT_ ?_
                refine pM 18 61 HT_ ?_
                refine pM 19 62 HT_ ?_
                refine pM 21 64 HT_ ?_
                refine pM 23 66 HT_ ?_
                refine tM 20 63 rfl HT_ HW_ (by rintro w' ⟨s0, s1, s2, s3, s4, s5, s6, s7, s8, s9, s10, s11, s12, s13, s14, s15⟩; go_simp; with_reducible rfl) hHeld ?_
                refine tM 22 65 rfl HT_ HW_ (by rintro w' ⟨s0, s1, s2, s3, s4, s5, s6, s7, s8, s9, s10, s11, s12, s13, s14, s15⟩; go_simp; with_reducible rfl) hHeld ?_
                refine tM 24 67 rfl HT_ HW_ (by rintro w' ⟨s0, s1, s2, s3, s4, s5, s6, s7, s8, s9, s10, s11, s12, s13, s14, s15⟩; go_simp; with_reducible rfl) hHeld ?_
                refine pM 25 68 HT_ ?_
                refine pM 26 69 HT_ ?_
                refine pM 27 70 HT_ ?_
                refine pM 28 71 HT_ ?_
                refine uM 29 72 HT_ ?_
                refine uM 30 73 HT_ ?_
                refine uM 31 74 HT_ ?_
                refine uM 32 75 HT_ ?_
                refine uM 33 76 HT_ ?_
                refine uM 34 77 HT_ ?_
                refine pM 35 78 HT_ ?_
                refine pM 36 79 HT_ ?_
                refine uM 37 80 HT_ ?_
                refine uM 38 81 HT_ ?_
                refine uM 39 82 HT_ ?_
                refine uM 40 83 HT_ ?_
                refine uM 41 84 HT_ ?_
                refine uM 42 85 HT_ ?_
                refine uM 43 86 HT_ ?_
                refine uM 44 87 HT_ ?_
                refine uM 45 88 HT_ ?_
                refine pM 46 89 HT_ ?_
                refine pM 47 90 HT_ ?_
                refine uM 48 91 HT_ ?_
                refine uM 49 92 HT_ ?_
                refine uM 50 93 HT_ ?_
                refine uM 51 94 HT_ ?_
                refine uM 52 95 HT_ ?_
                refine uM 53 96 HT_ ?_
                refine uM 54 97 HT_ ?_
                refine uM 55 98 HT_ ?_
                refine uM 56 99 HT_ ?_
                refine uM 57 100 HT_ ?_
                refine uM 58 101 HT_ ?_
                refine uM 59 102 HT_ ?_
                refine uM 60 103 HT_ ?_
                refine uM 61 104 HT_ ?_
                refine pM 62 105 HT_ ?_
                refine done_ (done_of HT_.out (by kernel_rfl)) ?_
                try go_wp2
                go_meet
                case rel => exact ⟨_, (true), (by first | rfl | (simp; done) | (simp [*]; done)), H', ⟨by have := HJ6.out; have := HK2.out; first | omega | exact Nat.le_refl _⟩, ⟨by (with_reducible repeat (first | apply Kd.R_alloc | apply Kd.R_drewN | apply Kd.R_drew)); exact HO_7.out⟩, ⟨by (with_reducible repeat (first | apply Kd.R_alloc | apply Kd.R_drewN | apply Kd.R_drew)); exact HO_8.out⟩, ⟨by (with_reducible repeat (first | refine blk_drewN ?_ _ | refine blk_drew ?_ | refine blk_alloc ?_ _)); exact BK612.out⟩, ⟨by (with_reducible repeat (first | refine blk_drewN ?_ _ | refine blk_drew ?_ | refine blk_alloc ?_ _)); exact BK625.out⟩, ⟨by repeat (first | (with_reducible first | exact HB.out | apply below_alloc | apply pw_below_drewN | apply below_drew1 | refine below_set ?_ GE612.out | refine below_set ?_ GE625.out) | exact HB.out)⟩⟩
               ·
                rw [if_neg c41] at H
                have c41b0 : decide ((wrap64 (a0_3 - ((rd_T53 l0_0 x9_2).f1))) < ((rd_T48 l1 x9_2).f2)) = false := decide_eq_false c41
                clear c41
                by_cases c44 : ((rd_T48 l1 x9_2).f1) < 0
                · as_aux_lemma =>
                 rw [if_pos c44] at H
                 have c44b0 : decide (((rd_T48 l1 x9_2).f1) < 0) = true := decide_eq_true c44
                 clear c44
                 have H' := Aside0.mk H
                 clear H
                 try go_wp2
                 have n0_ : Aside0 (Kd.R (Kd.int .i64) 49 (((w34.setCell ⟨gb625, 0, none⟩ (.string ((rd_T53 l0_0 x9_2).f0))).setCell ⟨gb625, 1, none⟩ (.int .i64 ((rd_T53 l0_0 x9_2).f1))).setCell ⟨gb625, 2, none⟩ (.slice A624_2 ((rd_T53 l0_0 x9_2).f2).length c624_2)) w.heap.size (fun k_ => some k_ ≠ (Value.slice (some ⟨gb622, 0, none⟩) 4 4).ownBlock) (.slice (some ⟨gb619, 0, none⟩) 24 24) x7_2) := ⟨by (with_reducible repeat (first | apply Kd.R_alloc | apply Kd.R_drewN | apply Kd.R_drew)); exact Kd.R_mono (Kd.R_far (p := ⟨gb625, 2, none⟩) (Kd.R_far (p := ⟨gb625, 1, none⟩) (Kd.R_far (p := ⟨gb625, 0, none⟩) (Kd.R_types HO_7.out BK625.out (by decide)) (fun _ hk => hk.2) (.string ((rd_T53 l0_0 x9_2).f0))) (fun _ hk => hk.2) (.int .i64 ((rd_T53 l0_0 x9_2).f1))) (fun _ hk => hk.2) (.slice A624_2 ((rd_T53 l0_0 x9_2).f2).length c624_2)) (fun _ hk => hk.1)⟩
                 have n1_ : Aside0 (Kd.R (Kd.int .i64) 50 (((w34.setCell ⟨gb625, 0, none⟩ (.string ((rd_T53 l0_0 x9_2).f0))).setCell ⟨gb625, 1, none⟩ (.int .i64 ((rd_T53 l0_0 x9_2).f1))).setCell ⟨gb625, 2, none⟩ (.slice A624_2 ((rd_T53 l0_0 x9_2).f2).length c624_2)) w.heap.size (fun k_ => some k_ ≠ (Value.slice (some ⟨gb619, 0, none⟩) 24 24).ownBlock) (.slice (some ⟨gb622, 0, none⟩) 4 4) x8_2) := ⟨by (with_reducible repeat (first | apply Kd.R_alloc | apply Kd.R_drewN | apply Kd.R_drew)); exact Kd.R_mono (Kd.R_far (p := ⟨gb625, 2, none⟩) (Kd.R_far (p := ⟨gb625, 1, none⟩) (Kd.R_far (p := ⟨gb625, 0, none⟩) (Kd.R_types HO_8.out BK625.out (by decide)) (fun _ hk => hk.2) (.string ((rd_T53 l0_0 x9_2).f0))) (fun _ hk => hk.2) (.int .i64 ((rd_T53 l0_0 x9_2).f1))) (fun _ hk => hk.2) (.slice A624_2 ((rd_T53 l0_0 x9_2).f2).length c624_2)) (fun _ hk => hk.1)⟩
                 have n2_ : Aside0 ((((w34.setCell ⟨gb625, 0, none⟩ (.string ((rd_T53 l0_0 x9_2).f0))).setCell ⟨gb625, 1, none⟩ (.int .i64 ((rd_T53 l0_0 x9_2).f1))).setCell ⟨gb625, 2, none⟩ (.slice A624_2 ((rd_T53 l0_0 x9_2).f2).length c624_2)).heap[gb612]? = some (.cells #[.slice (some ad624) l0_0.length c0_0, .slice A0_1 l0_1.length c0_1, .slice A0_2 l0_2.length c0_2, .int .i64 a0_3] 26 (0, 0))) := ⟨by (with_reducible repeat (first | refine blk_drewN ?_ _ | refine blk_drew ?_ | refine blk_alloc ?_ _)); refine blk_far ?_ NB612_625.out _; (with_reducible repeat (first | refine blk_drewN ?_ _ | refine blk_drew ?_ | refine blk_alloc ?_ _)); refine blk_far ?_ NB612_625.out _; (with_reducible repeat (first | refine blk_drewN ?_ _ | refine blk_drew ?_ | refine blk_alloc ?_ _)); refine blk_far ?_ NB612_625.out _; (with_reducible repeat (first | refine blk_drewN ?_ _ | refine blk_drew ?_ | refine blk_alloc ?_ _)); exact BK612.out⟩
                 have n3_ : Aside0 ((((w34.setCell ⟨gb625, 0, none⟩ (.string ((rd_T53 l0_0 x9_2).f0))).setCell ⟨gb625, 1, none⟩ (.int .i64 ((rd_T53 l0_0 x9_2).f1))).setCell ⟨gb625, 2, none⟩ (.slice A624_2 ((rd_T53 l0_0 x9_2).f2).length c624_2)).heap[gb625]? = some (.cells #[.string ((rd_T53 l0_0 x9_2).f0), .int .i64 ((rd_T53 l0_0 x9_2).f1), .slice A624_2 ((rd_T53 l0_0 x9_2).f2).length c624_2] 53 (0, 0))) := ⟨by (with_reducible repeat (first | refine blk_drewN ?_ _ | refine blk_drew ?_ | refine blk_alloc ?_ _)); refine blk_put (cs := #[.string ((rd_T53 l0_0 x9_2).f0), .int .i64 ((rd_T53 l0_0 x9_2).f1), .slice none 0 0]) ?_ 2 _ rfl; (with_reducible repeat (first | refine blk_drewN ?_ _ | refine blk_drew ?_ | refine blk_alloc ?_ _)); refine blk_put (cs := #[.string ((rd_T53 l0_0 x9_2).f0), .int .i64 0, .slice none 0 0]) ?_ 1 _ rfl; (with_reducible repeat (first | refine blk_drewN ?_ _ | refine blk_drew ?_ | refine blk_alloc ?_ _)); refine blk_put (cs := #[.string (⟨#[]⟩ : ByteArray), .int .i64 0, .slice none 0 0]) ?_ 0 _ rfl; (with_reducible repeat (first | refine blk_drewN ?_ _ | refine blk_drew ?_ | refine blk_alloc ?_ _)); exact BK625.out⟩
                 have n4_ : Aside0 (Below w.heap.size w (((w34.setCell ⟨gb625, 0, none⟩ (.string ((rd_T53 l0_0 x9_2).f0))).setCell ⟨gb625, 1, none⟩ (.int .i64 ((rd_T53 l0_0 x9_2).f1))).setCell ⟨gb625, 2, none⟩ (.slice A624_2 ((rd_T53 l0_0 x9_2).f2).length c624_2))) := ⟨by repeat (first | (with_reducible first | exact HB.out | apply below_alloc | apply pw_below_drewN | apply below_drew1 | refine below_set ?_ GE612.out | refine below_set ?_ GE625.out) | exact HB.out)⟩
                 (try clear HO_7)
                 (try clear HO_8)
                 (try clear BK612)
                 (try clear BK625)
                 (try clear HB)
                 generalize (((w34.setCell ⟨gb625, 0, none⟩ (.string ((rd_T53 l0_0 x9_2).f0))).setCell ⟨gb625, 1, none⟩ (.int .i64 ((rd_T53 l0_0 x9_2).f1))).setCell ⟨gb625, 2, none⟩ (.slice A624_2 ((rd_T53 l0_0 x9_2).f2).length c624_2)) = w45 at n0_ n1_ n2_ n3_ n4_ ⊢
                 have HO_7 := n0_
                 have HO_8 := n1_
                 have BK612 := n2_
                 have BK625 := n3_
                 have HB := n4_
                 clear n0_ n1_ n2_ n3_ n4_
                 have n0_ := Aside0.mk (Kd.R_drew HO_7.out)
                 have n1_ := Aside0.mk (Kd.R_drew HO_8.out)
                 have n2_ := Aside0.mk (blk_drew BK612.out)
                 have n3_ := Aside0.mk (blk_drew BK625.out)
                 have n4_ := Aside0.mk (below_drew1 HB.out)
                 clear HO_7
                 clear HO_8
                 clear BK612
                 clear BK625
                 clear HB
                 have HO_7 := n0_
                 have HO_8 := n1_
                 have BK612 := n2_
                 have BK625 := n3_
                 have HB := n4_
                 clear n0_ n1_ n2_ n3_ n4_
                 have p626 : 0 ≤ (x9_2 : Int) := of_decide_eq_true (by first | (with_reducible assumption) | assumption)
                 have q626 : x9_2 < (l1.length : Int) := of_decide_eq_true (by first | (with_reducible assumption) | assumption)
                 obtain ⟨ad626, e626, hx626_0, hx626_1, hx626_2⟩ := at_T48 HR1.out x9_2 p626 q626
                 have hw626_2 := hx626_2
                 have hw626_1 := hx626_1
                 have hw626_0 := hx626_0
                 cases e626
                 replace hx626_0 := (HB.out.cell (World.block_lt_of_cell? w _ hx626_0)).trans hx626_0
                 replace hx626_1 := (HB.out.cell (World.block_lt_of_cell? w _ hx626_1)).trans hx626_1
                 replace hx626_2 := (HB.out.cell (World.block_lt_of_cell? w _ hx626_2)).trans hx626_2
                 replace p626 := eq_true p626
                 replace q626 := eq_true q626
                 have p627 : 0 ≤ (x9_2 : Int) := of_decide_eq_true (by first | (with_reducible assumption) | assumption)
                 have q627 : x9_2 < (l1.length : Int) := of_decide_eq_true (by first | (with_reducible assumption) | assumption)
                 obtain ⟨ad627, e627, hx627_0, hx627_1, hx627_2⟩ := at_T48 HR1.out x9_2 p627 q627
                 have hw627_2 := hx627_2
                 have hw627_1 := hx627_1
                 have hw627_0 := hx627_0
                 obtain rfl : ad626 = ad627 := (by injection e627)
                 replace hx627_0 := (HB.out.cell (World.block_lt_of_cell? w _ hx627_0)).trans hx627_0
                 replace hx627_1 := (HB.out.cell (World.block_lt_of_cell? w _ hx627_1)).trans hx627_1
                 replace hx627_2 := (HB.out.cell (World.block_lt_of_cell? w _ hx627_2)).trans hx627_2
                 replace p627 := eq_true p627
                 replace q627 := eq_true q627
                 have p628 : 0 ≤ (x9_2 : Int) := of_decide_eq_true (by first | (with_reducible assumption) | assumption)
                 have q628 : x9_2 < (l1.length : Int) := of_decide_eq_true (by first | (with_reducible assumption) | assumption)
                 obtain ⟨ad628, e628, hx628_0, hx628_1, hx628_2⟩ := at_T48 HR1.out x9_2 p628 q628
                 have hw628_2 := hx628_2
                 have hw628_1 := hx628_1
                 have hw628_0 := hx628_0
                 obtain rfl : ad626 = ad628 := (by injection e628)
                 replace hx628_0 := (HB.out.cell (World.block_lt_of_cell? w _ hx628_0)).trans hx628_0
                 replace hx628_1 := (HB.out.cell (World.block_lt_of_cell? w _ hx628_1)).trans hx628_1
                 replace hx628_2 := (HB.out.cell (World.block_lt_of_cell? w _ hx628_2)).trans hx628_2
                 replace p628 := eq_true p628
                 replace q628 := eq_true q628
                 have p629 : 0 ≤ (x9_2 : Int) := of_decide_eq_true (by first | (with_reducible assumption) | assumption)
                 have q629 : x9_2 < (l1.length : Int) := of_decide_eq_true (by first | (with_reducible assumption) | assumption)
                 obtain ⟨ad629, e629, hx629_0, hx629_1, hx629_2⟩ := at_T48 HR1.out x9_2 p629 q629
                 have hw629_2 := hx629_2
                 have hw629_1 := hx629_1
                 have hw629_0 := hx629_0
                 obtain rfl : ad626 = ad629 := (by injection e629)
                 replace hx629_0 := (HB.out.cell (World.block_lt_of_cell? w _ hx629_0)).trans hx629_0
                 replace hx629_1 := (HB.out.cell (World.block_lt_of_cell? w _ hx629_1)).trans hx629_1
                 replace hx629_2 := (HB.out.cell (World.block_lt_of_cell? w _ hx629_2)).trans hx629_2
                 replace p629 := eq_true p629
                 replace q629 := eq_true q629
                 refine start_ (n := 63) (S := fun w' => w'.cell? ⟨gb612, 0, none⟩ = some (.slice (some ad624) l0_0.length c0_0) ∧ w'.cell? ⟨gb612, 1, none⟩ = some (.slice A0_1 l0_1.length c0_1) ∧ w'.cell? ⟨gb612, 2, none⟩ = some (.slice A0_2 l0_2.length c0_2) ∧ w'.cell? ⟨gb612, 3, none⟩ = some (.int .i64 a0_3) ∧ w'.cell? ⟨gb625, 0, none⟩ = some (.string ((rd_T53 l0_0 x9_2).f0)) ∧ w'.cell? ⟨gb625, 1, none⟩ = some (.int .i64 ((rd_T53 l0_0 x9_2).f1)) ∧ w'.cell? ⟨gb625, 2, none⟩ = some (.slice A624_2 ((rd_T53 l0_0 x9_2).f2).length c624_2) ∧ w'.cell? (ad626.add ((x9_2).toNat * 3)) = some (.int .i64 ((rd_T48 l1 x9_2).f0)) ∧ w'.cell? ⟨(ad626.add ((x9_2).toNat * 3)).block, (ad626.add ((x9_2).toNat * 3)).off + 1, none⟩ = some (.int .i64 ((rd_T48 l1 x9_2).f1)) ∧ w'.cell? ⟨(ad626.add ((x9_2).toNat * 3)).block, (ad626.add ((x9_2).toNat * 3)).off + 2, none⟩ = some (.int .i64 ((rd_T48 l1 x9_2).f2)) ∧ w'.cell? (ad626.add ((x9_2).toNat * 3)) = some (.int .i64 ((rd_T48 l1 x9_2).f0)) ∧ w'.cell? ⟨(ad626.add ((x9_2).toNat * 3)).block, (ad626.add ((x9_2).toNat * 3)).off + 1, none⟩ = some (.int .i64 ((rd_T48 l1 x9_2).f1)) ∧ w'.cell? ⟨(ad626.add ((x9_2).toNat * 3)).block, (ad626.add ((x9_2).toNat * 3)).off + 2, none⟩ = some (.int .i64 ((rd_T48 l1 x9_2).f2)) ∧ w'.cell? (ad626.add ((x9_2).toNat * 3)) = some (.int .i64 ((rd_T48 l1 x9_2).f0)) ∧ w'.cell? ⟨(ad626.add ((x9_2).toNat * 3)).block, (ad626.add ((x9_2).toNat * 3)).off + 1, none⟩ = some (.int .i64 ((rd_T48 l1 x9_2).f1)) ∧ w'.cell? ⟨(ad626.add ((x9_2).toNat * 3)).block, (ad626.add ((x9_2).toNat * 3)).off + 2, none⟩ = some (.int .i64 ((rd_T48 l1 x9_2).f2)) ∧ w'.cell? (ad626.add ((x9_2).toNat * 3)) = some (.int .i64 ((rd_T48 l1 x9_2).f0)) ∧ w'.cell? ⟨(ad626.add ((x9_2).toNat * 3)).block, (ad626.add ((x9_2).toNat * 3)).off + 1, none⟩ = some (.int .i64 ((rd_T48 l1 x9_2).f1)) ∧ w'.cell? ⟨(ad626.add ((x9_2).toNat * 3)).block, (ad626.add ((x9_2).toNat * 3)).off + 2, none⟩ = some (.int .i64 ((rd_T48 l1 x9_2).f2))) (ds := []) #[false, false, false, false, false, false, false, false, false, false, false, false, false, false, false, false, false, false, false, false, false, false, false, false, false, false, false, false, false, false, false, false, false, false, false, false, false, false, false, false, false, false, false, false, false, false, false, false, false, false, false, false, false, false, false, false, false, false, false, false, false, false, false] (by kernel_rfl) rfl rfl ⟨(blk_cell BK612.out 0).trans rfl, (blk_cell BK612.out 1).trans rfl, (blk_cell BK612.out 2).trans rfl, (blk_cell BK612.out 3).trans rfl, (blk_cell BK625.out 0).trans rfl, (blk_cell BK625.out 1).trans rfl, (blk_cell BK625.out 2).trans rfl, ((HB.out.cell (World.block_lt_of_cell? w _ hw626_0)).trans hw626_0), ((HB.out.cell (World.block_lt_of_cell? w _ hw626_1)).trans hw626_1), ((HB.out.cell (World.block_lt_of_cell? w _ hw626_2)).trans hw626_2), ((HB.out.cell (World.block_lt_of_cell? w _ hw627_0)).trans hw627_0), ((HB.out.cell (World.block_lt_of_cell? w _ hw627_1)).trans hw627_1), ((HB.out.cell (World.block_lt_of_cell? w _ hw627_2)).trans hw627_2), ((HB.out.cell (World.block_lt_of_cell? w _ hw628_0)).trans hw628_0), ((HB.out.cell (World.block_lt_of_cell? w _ hw628_1)).trans hw628_1), ((HB.out.cell (World.block_lt_of_cell? w _ hw628_2)).trans hw628_2), ((HB.out.cell (World.block_lt_of_cell? w _ hw629_0)).trans hw629_0), ((HB.out.cell (World.block_lt_of_cell? w _ hw629_1)).trans hw629_1), ((HB.out.cell (World.block_lt_of_cell? w _ hw629_2)).trans hw629_2)⟩ (fun hHeld => ?_); refine with_tabW dancestudiolaw50_RehearseNobody.tab11 dancestudiolaw50_RehearseNobody.bits11 (fun HT_ HW_ => ?_)
                 generalize w45.drew = w46 at HO_7 HO_8 BK612 BK625 HB hx626_0 hx626_1 hx626_2 hx627_0 hx627_1 hx627_2 hx628_0 hx628_1 hx628_2 hx629_0 hx629_1 hx629_2 hHeld ⊢
                 refine pM 0 43 HT_ ?_
                 refine pM 1 44 HT_ ?_
                 refine pM 2 45 HT_ ?_
                 refine pM 3 46 HT_ ?_
                 refine pM 5 48 HT_ ?_
                 refine tM 4 47 rfl HT_ HW_ (by rintro w' ⟨s0, s1, s2, s3, s4, s5, s6, s7, s8, s9, s10, s11, s12, s13, s14, s15, s16, s17, s18⟩; go_simp; with_reducible rfl) hHeld ?_
                 refine pM 6 49 HT_ ?_
                 refine pM 7 50 HT_ ?_
                 refine pM 8 51 HT_ ?_
                 refine pM 9 52 HT_ ?_
                 refine pM 10 53 HT_ ?_
                 refine pM 11 54 HT_ ?_
                 refine tM 12 55 rfl HT_ HW_ (by rintro w' ⟨s0, s1, s2, s3, s4, s5, s6, s7, s8, s9, s10, s11, s12, s13, s14, s15, s16, s17, s18⟩; go_simp; with_reducible rfl) hHeld ?_
                 refine pM 13 56 HT_ ?_
                 refine pM 14 57 HT_ ?_
                 refine pM 15 58 HT_ ?_
                 refine pM 16 59 HT_ ?_
                 refine pM 17 60 HT_ ?_
                 refine pM 18 61 HT_ ?_
                 refine pM 19 62 HT_ ?_
                 refine pM 21 64 HT_ ?_
                 refine pM 23 66 HT_ ?_
                 refine tM 20 63 rfl HT_ HW_ (by rintro w' ⟨s0, s1, s2, s3, s4, s5, s6, s7, s8, s9, s10, s11, s12, s13, s14, s15, s16, s17, s18⟩; go_simp; with_reducible rfl) hHeld ?_
                 refine tM 22 65 rfl HT_ HW_ (by rintro w' ⟨s0, s1, s2, s3, s4, s5, s6, s7, s8, s9, s10, s11, s12, s13, s14, s15, s16, s17, s18⟩; go_simp; with_reducible rfl) hHeld ?_
                 refine tM 24 67 rfl HT_ HW_ (by rintro w' ⟨s0, s1, s2, s3, s4, s5, s6, s7, s8, s9, s10, s11, s12, s13, s14, s15, s16, s17, s18⟩; go_simp; with_reducible rfl) hHeld ?_
                 refine pM 25 68 HT_ ?_
                 refine pM 26 69 HT_ ?_
                 refine pM 27 70 HT_ ?_
                 refine pM 28 71 HT_ ?_
                 refine pM 29 72 HT_ ?_
                 refine pM 30 73 HT_ ?_
                 refine pM 31 74 HT_ ?_
                 refine pM 32 75 HT_ ?_
                 refine tM 33 76 rfl HT_ HW_ (by rintro w' ⟨s0, s1, s2, s3, s4, s5, s6, s7, s8, s9, s10, s11, s12, s13, s14, s15, s16, s17, s18⟩; go_simp; with_reducible rfl) hHeld ?_
                 refine pM 34 77 HT_ ?_
                 refine pM 35 78 HT_ ?_
                 refine pM 36 79 HT_ ?_
                 refine uM 37 80 HT_ ?_
                 refine uM 38 81 HT_ ?_
                 refine uM 39 82 HT_ ?_
                 refine uM 40 83 HT_ ?_
                 refine uM 41 84 HT_ ?_
                 refine uM 42 85 HT_ ?_
                 refine uM 43 86 HT_ ?_
                 refine uM 44 87 HT_ ?_
                 refine uM 45 88 HT_ ?_
                 refine pM 46 89 HT_ ?_
                 refine pM 47 90 HT_ ?_
                 refine uM 48 91 HT_ ?_
                 refine uM 49 92 HT_ ?_
                 refine uM 50 93 HT_ ?_
                 refine uM 51 94 HT_ ?_
                 refine uM 52 95 HT_ ?_
                 refine uM 53 96 HT_ ?_
                 refine uM 54 97 HT_ ?_
                 refine uM 55 98 HT_ ?_
                 refine uM 56 99 HT_ ?_
                 refine uM 57 100 HT_ ?_
                 refine uM 58 101 HT_ ?_
                 refine uM 59 102 HT_ ?_
                 refine uM 60 103 HT_ ?_
                 refine uM 61 104 HT_ ?_
                 refine pM 62 105 HT_ ?_
                 refine done_ (done_of HT_.out (by kernel_rfl)) ?_
                 try go_wp2
                 go_meet
                 case rel => exact ⟨_, (true), (by first | rfl | (simp; done) | (simp [*]; done)), H', ⟨by have := HJ6.out; have := HK2.out; first | omega | exact Nat.le_refl _⟩, ⟨by (with_reducible repeat (first | apply Kd.R_alloc | apply Kd.R_drewN | apply Kd.R_drew)); exact HO_7.out⟩, ⟨by (with_reducible repeat (first | apply Kd.R_alloc | apply Kd.R_drewN | apply Kd.R_drew)); exact HO_8.out⟩, ⟨by (with_reducible repeat (first | refine blk_drewN ?_ _ | refine blk_drew ?_ | refine blk_alloc ?_ _)); exact BK612.out⟩, ⟨by (with_reducible repeat (first | refine blk_drewN ?_ _ | refine blk_drew ?_ | refine blk_alloc ?_ _)); exact BK625.out⟩, ⟨by repeat (first | (with_reducible first | exact HB.out | apply below_alloc | apply pw_below_drewN | apply below_drew1 | refine below_set ?_ GE612.out | refine below_set ?_ GE625.out) | exact HB.out)⟩⟩
                ·
                 rw [if_neg c44] at H
                 have c44b0 : decide (((rd_T48 l1 x9_2).f1) < 0) = false := decide_eq_false c44
                 clear c44
                 by_cases c47 : ((rd_T48 l1 x9_2).f1) ≥ (l0_1.length : Int)
                 · as_aux_lemma =>
                  rw [if_pos c47] at H
                  have c47b0 : decide ((l0_1.length : Int) ≤ ((rd_T48 l1 x9_2).f1)) = true := decide_eq_true c47
                  clear c47
                  have H' := Aside0.mk H
                  clear H
                  try go_wp2
                  have n0_ : Aside0 (Kd.R (Kd.int .i64) 49 (((w34.setCell ⟨gb625, 0, none⟩ (.string ((rd_T53 l0_0 x9_2).f0))).setCell ⟨gb625, 1, none⟩ (.int .i64 ((rd_T53 l0_0 x9_2).f1))).setCell ⟨gb625, 2, none⟩ (.slice A624_2 ((rd_T53 l0_0 x9_2).f2).length c624_2)) w.heap.size (fun k_ => some k_ ≠ (Value.slice (some ⟨gb622, 0, none⟩) 4 4).ownBlock) (.slice (some ⟨gb619, 0, none⟩) 24 24) x7_2) := ⟨by (with_reducible repeat (first | apply Kd.R_alloc | apply Kd.R_drewN | apply Kd.R_drew)); exact Kd.R_mono (Kd.R_far (p := ⟨gb625, 2, none⟩) (Kd.R_far (p := ⟨gb625, 1, none⟩) (Kd.R_far (p := ⟨gb625, 0, none⟩) (Kd.R_types HO_7.out BK625.out (by decide)) (fun _ hk => hk.2) (.string ((rd_T53 l0_0 x9_2).f0))) (fun _ hk => hk.2) (.int .i64 ((rd_T53 l0_0 x9_2).f1))) (fun _ hk => hk.2) (.slice A624_2 ((rd_T53 l0_0 x9_2).f2).length c624_2)) (fun _ hk => hk.1)⟩
                  have n1_ : Aside0 (Kd.R (Kd.int .i64) 50 (((w34.setCell ⟨gb625, 0, none⟩ (.string ((rd_T53 l0_0 x9_2).f0))).setCell ⟨gb625, 1, none⟩ (.int .i64 ((rd_T53 l0_0 x9_2).f1))).setCell ⟨gb625, 2, none⟩ (.slice A624_2 ((rd_T53 l0_0 x9_2).f2).length c624_2)) w.heap.size (fun k_ => some k_ ≠ (Value.slice (some ⟨gb619, 0, none⟩) 24 24).ownBlock) (.slice (some ⟨gb622, 0, none⟩) 4 4) x8_2) := ⟨by (with_reducible repeat (first | apply Kd.R_alloc | apply Kd.R_drewN | apply Kd.R_drew)); exact Kd.R_mono (Kd.R_far (p := ⟨gb625, 2, none⟩) (Kd.R_far (p := ⟨gb625, 1, none⟩) (Kd.R_far (p := ⟨gb625, 0, none⟩) (Kd.R_types HO_8.out BK625.out (by decide)) (fun _ hk => hk.2) (.string ((rd_T53 l0_0 x9_2).f0))) (fun _ hk => hk.2) (.int .i64 ((rd_T53 l0_0 x9_2).f1))) (fun _ hk => hk.2) (.slice A624_2 ((rd_T53 l0_0 x9_2).f2).length c624_2)) (fun _ hk => hk.1)⟩
                  have n2_ : Aside0 ((((w34.setCell ⟨gb625, 0, none⟩ (.string ((rd_T53 l0_0 x9_2).f0))).setCell ⟨gb625, 1, none⟩ (.int .i64 ((rd_T53 l0_0 x9_2).f1))).setCell ⟨gb625, 2, none⟩ (.slice A624_2 ((rd_T53 l0_0 x9_2).f2).length c624_2)).heap[gb612]? = some (.cells #[.slice (some ad624) l0_0.length c0_0, .slice A0_1 l0_1.length c0_1, .slice A0_2 l0_2.length c0_2, .int .i64 a0_3] 26 (0, 0))) := ⟨by (with_reducible repeat (first | refine blk_drewN ?_ _ | refine blk_drew ?_ | refine blk_alloc ?_ _)); refine blk_far ?_ NB612_625.out _; (with_reducible repeat (first | refine blk_drewN ?_ _ | refine blk_drew ?_ | refine blk_alloc ?_ _)); refine blk_far ?_ NB612_625.out _; (with_reducible repeat (first | refine blk_drewN ?_ _ | refine blk_drew ?_ | refine blk_alloc ?_ _)); refine blk_far ?_ NB612_625.out _; (with_reducible repeat (first | refine blk_drewN ?_ _ | refine blk_drew ?_ | refine blk_alloc ?_ _)); exact BK612.out⟩
                  have n3_ : Aside0 ((((w34.setCell ⟨gb625, 0, none⟩ (.string ((rd_T53 l0_0 x9_2).f0))).setCell ⟨gb625, 1, none⟩ (.int .i64 ((rd_T53 l0_0 x9_2).f1))).setCell ⟨gb625, 2, none⟩ (.slice A624_2 ((rd_T53 l0_0 x9_2).f2).length c624_2)).heap[gb625]? = some (.cells #[.string ((rd_T53 l0_0 x9_2).f0), .int .i64 ((rd_T53 l0_0 x9_2).f1), .slice A624_2 ((rd_T53 l0_0 x9_2).f2).length c624_2] 53 (0, 0))) := ⟨by (with_reducible repeat (first | refine blk_drewN ?_ _ | refine blk_drew ?_ | refine blk_alloc ?_ _)); refine blk_put (cs := #[.string ((rd_T53 l0_0 x9_2).f0), .int .i64 ((rd_T53 l0_0 x9_2).f1), .slice none 0 0]) ?_ 2 _ rfl; (with_reducible repeat (first | refine blk_drewN ?_ _ | refine blk_drew ?_ | refine blk_alloc ?_ _)); refine blk_put (cs := #[.string ((rd_T53 l0_0 x9_2).f0), .int .i64 0, .slice none 0 0]) ?_ 1 _ rfl; (with_reducible repeat (first | refine blk_drewN ?_ _ | refine blk_drew ?_ | refine blk_alloc ?_ _)); refine blk_put (cs := #[.string (⟨#[]⟩ : ByteArray), .int .i64 0, .slice none 0 0]) ?_ 0 _ rfl; (with_reducible repeat (first | refine blk_drewN ?_ _ | refine blk_drew ?_ | refine blk_alloc ?_ _)); exact BK625.out⟩
                  have n4_ : Aside0 (Below w.heap.size w (((w34.setCell ⟨gb625, 0, none⟩ (.string ((rd_T53 l0_0 x9_2).f0))).setCell ⟨gb625, 1, none⟩ (.int .i64 ((rd_T53 l0_0 x9_2).f1))).setCell ⟨gb625, 2, none⟩ (.slice A624_2 ((rd_T53 l0_0 x9_2).f2).length c624_2))) := ⟨by repeat (first | (with_reducible first | exact HB.out | apply below_alloc | apply pw_below_drewN | apply below_drew1 | refine below_set ?_ GE612.out | refine below_set ?_ GE625.out) | exact HB.out)⟩
                  (try clear HO_7)
                  (try clear HO_8)
                  (try clear BK612)
                  (try clear BK625)
                  (try clear HB)
                  generalize (((w34.setCell ⟨gb625, 0, none⟩ (.string ((rd_T53 l0_0 x9_2).f0))).setCell ⟨gb625, 1, none⟩ (.int .i64 ((rd_T53 l0_0 x9_2).f1))).setCell ⟨gb625, 2, none⟩ (.slice A624_2 ((rd_T53 l0_0 x9_2).f2).length c624_2)) = w48 at n0_ n1_ n2_ n3_ n4_ ⊢
                  have HO_7 := n0_
                  have HO_8 := n1_
                  have BK612 := n2_
                  have BK625 := n3_
                  have HB := n4_
                  clear n0_ n1_ n2_ n3_ n4_
                  have n0_ := Aside0.mk (Kd.R_drew HO_7.out)
                  have n1_ := Aside0.mk (Kd.R_drew HO_8.out)
                  have n2_ := Aside0.mk (blk_drew BK612.out)
                  have n3_ := Aside0.mk (blk_drew BK625.out)
                  have n4_ := Aside0.mk (below_drew1 HB.out)
                  clear HO_7
                  clear HO_8
                  clear BK612
                  clear BK625
                  clear HB
                  have HO_7 := n0_
                  have HO_8 := n1_
                  have BK612 := n2_
                  have BK625 := n3_
                  have HB := n4_
                  clear n0_ n1_ n2_ n3_ n4_
                  have p626 : 0 ≤ (x9_2 : Int) := of_decide_eq_true (by first | (with_reducible assumption) | assumption)
                  have q626 : x9_2 < (l1.length : Int) := of_decide_eq_true (by first | (with_reducible assumption) | assumption)
                  obtain ⟨ad626, e626, hx626_0, hx626_1, hx626_2⟩ := at_T48 HR1.out x9_2 p626 q626
                  have hw626_2 := hx626_2
                  have hw626_1 := hx626_1
                  have hw626_0 := hx626_0
                  cases e626
                  replace hx626_0 := (HB.out.cell (World.block_lt_of_cell? w _ hx626_0)).trans hx626_0
                  replace hx626_1 := (HB.out.cell (World.block_lt_of_cell? w _ hx626_1)).trans hx626_1
                  replace hx626_2 := (HB.out.cell (World.block_lt_of_cell? w _ hx626_2)).trans hx626_2
                  replace p626 := eq_true p626
                  replace q626 := eq_true q626
                  have p627 : 0 ≤ (x9_2 : Int) := of_decide_eq_true (by first | (with_reducible assumption) | assumption)
                  have q627 : x9_2 < (l1.length : Int) := of_decide_eq_true (by first | (with_reducible assumption) | assumption)
                  obtain ⟨ad627, e627, hx627_0, hx627_1, hx627_2⟩ := at_T48 HR1.out x9_2 p627 q627
                  have hw627_2 := hx627_2
                  have hw627_1 := hx627_1
                  have hw627_0 := hx627_0
                  obtain rfl : ad626 = ad627 := (by injection e627)
                  replace hx627_0 := (HB.out.cell (World.block_lt_of_cell? w _ hx627_0)).trans hx627_0
                  replace hx627_1 := (HB.out.cell (World.block_lt_of_cell? w _ hx627_1)).trans hx627_1
                  replace hx627_2 := (HB.out.cell (World.block_lt_of_cell? w _ hx627_2)).trans hx627_2
                  replace p627 := eq_true p627
                  replace q627 := eq_true q627
                  have p628 : 0 ≤ (x9_2 : Int) := of_decide_eq_true (by first | (with_reducible assumption) | assumption)
                  have q628 : x9_2 < (l1.length : Int) := of_decide_eq_true (by first | (with_reducible assumption) | assumption)
                  obtain ⟨ad628, e628, hx628_0, hx628_1, hx628_2⟩ := at_T48 HR1.out x9_2 p628 q628
                  have hw628_2 := hx628_2
                  have hw628_1 := hx628_1
                  have hw628_0 := hx628_0
                  obtain rfl : ad626 = ad628 := (by injection e628)
                  replace hx628_0 := (HB.out.cell (World.block_lt_of_cell? w _ hx628_0)).trans hx628_0
                  replace hx628_1 := (HB.out.cell (World.block_lt_of_cell? w _ hx628_1)).trans hx628_1
                  replace hx628_2 := (HB.out.cell (World.block_lt_of_cell? w _ hx628_2)).trans hx628_2
                  replace p628 := eq_true p628
                  replace q628 := eq_true q628
                  have p629 : 0 ≤ (x9_2 : Int) := of_decide_eq_true (by first | (with_reducible assumption) | assumption)
                  have q629 : x9_2 < (l1.length : Int) := of_decide_eq_true (by first | (with_reducible assumption) | assumption)
                  obtain ⟨ad629, e629, hx629_0, hx629_1, hx629_2⟩ := at_T48 HR1.out x9_2 p629 q629
                  have hw629_2 := hx629_2
                  have hw629_1 := hx629_1
                  have hw629_0 := hx629_0
                  obtain rfl : ad626 = ad629 := (by injection e629)
                  replace hx629_0 := (HB.out.cell (World.block_lt_of_cell? w _ hx629_0)).trans hx629_0
                  replace hx629_1 := (HB.out.cell (World.block_lt_of_cell? w _ hx629_1)).trans hx629_1
                  replace hx629_2 := (HB.out.cell (World.block_lt_of_cell? w _ hx629_2)).trans hx629_2
                  replace p629 := eq_true p629
                  replace q629 := eq_true q629
                  have p630 : 0 ≤ (x9_2 : Int) := of_decide_eq_true (by first | (with_reducible assumption) | assumption)
                  have q630 : x9_2 < (l1.length : Int) := of_decide_eq_true (by first | (with_reducible assumption) | assumption)
                  obtain ⟨ad630, e630, hx630_0, hx630_1, hx630_2⟩ := at_T48 HR1.out x9_2 p630 q630
                  have hw630_2 := hx630_2
                  have hw630_1 := hx630_1
                  have hw630_0 := hx630_0
                  obtain rfl : ad626 = ad630 := (by injection e630)
                  replace hx630_0 := (HB.out.cell (World.block_lt_of_cell? w _ hx630_0)).trans hx630_0
                  replace hx630_1 := (HB.out.cell (World.block_lt_of_cell? w _ hx630_1)).trans hx630_1
                  replace hx630_2 := (HB.out.cell (World.block_lt_of_cell? w _ hx630_2)).trans hx630_2
                  replace p630 := eq_true p630
                  replace q630 := eq_true q630
                  refine start_ (n := 63) (S := fun w' => w'.cell? ⟨gb612, 0, none⟩ = some (.slice (some ad624) l0_0.length c0_0) ∧ w'.cell? ⟨gb612, 1, none⟩ = some (.slice A0_1 l0_1.length c0_1) ∧ w'.cell? ⟨gb612, 2, none⟩ = some (.slice A0_2 l0_2.length c0_2) ∧ w'.cell? ⟨gb612, 3, none⟩ = some (.int .i64 a0_3) ∧ w'.cell? ⟨gb625, 0, none⟩ = some (.string ((rd_T53 l0_0 x9_2).f0)) ∧ w'.cell? ⟨gb625, 1, none⟩ = some (.int .i64 ((rd_T53 l0_0 x9_2).f1)) ∧ w'.cell? ⟨gb625, 2, none⟩ = some (.slice A624_2 ((rd_T53 l0_0 x9_2).f2).length c624_2) ∧ w'.cell? (ad626.add ((x9_2).toNat * 3)) = some (.int .i64 ((rd_T48 l1 x9_2).f0)) ∧ w'.cell? ⟨(ad626.add ((x9_2).toNat * 3)).block, (ad626.add ((x9_2).toNat * 3)).off + 1, none⟩ = some (.int .i64 ((rd_T48 l1 x9_2).f1)) ∧ w'.cell? ⟨(ad626.add ((x9_2).toNat * 3)).block, (ad626.add ((x9_2).toNat * 3)).off + 2, none⟩ = some (.int .i64 ((rd_T48 l1 x9_2).f2)) ∧ w'.cell? (ad626.add ((x9_2).toNat * 3)) = some (.int .i64 ((rd_T48 l1 x9_2).f0)) ∧ w'.cell? ⟨(ad626.add ((x9_2).toNat * 3)).block, (ad626.add ((x9_2).toNat * 3)).off + 1, none⟩ = some (.int .i64 ((rd_T48 l1 x9_2).f1)) ∧ w'.cell? ⟨(ad626.add ((x9_2).toNat * 3)).block, (ad626.add ((x9_2).toNat * 3)).off + 2, none⟩ = some (.int .i64 ((rd_T48 l1 x9_2).f2)) ∧ w'.cell? (ad626.add ((x9_2).toNat * 3)) = some (.int .i64 ((rd_T48 l1 x9_2).f0)) ∧ w'.cell? ⟨(ad626.add ((x9_2).toNat * 3)).block, (ad626.add ((x9_2).toNat * 3)).off + 1, none⟩ = some (.int .i64 ((rd_T48 l1 x9_2).f1)) ∧ w'.cell? ⟨(ad626.add ((x9_2).toNat * 3)).block, (ad626.add ((x9_2).toNat * 3)).off + 2, none⟩ = some (.int .i64 ((rd_T48 l1 x9_2).f2)) ∧ w'.cell? (ad626.add ((x9_2).toNat * 3)) = some (.int .i64 ((rd_T48 l1 x9_2).f0)) ∧ w'.cell? ⟨(ad626.add ((x9_2).toNat * 3)).block, (ad626.add ((x9_2).toNat * 3)).off + 1, none⟩ = some (.int .i64 ((rd_T48 l1 x9_2).f1)) ∧ w'.cell? ⟨(ad626.add ((x9_2).toNat * 3)).block, (ad626.add ((x9_2).toNat * 3)).off + 2, none⟩ = some (.int .i64 ((rd_T48 l1 x9_2).f2)) ∧ w'.cell? (ad626.add ((x9_2).toNat * 3)) = some (.int .i64 ((rd_T48 l1 x9_2).f0)) ∧ w'.cell? ⟨(ad626.add ((x9_2).toNat * 3)).block, (ad626.add ((x9_2).toNat * 3)).off + 1, none⟩ = some (.int .i64 ((rd_T48 l1 x9_2).f1)) ∧ w'.cell? ⟨(ad626.add ((x9_2).toNat * 3)).block, (ad626.add ((x9_2).toNat * 3)).off + 2, none⟩ = some (.int .i64 ((rd_T48 l1 x9_2).f2))) (ds := []) #[false, false, false, false, false, false, false, false, false, false, false, false, false, false, false, false, false, false, false, false, false, false, false, false, false, false, false, false, false, false, false, false, false, false, false, false, false, false, false, false, false, false, false, false, false, false, false, false, false, false, false, false, false, false, false, false, false, false, false, false, false, false, false] (by kernel_rfl) rfl rfl ⟨(blk_cell BK612.out 0).trans rfl, (blk_cell BK612.out 1).trans rfl, (blk_cell BK612.out 2).trans rfl, (blk_cell BK612.out 3).trans rfl, (blk_cell BK625.out 0).trans rfl, (blk_cell BK625.out 1).trans rfl, (blk_cell BK625.out 2).trans rfl, ((HB.out.cell (World.block_lt_of_cell? w _ hw626_0)).trans hw626_0), ((HB.out.cell (World.block_lt_of_cell? w _ hw626_1)).trans hw626_1), ((HB.out.cell (World.block_lt_of_cell? w _ hw626_2)).trans hw626_2), ((HB.out.cell (World.block_lt_of_cell? w _ hw627_0)).trans hw627_0), ((HB.out.cell (World.block_lt_of_cell? w _ hw627_1)).trans hw627_1), ((HB.out.cell (World.block_lt_of_cell? w _ hw627_2)).trans hw627_2), ((HB.out.cell (World.block_lt_of_cell? w _ hw628_0)).trans hw628_0), ((HB.out.cell (World.block_lt_of_cell? w _ hw628_1)).trans hw628_1), ((HB.out.cell (World.block_lt_of_cell? w _ hw628_2)).trans hw628_2), ((HB.out.cell (World.block_lt_of_cell? w _ hw629_0)).trans hw629_0), ((HB.out.cell (World.block_lt_of_cell? w _ hw629_1)).trans hw629_1), ((HB.out.cell (World.block_lt_of_cell? w _ hw629_2)).trans hw629_2), ((HB.out.cell (World.block_lt_of_cell? w _ hw630_0)).trans hw630_0), ((HB.out.cell (World.block_lt_of_cell? w _ hw630_1)).trans hw630_1), ((HB.out.cell (World.block_lt_of_cell? w _ hw630_2)).trans hw630_2)⟩ (fun hHeld => ?_); refine with_tabW dancestudiolaw50_RehearseNobody.tab11 dancestudiolaw50_RehearseNobody.bits11 (fun HT_ HW_ => ?_)
                  generalize w48.drew = w49 at HO_7 HO_8 BK612 BK625 HB hx626_0 hx626_1 hx626_2 hx627_0 hx627_1 hx627_2 hx628_0 hx628_1 hx628_2 hx629_0 hx629_1 hx629_2 hx630_0 hx630_1 hx630_2 hHeld ⊢
                  refine pM 0 43 HT_ ?_
                  refine pM 1 44 HT_ ?_
                  refine pM 2 45 HT_ ?_
                  refine pM 3 46 HT_ ?_
                  refine pM 5 48 HT_ ?_
                  refine tM 4 47 rfl HT_ HW_ (by rintro w' ⟨s0, s1, s2, s3, s4, s5, s6, s7, s8, s9, s10, s11, s12, s13, s14, s15, s16, s17, s18, s19, s20, s21⟩; go_simp; with_reducible rfl) hHeld ?_
                  refine pM 6 49 HT_ ?_
                  refine pM 7 50 HT_ ?_
                  refine pM 8 51 HT_ ?_
                  refine pM 9 52 HT_ ?_
                  refine pM 10 53 HT_ ?_
                  refine pM 11 54 HT_ ?_
                  refine tM 12 55 rfl HT_ HW_ (by rintro w' ⟨s0, s1, s2, s3, s4, s5, s6, s7, s8, s9, s10, s11, s12, s13, s14, s15, s16, s17, s18, s19, s20, s21⟩; go_simp; with_reducible rfl) hHeld ?_
                  refine pM 13 56 HT_ ?_
                  refine pM 14 57 HT_ ?_
                  refine pM 15 58 HT_ ?_
                  refine pM 16 59 HT_ ?_
                  refine pM 17 60 HT_ ?_
                  refine pM 18 61 HT_ ?_
                  refine pM 19 62 HT_ ?_
                  refine pM 21 64 HT_ ?_
                  refine pM 23 66 HT_ ?_
                  refine tM 20 63 rfl HT_ HW_ (by rintro w' ⟨s0, s1, s2, s3, s4, s5, s6, s7, s8, s9, s10, s11, s12, s13, s14, s15, s16, s17, s18, s19, s20, s21⟩; go_simp; with_reducible rfl) hHeld ?_
                  refine tM 22 65 rfl HT_ HW_ (by rintro w' ⟨s0, s1, s2, s3, s4, s5, s6, s7, s8, s9, s10, s11, s12, s13, s14, s15, s16, s17, s18, s19, s20, s21⟩; go_simp; with_reducible rfl) hHeld ?_
                  refine tM 24 67 rfl HT_ HW_ (by rintro w' ⟨s0, s1, s2, s3, s4, s5, s6, s7, s8, s9, s10, s11, s12, s13, s14, s15, s16, s17, s18, s19, s20, s21⟩; go_simp; with_reducible rfl) hHeld ?_
                  refine pM 25 68 HT_ ?_
                  refine pM 26 69 HT_ ?_
                  refine pM 27 70 HT_ ?_
                  refine pM 28 71 HT_ ?_
                  refine pM 29 72 HT_ ?_
                  refine pM 30 73 HT_ ?_
                  refine pM 31 74 HT_ ?_
                  refine pM 32 75 HT_ ?_
                  refine tM 33 76 rfl HT_ HW_ (by rintro w' ⟨s0, s1, s2, s3, s4, s5, s6, s7, s8, s9, s10, s11, s12, s13, s14, s15, s16, s17, s18, s19, s20, s21⟩; go_simp; with_reducible rfl) hHeld ?_
                  refine pM 34 77 HT_ ?_
                  refine pM 35 78 HT_ ?_
                  refine pM 36 79 HT_ ?_
                  refine pM 37 80 HT_ ?_
                  refine pM 38 81 HT_ ?_
                  refine pM 39 82 HT_ ?_
                  refine pM 40 83 HT_ ?_
                  refine pM 42 85 HT_ ?_
                  refine tM 41 84 rfl HT_ HW_ (by rintro w' ⟨s0, s1, s2, s3, s4, s5, s6, s7, s8, s9, s10, s11, s12, s13, s14, s15, s16, s17, s18, s19, s20, s21⟩; go_simp; with_reducible rfl) hHeld ?_
                  refine tM 43 86 rfl HT_ HW_ (by rintro w' ⟨s0, s1, s2, s3, s4, s5, s6, s7, s8, s9, s10, s11, s12, s13, s14, s15, s16, s17, s18, s19, s20, s21⟩; go_simp; with_reducible rfl) hHeld ?_
                  refine pM 44 87 HT_ ?_
                  refine pM 45 88 HT_ ?_
                  refine pM 46 89 HT_ ?_
                  refine pM 47 90 HT_ ?_
                  refine uM 48 91 HT_ ?_
                  refine uM 49 92 HT_ ?_
                  refine uM 50 93 HT_ ?_
                  refine uM 51 94 HT_ ?_
                  refine uM 52 95 HT_ ?_
                  refine uM 53 96 HT_ ?_
                  refine uM 54 97 HT_ ?_
                  refine uM 55 98 HT_ ?_
                  refine uM 56 99 HT_ ?_
                  refine uM 57 100 HT_ ?_
                  refine uM 58 101 HT_ ?_
                  refine uM 59 102 HT_ ?_
                  refine uM 60 103 HT_ ?_
                  refine uM 61 104 HT_ ?_
                  refine pM 62 105 HT_ ?_
                  refine done_ (done_of HT_.out (by kernel_rfl)) ?_
                  try go_wp2
                  go_meet
                  case rel => exact ⟨_, (true), (by first | rfl | (simp; done) | (simp [*]; done)), H', ⟨by have := HJ6.out; have := HK2.out; first | omega | exact Nat.le_refl _⟩, ⟨by (with_reducible repeat (first | apply Kd.R_alloc | apply Kd.R_drewN | apply Kd.R_drew)); exact HO_7.out⟩, ⟨by (with_reducible repeat (first | apply Kd.R_alloc | apply Kd.R_drewN | apply Kd.R_drew)); exact HO_8.out⟩, ⟨by (with_reducible repeat (first | refine blk_drewN ?_ _ | refine blk_drew ?_ | refine blk_alloc ?_ _)); exact BK612.out⟩, ⟨by (with_reducible repeat (first | refine blk_drewN ?_ _ | refine blk_drew ?_ | refine blk_alloc ?_ _)); exact BK625.out⟩, ⟨by repeat (first | (with_reducible first | exact HB.out | apply below_alloc | apply pw_below_drewN | apply below_drew1 | refine below_set ?_ GE612.out | refine below_set ?_ GE625.out) | exact HB.out)⟩⟩
                 ·
                  rw [if_neg c47] at H
                  have c47b0 : decide ((l0_1.length : Int) ≤ ((rd_T48 l1 x9_2).f1)) = false := decide_eq_false c47
                  clear c47
                  by_cases c50 : 0 ≤ ((rd_T48 l1 x9_2).f1)
                  ·
                   rw [if_pos c50] at H
                   have c50b0 : decide (0 ≤ ((rd_T48 l1 x9_2).f1)) = true := decide_eq_true c50
                   clear c50
                   by_cases c51 : ((rd_T48 l1 x9_2).f1) < (l0_1.length : Int)
                   · as_aux_lemma =>
                    rw [if_pos c51] at H
                    have c51b0 : decide (((rd_T48 l1 x9_2).f1) < (l0_1.length : Int)) = true := decide_eq_true c51
                    clear c51
                    have H' := Aside0.mk H
                    clear H
                    try go_wp2
                    have n0_ : Aside0 (Kd.R (Kd.int .i64) 49 (((w34.setCell ⟨gb625, 0, none⟩ (.string ((rd_T53 l0_0 x9_2).f0))).setCell ⟨gb625, 1, none⟩ (.int .i64 ((rd_T53 l0_0 x9_2).f1))).setCell ⟨gb625, 2, none⟩ (.slice A624_2 ((rd_T53 l0_0 x9_2).f2).length c624_2)) w.heap.size (fun k_ => some k_ ≠ (Value.slice (some ⟨gb622, 0, none⟩) 4 4).ownBlock) (.slice (some ⟨gb619, 0, none⟩) 24 24) x7_2) := ⟨by (with_reducible repeat (first | apply Kd.R_alloc | apply Kd.R_drewN | apply Kd.R_drew)); exact Kd.R_mono (Kd.R_far (p := ⟨gb625, 2, none⟩) (Kd.R_far (p := ⟨gb625, 1, none⟩) (Kd.R_far (p := ⟨gb625, 0, none⟩) (Kd.R_types HO_7.out BK625.out (by decide)) (fun _ hk => hk.2) (.string ((rd_T53 l0_0 x9_2).f0))) (fun _ hk => hk.2) (.int .i64 ((rd_T53 l0_0 x9_2).f1))) (fun _ hk => hk.2) (.slice A624_2 ((rd_T53 l0_0 x9_2).f2).length c624_2)) (fun _ hk => hk.1)⟩
                    have n1_ : Aside0 (Kd.R (Kd.int .i64) 50 (((w34.setCell ⟨gb625, 0, none⟩ (.string ((rd_T53 l0_0 x9_2).f0))).setCell ⟨gb625, 1, none⟩ (.int .i64 ((rd_T53 l0_0 x9_2).f1))).setCell ⟨gb625, 2, none⟩ (.slice A624_2 ((rd_T53 l0_0 x9_2).f2).length c624_2)) w.heap.size (fun k_ => some k_ ≠ (Value.slice (some ⟨gb619, 0, none⟩) 24 24).ownBlock) (.slice (some ⟨gb622, 0, none⟩) 4 4) x8_2) := ⟨by (with_reducible repeat (first | apply Kd.R_alloc | apply Kd.R_drewN | apply Kd.R_drew)); exact Kd.R_mono (Kd.R_far (p := ⟨gb625, 2, none⟩) (Kd.R_far (p := ⟨gb625, 1, none⟩) (Kd.R_far (p := ⟨gb625, 0, none⟩) (Kd.R_types HO_8.out BK625.out (by decide)) (fun _ hk => hk.2) (.string ((rd_T53 l0_0 x9_2).f0))) (fun _ hk => hk.2) (.int .i64 ((rd_T53 l0_0 x9_2).f1))) (fun _ hk => hk.2) (.slice A624_2 ((rd_T53 l0_0 x9_2).f2).length c624_2)) (fun _ hk => hk.1)⟩
                    have n2_ : Aside0 ((((w34.setCell ⟨gb625, 0, none⟩ (.string ((rd_T53 l0_0 x9_2).f0))).setCell ⟨gb625, 1, none⟩ (.int .i64 ((rd_T53 l0_0 x9_2).f1))).setCell ⟨gb625, 2, none⟩ (.slice A624_2 ((rd_T53 l0_0 x9_2).f2).length c624_2)).heap[gb612]? = some (.cells #[.slice (some ad624) l0_0.length c0_0, .slice A0_1 l0_1.length c0_1, .slice A0_2 l0_2.length c0_2, .int .i64 a0_3] 26 (0, 0))) := ⟨by (with_reducible repeat (first | refine blk_drewN ?_ _ | refine blk_drew ?_ | refine blk_alloc ?_ _)); refine blk_far ?_ NB612_625.out _; (with_reducible repeat (first | refine blk_drewN ?_ _ | refine blk_drew ?_ | refine blk_alloc ?_ _)); refine blk_far ?_ NB612_625.out _; (with_reducible repeat (first | refine blk_drewN ?_ _ | refine blk_drew ?_ | refine blk_alloc ?_ _)); refine blk_far ?_ NB612_625.out _; (with_reducible repeat (first | refine blk_drewN ?_ _ | refine blk_drew ?_ | refine blk_alloc ?_ _)); exact BK612.out⟩
                    have n3_ : Aside0 ((((w34.setCell ⟨gb625, 0, none⟩ (.string ((rd_T53 l0_0 x9_2).f0))).setCell ⟨gb625, 1, none⟩ (.int .i64 ((rd_T53 l0_0 x9_2).f1))).setCell ⟨gb625, 2, none⟩ (.slice A624_2 ((rd_T53 l0_0 x9_2).f2).length c624_2)).heap[gb625]? = some (.cells #[.string ((rd_T53 l0_0 x9_2).f0), .int .i64 ((rd_T53 l0_0 x9_2).f1), .slice A624_2 ((rd_T53 l0_0 x9_2).f2).length c624_2] 53 (0, 0))) := ⟨by (with_reducible repeat (first | refine blk_drewN ?_ _ | refine blk_drew ?_ | refine blk_alloc ?_ _)); refine blk_put (cs := #[.string ((rd_T53 l0_0 x9_2).f0), .int .i64 ((rd_T53 l0_0 x9_2).f1), .slice none 0 0]) ?_ 2 _ rfl; (with_reducible repeat (first | refine blk_drewN ?_ _ | refine blk_drew ?_ | refine blk_alloc ?_ _)); refine blk_put (cs := #[.string ((rd_T53 l0_0 x9_2).f0), .int .i64 0, .slice none 0 0]) ?_ 1 _ rfl; (with_reducible repeat (first | refine blk_drewN ?_ _ | refine blk_drew ?_ | refine blk_alloc ?_ _)); refine blk_put (cs := #[.string (⟨#[]⟩ : ByteArray), .int .i64 0, .slice none 0 0]) ?_ 0 _ rfl; (with_reducible repeat (first | refine blk_drewN ?_ _ | refine blk_drew ?_ | refine blk_alloc ?_ _)); exact BK625.out⟩
                    have n4_ : Aside0 (Below w.heap.size w (((w34.setCell ⟨gb625, 0, none⟩ (.string ((rd_T53 l0_0 x9_2).f0))).setCell ⟨gb625, 1, none⟩ (.int .i64 ((rd_T53 l0_0 x9_2).f1))).setCell ⟨gb625, 2, none⟩ (.slice A624_2 ((rd_T53 l0_0 x9_2).f2).length c624_2))) := ⟨by repeat (first | (with_reducible first | exact HB.out | apply below_alloc | apply pw_below_drewN | apply below_drew1 | refine below_set ?_ GE612.out | refine below_set ?_ GE625.out) | exact HB.out)⟩
                    (try clear HO_7)
                    (try clear HO_8)
                    (try clear BK612)
                    (try clear BK625)
                    (try clear HB)
                    generalize (((w34.setCell ⟨gb625, 0, none⟩ (.string ((rd_T53 l0_0 x9_2).f0))).setCell ⟨gb625, 1, none⟩ (.int .i64 ((rd_T53 l0_0 x9_2).f1))).setCell ⟨gb625, 2, none⟩ (.slice A624_2 ((rd_T53 l0_0 x9_2).f2).length c624_2)) = w52 at n0_ n1_ n2_ n3_ n4_ ⊢
                    have HO_7 := n0_
                    have HO_8 := n1_
                    have BK612 := n2_
                    have BK625 := n3_
                    have HB := n4_
                    clear n0_ n1_ n2_ n3_ n4_
                    have n0_ := Aside0.mk (Kd.R_drew HO_7.out)
                    have n1_ := Aside0.mk (Kd.R_drew HO_8.out)
                    have n2_ := Aside0.mk (blk_drew BK612.out)
                    have n3_ := Aside0.mk (blk_drew BK625.out)
                    have n4_ := Aside0.mk (below_drew1 HB.out)
                    clear HO_7
                    clear HO_8
                    clear BK612
                    clear BK625
                    clear HB
                    have HO_7 := n0_
                    have HO_8 := n1_
                    have BK612 := n2_
                    have BK625 := n3_
                    have HB := n4_
                    clear n0_ n1_ n2_ n3_ n4_
                    have p626 : 0 ≤ (x9_2 : Int) := of_decide_eq_true (by first | (with_reducible assumption) | assumption)
                    have q626 : x9_2 < (l1.length : Int) := of_decide_eq_true (by first | (with_reducible assumption) | assumption)
                    obtain ⟨ad626, e626, hx626_0, hx626_1, hx626_2⟩ := at_T48 HR1.out x9_2 p626 q626
                    have hw626_2 := hx626_2
                    have hw626_1 := hx626_1
                    have hw626_0 := hx626_0
                    cases e626
                    replace hx626_0 := (HB.out.cell (World.block_lt_of_cell? w _ hx626_0)).trans hx626_0
                    replace hx626_1 := (HB.out.cell (World.block_lt_of_cell? w _ hx626_1)).trans hx626_1
                    replace hx626_2 := (HB.out.cell (World.block_lt_of_cell? w _ hx626_2)).trans hx626_2
                    replace p626 := eq_true p626
                    replace q626 := eq_true q626
                    have p627 : 0 ≤ (x9_2 : Int) := of_decide_eq_true (by first | (with_reducible assumption) | assumption)
                    have q627 : x9_2 < (l1.length : Int) := of_decide_eq_true (by first | (with_reducible assumption) | assumption)
                    obtain ⟨ad627, e627, hx627_0, hx627_1, hx627_2⟩ := at_T48 HR1.out x9_2 p627 q627
                    have hw627_2 := hx627_2
                    have hw627_1 := hx627_1
                    have hw627_0 := hx627_0
                    obtain rfl : ad626 = ad627 := (by injection e627)
                    replace hx627_0 := (HB.out.cell (World.block_lt_of_cell? w _ hx627_0)).trans hx627_0
                    replace hx627_1 := (HB.out.cell (World.block_lt_of_cell? w _ hx627_1)).trans hx627_1
                    replace hx627_2 := (HB.out.cell (World.block_lt_of_cell? w _ hx627_2)).trans hx627_2
                    replace p627 := eq_true p627
                    replace q627 := eq_true q627
                    have p628 : 0 ≤ (x9_2 : Int) := of_decide_eq_true (by first | (with_reducible assumption) | assumption)
                    have q628 : x9_2 < (l1.length : Int) := of_decide_eq_true (by first | (with_reducible assumption) | assumption)
                    obtain ⟨ad628, e628, hx628_0, hx628_1, hx628_2⟩ := at_T48 HR1.out x9_2 p628 q628
                    have hw628_2 := hx628_2
                    have hw628_1 := hx628_1
                    have hw628_0 := hx628_0
                    obtain rfl : ad626 = ad628 := (by injection e628)
                    replace hx628_0 := (HB.out.cell (World.block_lt_of_cell? w _ hx628_0)).trans hx628_0
                    replace hx628_1 := (HB.out.cell (World.block_lt_of_cell? w _ hx628_1)).trans hx628_1
                    replace hx628_2 := (HB.out.cell (World.block_lt_of_cell? w _ hx628_2)).trans hx628_2
                    replace p628 := eq_true p628
                    replace q628 := eq_true q628
                    have p629 : 0 ≤ (x9_2 : Int) := of_decide_eq_true (by first | (with_reducible assumption) | assumption)
                    have q629 : x9_2 < (l1.length : Int) := of_decide_eq_true (by first | (with_reducible assumption) | assumption)
                    obtain ⟨ad629, e629, hx629_0, hx629_1, hx629_2⟩ := at_T48 HR1.out x9_2 p629 q629
                    have hw629_2 := hx629_2
                    have hw629_1 := hx629_1
                    have hw629_0 := hx629_0
                    obtain rfl : ad626 = ad629 := (by injection e629)
                    replace hx629_0 := (HB.out.cell (World.block_lt_of_cell? w _ hx629_0)).trans hx629_0
                    replace hx629_1 := (HB.out.cell (World.block_lt_of_cell? w _ hx629_1)).trans hx629_1
                    replace hx629_2 := (HB.out.cell (World.block_lt_of_cell? w _ hx629_2)).trans hx629_2
                    replace p629 := eq_true p629
                    replace q629 := eq_true q629
                    have p630 : 0 ≤ (x9_2 : Int) := of_decide_eq_true (by first | (with_reducible assumption) | assumption)
                    have q630 : x9_2 < (l1.length : Int) := of_decide_eq_true (by first | (with_reducible assumption) | assumption)
                    obtain ⟨ad630, e630, hx630_0, hx630_1, hx630_2⟩ := at_T48 HR1.out x9_2 p630 q630
                    have hw630_2 := hx630_2
                    have hw630_1 := hx630_1
                    have hw630_0 := hx630_0
                    obtain rfl : ad626 = ad630 := (by injection e630)
                    replace hx630_0 := (HB.out.cell (World.block_lt_of_cell? w _ hx630_0)).trans hx630_0
                    replace hx630_1 := (HB.out.cell (World.block_lt_of_cell? w _ hx630_1)).trans hx630_1
                    replace hx630_2 := (HB.out.cell (World.block_lt_of_cell? w _ hx630_2)).trans hx630_2
                    replace p630 := eq_true p630
                    replace q630 := eq_true q630
                    have p631 : 0 ≤ (x9_2 : Int) := of_decide_eq_true (by first | (with_reducible assumption) | assumption)
                    have q631 : x9_2 < (l1.length : Int) := of_decide_eq_true (by first | (with_reducible assumption) | assumption)
                    obtain ⟨ad631, e631, hx631_0, hx631_1, hx631_2⟩ := at_T48 HR1.out x9_2 p631 q631
                    have hw631_2 := hx631_2
                    have hw631_1 := hx631_1
                    have hw631_0 := hx631_0
                    obtain rfl : ad626 = ad631 := (by injection e631)
                    replace hx631_0 := (HB.out.cell (World.block_lt_of_cell? w _ hx631_0)).trans hx631_0
                    replace hx631_1 := (HB.out.cell (World.block_lt_of_cell? w _ hx631_1)).trans hx631_1
                    replace hx631_2 := (HB.out.cell (World.block_lt_of_cell? w _ hx631_2)).trans hx631_2
                    replace p631 := eq_true p631
                    replace q631 := eq_true q631
                    have p632 : 0 ≤ (((rd_T48 l1 x9_2).f1) : Int) := of_decide_eq_true (by first | (with_reducible assumption) | assumption)
                    have q632 : ((rd_T48 l1 x9_2).f1) < (l0_1.length : Int) := of_decide_eq_true (by first | (with_reducible assumption) | assumption)
                    obtain ⟨ad632, e632, hx632_0⟩ := at_T55 HR0_1.out ((rd_T48 l1 x9_2).f1) p632 q632
                    have hw632_0 := hx632_0
                    cases e632
                    replace hx632_0 := (HB.out.cell (World.block_lt_of_cell? w _ hx632_0)).trans hx632_0
                    replace p632 := eq_true p632
                    replace q632 := eq_true q632
                    refine start_ (n := 63) (S := fun w' => w'.cell? ⟨gb612, 0, none⟩ = some (.slice (some ad624) l0_0.length c0_0) ∧ w'.cell? ⟨gb612, 1, none⟩ = some (.slice (some ad632) l0_1.length c0_1) ∧ w'.cell? ⟨gb612, 2, none⟩ = some (.slice A0_2 l0_2.length c0_2) ∧ w'.cell? ⟨gb612, 3, none⟩ = some (.int .i64 a0_3) ∧ w'.cell? ⟨gb625, 0, none⟩ = some (.string ((rd_T53 l0_0 x9_2).f0)) ∧ w'.cell? ⟨gb625, 1, none⟩ = some (.int .i64 ((rd_T53 l0_0 x9_2).f1)) ∧ w'.cell? ⟨gb625, 2, none⟩ = some (.slice A624_2 ((rd_T53 l0_0 x9_2).f2).length c624_2) ∧ w'.cell? (ad626.add ((x9_2).toNat * 3)) = some (.int .i64 ((rd_T48 l1 x9_2).f0)) ∧ w'.cell? ⟨(ad626.add ((x9_2).toNat * 3)).block, (ad626.add ((x9_2).toNat * 3)).off + 1, none⟩ = some (.int .i64 ((rd_T48 l1 x9_2).f1)) ∧ w'.cell? ⟨(ad626.add ((x9_2).toNat * 3)).block, (ad626.add ((x9_2).toNat * 3)).off + 2, none⟩ = some (.int .i64 ((rd_T48 l1 x9_2).f2)) ∧ w'.cell? (ad626.add ((x9_2).toNat * 3)) = some (.int .i64 ((rd_T48 l1 x9_2).f0)) ∧ w'.cell? ⟨(ad626.add ((x9_2).toNat * 3)).block, (ad626.add ((x9_2).toNat * 3)).off + 1, none⟩ = some (.int .i64 ((rd_T48 l1 x9_2).f1)) ∧ w'.cell? ⟨(ad626.add ((x9_2).toNat * 3)).block, (ad626.add ((x9_2).toNat * 3)).off + 2, none⟩ = some (.int .i64 ((rd_T48 l1 x9_2).f2)) ∧ w'.cell? (ad626.add ((x9_2).toNat * 3)) = some (.int .i64 ((rd_T48 l1 x9_2).f0)) ∧ w'.cell? ⟨(ad626.add ((x9_2).toNat * 3)).block, (ad626.add ((x9_2).toNat * 3)).off + 1, none⟩ = some (.int .i64 ((rd_T48 l1 x9_2).f1)) ∧ w'.cell? ⟨(ad626.add ((x9_2).toNat * 3)).block, (ad626.add ((x9_2).toNat * 3)).off + 2, none⟩ = some (.int .i64 ((rd_T48 l1 x9_2).f2)) ∧ w'.cell? (ad626.add ((x9_2).toNat * 3)) = some (.int .i64 ((rd_T48 l1 x9_2).f0)) ∧ w'.cell? ⟨(ad626.add ((x9_2).toNat * 3)).block, (ad626.add ((x9_2).toNat * 3)).off + 1, none⟩ = some (.int .i64 ((rd_T48 l1 x9_2).f1)) ∧ w'.cell? ⟨(ad626.add ((x9_2).toNat * 3)).block, (ad626.add ((x9_2).toNat * 3)).off + 2, none⟩ = some (.int .i64 ((rd_T48 l1 x9_2).f2)) ∧ w'.cell? (ad626.add ((x9_2).toNat * 3)) = some (.int .i64 ((rd_T48 l1 x9_2).f0)) ∧ w'.cell? ⟨(ad626.add ((x9_2).toNat * 3)).block, (ad626.add ((x9_2).toNat * 3)).off + 1, none⟩ = some (.int .i64 ((rd_T48 l1 x9_2).f1)) ∧ w'.cell? ⟨(ad626.add ((x9_2).toNat * 3)).block, (ad626.add ((x9_2).toNat * 3)).off + 2, none⟩ = some (.int .i64 ((rd_T48 l1 x9_2).f2)) ∧ w'.cell? (ad626.add ((x9_2).toNat * 3)) = some (.int .i64 ((rd_T48 l1 x9_2).f0)) ∧ w'.cell? ⟨(ad626.add ((x9_2).toNat * 3)).block, (ad626.add ((x9_2).toNat * 3)).off + 1, none⟩ = some (.int .i64 ((rd_T48 l1 x9_2).f1)) ∧ w'.cell? ⟨(ad626.add ((x9_2).toNat * 3)).block, (ad626.add ((x9_2).toNat * 3)).off + 2, none⟩ = some (.int .i64 ((rd_T48 l1 x9_2).f2)) ∧ w'.cell? (ad632.add (((rd_T48 l1 x9_2).f1)).toNat) = some (.int .i64 ((rd_T55 l0_1 ((rd_T48 l1 x9_2).f1)).f0))) (ds := []) #[false, false, false, false, false, false, false, false, false, false, false, false, false, false, false, false, false, false, false, false, false, false, false, false, false, false, false, false, false, false, false, false, false, false, false, false, false, false, false, false, false, false, false, false, false, false, false, false, false, false, false, false, false, false, false, false, false, false, false, false, false, false, false] (by kernel_rfl) rfl rfl ⟨(blk_cell BK612.out 0).trans rfl, (blk_cell BK612.out 1).trans rfl, (blk_cell BK612.out 2).trans rfl, (blk_cell BK612.out 3).trans rfl, (blk_cell BK625.out 0).trans rfl, (blk_cell BK625.out 1).trans rfl, (blk_cell BK625.out 2).trans rfl, ((HB.out.cell (World.block_lt_of_cell? w _ hw626_0)).trans hw626_0), ((HB.out.cell (World.block_lt_of_cell? w _ hw626_1)).trans hw626_1), ((HB.out.cell (World.block_lt_of_cell? w _ hw626_2)).trans hw626_2), ((HB.out.cell (World.block_lt_of_cell? w _ hw627_0)).trans hw627_0), ((HB.out.cell (World.block_lt_of_cell? w _ hw627_1)).trans hw627_1), ((HB.out.cell (World.block_lt_of_cell? w _ hw627_2)).trans hw627_2), ((HB.out.cell (World.block_lt_of_cell? w _ hw628_0)).trans hw628_0), ((HB.out.cell (World.block_lt_of_cell? w _ hw628_1)).trans hw628_1), ((HB.out.cell (World.block_lt_of_cell? w _ hw628_2)).trans hw628_2), ((HB.out.cell (World.block_lt_of_cell? w _ hw629_0)).trans hw629_0), ((HB.out.cell (World.block_lt_of_cell? w _ hw629_1)).trans hw629_1), ((HB.out.cell (World.block_lt_of_cell? w _ hw629_2)).trans hw629_2), ((HB.out.cell (World.block_lt_of_cell? w _ hw630_0)).trans hw630_0), ((HB.out.cell (World.block_lt_of_cell? w _ hw630_1)).trans hw630_1), ((HB.out.cell (World.block_lt_of_cell? w _ hw630_2)).trans hw630_2), ((HB.out.cell (World.block_lt_of_cell? w _ hw631_0)).trans hw631_0), ((HB.out.cell (World.block_lt_of_cell? w _ hw631_1)).trans hw631_1), ((HB.out.cell (World.block_lt_of_cell? w _ hw631_2)).trans hw631_2), ((HB.out.cell (World.block_lt_of_cell? w _ hw632_0)).trans hw632_0)⟩ (fun hHeld => ?_); refine with_tabW dancestudiolaw50_RehearseNobody.tab11 dancestudiolaw50_RehearseNobody.bits11 (fun HT_ HW_ => ?_)
                    generalize w52.drew = w53 at HO_7 HO_8 BK612 BK625 HB hx626_0 hx626_1 hx626_2 hx627_0 hx627_1 hx627_2 hx628_0 hx628_1 hx628_2 hx629_0 hx629_1 hx629_2 hx630_0 hx630_1 hx630_2 hx631_0 hx631_1 hx631_2 hx632_0 hHeld ⊢
                    refine pM 0 43 HT_ ?_
                    refine pM 1 44 HT_ ?_
                    refine pM 2 45 HT_ ?_
                    refine pM 3 46 HT_ ?_
                    refine pM 5 48 HT_ ?_
                    refine tM 4 47 rfl HT_ HW_ (by rintro w' ⟨s0, s1, s2, s3, s4, s5, s6, s7, s8, s9, s10, s11, s12, s13, s14, s15, s16, s17, s18, s19, s20, s21, s22, s23, s24, s25⟩; go_simp; with_reducible rfl) hHeld ?_
                    refine pM 6 49 HT_ ?_
                    refine pM 7 50 HT_ ?_
                    refine pM 8 51 HT_ ?_
                    refine pM 9 52 HT_ ?_
                    refine pM 10 53 HT_ ?_
                    refine pM 11 54 HT_ ?_
                    refine tM 12 55 rfl HT_ HW_ (by rintro w' ⟨s0, s1, s2, s3, s4, s5, s6, s7, s8, s9, s10, s11, s12, s13, s14, s15, s16, s17, s18, s19, s20, s21, s22, s23, s24, s25⟩; go_simp; with_reducible rfl) hHeld ?_
                    refine pM 13 56 HT_ ?_
                    refine pM 14 57 HT_ ?_
                    refine pM 15 58 HT_ ?_
                    refine pM 16 59 HT_ ?_
                    refine pM 17 60 HT_ ?_
                    refine pM 18 61 HT_ ?_
                    refine pM 19 62 HT_ ?_
                    refine pM 21 64 HT_ ?_
                    refine pM 23 66 HT_ ?_
                    refine tM 20 63 rfl HT_ HW_ (by rintro w' ⟨s0, s1, s2, s3, s4, s5, s6, s7, s8, s9, s10, s11, s12, s13, s14, s15, s16, s17, s18, s19, s20, s21, s22, s23, s24, s25⟩; go_simp; with_reducible rfl) hHeld ?_
                    refine tM 22 65 rfl HT_ HW_ (by rintro w' ⟨s0, s1, s2, s3, s4, s5, s6, s7, s8, s9, s10, s11, s12, s13, s14, s15, s16, s17, s18, s19, s20, s21, s22, s23, s24, s25⟩; go_simp; with_reducible rfl) hHeld ?_
                    refine tM 24 67 rfl HT_ HW_ (by rintro w' ⟨s0, s1, s2, s3, s4, s5, s6, s7, s8, s9, s10, s11, s12, s13, s14, s15, s16, s17, s18, s19, s20, s21, s22, s23, s24, s25⟩; go_simp; with_reducible rfl) hHeld ?_
                    refine pM 25 68 HT_ ?_
                    refine pM 26 69 HT_ ?_
                    refine pM 27 70 HT_ ?_
                    refine pM 28 71 HT_ ?_
                    refine pM 29 72 HT_ ?_
                    refine pM 30 73 HT_ ?_
                    refine pM 31 74 HT_ ?_
                    refine pM 32 75 HT_ ?_
                    refine tM 33 76 rfl HT_ HW_ (by rintro w' ⟨s0, s1, s2, s3, s4, s5, s6, s7, s8, s9, s10, s11, s12, s13, s14, s15, s16, s17, s18, s19, s20, s21, s22, s23, s24, s25⟩; go_simp; with_reducible rfl) hHeld ?_
                    refine pM 34 77 HT_ ?_
                    refine pM 35 78 HT_ ?_
                    refine pM 36 79 HT_ ?_
                    refine pM 37 80 HT_ ?_
                    refine pM 38 81 HT_ ?_
                    refine pM 39 82 HT_ ?_
                    refine pM 40 83 HT_ ?_
                    refine pM 42 85 HT_ ?_
                    refine tM 41 84 rfl HT_ HW_ (by rintro w' ⟨s0, s1, s2, s3, s4, s5, s6, s7, s8, s9, s10, s11, s12, s13, s14, s15, s16, s17, s18, s19, s20, s21, s22, s23, s24, s25⟩; go_simp; with_reducible rfl) hHeld ?_
                    refine tM 43 86 rfl HT_ HW_ (by rintro w' ⟨s0, s1, s2, s3, s4, s5, s6, s7, s8, s9, s10, s11, s12, s13, s14, s15, s16, s17, s18, s19, s20, s21, s22, s23, s24, s25⟩; go_simp; with_reducible rfl) hHeld ?_
                    refine pM 44 87 HT_ ?_
                    refine pM 45 88 HT_ ?_
                    refine pM 46 89 HT_ ?_
                    refine pM 47 90 HT_ ?_
                    refine pM 48 91 HT_ ?_
                    refine pM 51 94 HT_ ?_
                    refine pM 53 96 HT_ ?_
                    refine pM 54 97 HT_ ?_
                    refine pM 55 98 HT_ ?_
                    refine pM 56 99 HT_ ?_
                    refine tM 49 92 rfl HT_ HW_ (by rintro w' ⟨s0, s1, s2, s3, s4, s5, s6, s7, s8, s9, s10, s11, s12, s13, s14, s15, s16, s17, s18, s19, s20, s21, s22, s23, s24, s25⟩; go_simp; with_reducible rfl) hHeld ?_
                    refine pM 50 93 HT_ ?_
                    refine tM 52 95 rfl HT_ HW_ (by rintro w' ⟨s0, s1, s2, s3, s4, s5, s6, s7, s8, s9, s10, s11, s12, s13, s14, s15, s16, s17, s18, s19, s20, s21, s22, s23, s24, s25⟩; go_simp; with_reducible rfl) hHeld ?_
                    refine tM 57 100 rfl HT_ HW_ (by rintro w' ⟨s0, s1, s2, s3, s4, s5, s6, s7, s8, s9, s10, s11, s12, s13, s14, s15, s16, s17, s18, s19, s20, s21, s22, s23, s24, s25⟩; go_simp; with_reducible rfl) hHeld ?_
                    refine pM 58 101 HT_ ?_
                    refine pM 59 102 HT_ ?_
                    refine tM 60 103 rfl HT_ HW_ (by rintro w' ⟨s0, s1, s2, s3, s4, s5, s6, s7, s8, s9, s10, s11, s12, s13, s14, s15, s16, s17, s18, s19, s20, s21, s22, s23, s24, s25⟩; go_simp; with_reducible rfl) hHeld ?_
                    refine pM 61 104 HT_ ?_
                    refine pM 62 105 HT_ ?_
                    refine done_ (done_of HT_.out (by kernel_rfl)) ?_
                    try go_wp2
                    go_meet
                    case rel => exact ⟨_, (decide ((((rd_T53 l0_0 x9_2).f2).length : Int) > ((rd_T55 l0_1 ((rd_T48 l1 x9_2).f1)).f0))), (by first | rfl | (simp; done) | (simp [*]; done)), H', ⟨by have := HJ6.out; have := HK2.out; first | omega | exact Nat.le_refl _⟩, ⟨by (with_reducible repeat (first | apply Kd.R_alloc | apply Kd.R_drewN | apply Kd.R_drew)); exact HO_7.out⟩, ⟨by (with_reducible repeat (first | apply Kd.R_alloc | apply Kd.R_drewN | apply Kd.R_drew)); exact HO_8.out⟩, ⟨by (with_reducible repeat (first | refine blk_drewN ?_ _ | refine blk_drew ?_ | refine blk_alloc ?_ _)); exact BK612.out⟩, ⟨by (with_reducible repeat (first | refine blk_drewN ?_ _ | refine blk_drew ?_ | refine blk_alloc ?_ _)); exact BK625.out⟩, ⟨by repeat (first | (with_reducible first | exact HB.out | apply below_alloc | apply pw_below_drewN | apply below_drew1 | refine below_set ?_ GE612.out | refine below_set ?_ GE625.out) | exact HB.out)⟩⟩
                   ·
                    rw [if_neg c51] at H
                    exact absurd H (by simp)
                  ·
                   rw [if_neg c50] at H
                   exact absurd H (by simp)
             · as_aux_lemma =>
              rw [if_neg c37] at H
              have c37b0 : (((rd_T48 l1 x9_2).f0) == x9_2) = false := beq_eq_false_iff_ne.mpr c37
              have c37b1 : (((rd_T48 l1 x9_2).f0) != x9_2) = true := bne_iff_ne.mpr c37
              (first | rw [c37b0] | (simp only [i64_w, i32_w]; rw [c37b0]) | skip)
              have H' := Aside0.mk H
              clear H
              try go_wp2
              have n0_ : Aside0 (Kd.R (Kd.int .i64) 49 (((w34.setCell ⟨gb625, 0, none⟩ (.string ((rd_T53 l0_0 x9_2).f0))).setCell ⟨gb625, 1, none⟩ (.int .i64 ((rd_T53 l0_0 x9_2).f1))).setCell ⟨gb625, 2, none⟩ (.slice A624_2 ((rd_T53 l0_0 x9_2).f2).length c624_2)) w.heap.size (fun k_ => some k_ ≠ (Value.slice (some ⟨gb622, 0, none⟩) 4 4).ownBlock) (.slice (some ⟨gb619, 0, none⟩) 24 24) x7_2) := ⟨by (with_reducible repeat (first | apply Kd.R_alloc | apply Kd.R_drewN | apply Kd.R_drew)); exact Kd.R_mono (Kd.R_far (p := ⟨gb625, 2, none⟩) (Kd.R_far (p := ⟨gb625, 1, none⟩) (Kd.R_far (p := ⟨gb625, 0, none⟩) (Kd.R_types HO_7.out BK625.out (by decide)) (fun _ hk => hk.2) (.string ((rd_T53 l0_0 x9_2).f0))) (fun _ hk => hk.2) (.int .i64 ((rd_T53 l0_0 x9_2).f1))) (fun _ hk => hk.2) (.slice A624_2 ((rd_T53 l0_0 x9_2).f2).length c624_2)) (fun _ hk => hk.1)⟩
              have n1_ : Aside0 (Kd.R (Kd.int .i64) 50 (((w34.setCell ⟨gb625, 0, none⟩ (.string ((rd_T53 l0_0 x9_2).f0))).setCell ⟨gb625, 1, none⟩ (.int .i64 ((rd_T53 l0_0 x9_2).f1))).setCell ⟨gb625, 2, none⟩ (.slice A624_2 ((rd_T53 l0_0 x9_2).f2).length c624_2)) w.heap.size (fun k_ => some k_ ≠ (Value.slice (some ⟨gb619, 0, none⟩) 24 24).ownBlock) (.slice (some ⟨gb622, 0, none⟩) 4 4) x8_2) := ⟨by (with_reducible repeat (first | apply Kd.R_alloc | apply Kd.R_drewN | apply Kd.R_drew)); exact Kd.R_mono (Kd.R_far (p := ⟨gb625, 2, none⟩) (Kd.R_far (p := ⟨gb625, 1, none⟩) (Kd.R_far (p := ⟨gb625, 0, none⟩) (Kd.R_types HO_8.out BK625.out (by decide)) (fun _ hk => hk.2) (.string ((rd_T53 l0_0 x9_2).f0))) (fun _ hk => hk.2) (.int .i64 ((rd_T53 l0_0 x9_2).f1))) (fun _ hk => hk.2) (.slice A624_2 ((rd_T53 l0_0 x9_2).f2).length c624_2)) (fun _ hk => hk.1)⟩
              have n2_ : Aside0 ((((w34.setCell ⟨gb625, 0, none⟩ (.string ((rd_T53 l0_0 x9_2).f0))).setCell ⟨gb625, 1, none⟩ (.int .i64 ((rd_T53 l0_0 x9_2).f1))).setCell ⟨gb625, 2, none⟩ (.slice A624_2 ((rd_T53 l0_0 x9_2).f2).length c624_2)).heap[gb612]? = some (.cells #[.slice (some ad624) l0_0.length c0_0, .slice A0_1 l0_1.length c0_1, .slice A0_2 l0_2.length c0_2, .int .i64 a0_3] 26 (0, 0))) := ⟨by (with_reducible repeat (first | refine blk_drewN ?_ _ | refine blk_drew ?_ | refine blk_alloc ?_ _)); refine blk_far ?_ NB612_625.out _; (with_reducible repeat (first | refine blk_drewN ?_ _ | refine blk_drew ?_ | refine blk_alloc ?_ _)); refine blk_far ?_ NB612_625.out _; (with_reducible repeat (first | refine blk_drewN ?_ _ | refine blk_drew ?_ | refine blk_alloc ?_ _)); refine blk_far ?_ NB612_625.out _; (with_reducible repeat (first | refine blk_drewN ?_ _ | refine blk_drew ?_ | refine blk_alloc ?_ _)); exact BK612.out⟩
              have n3_ : Aside0 ((((w34.setCell ⟨gb625, 0, none⟩ (.string ((rd_T53 l0_0 x9_2).f0))).setCell ⟨gb625, 1, none⟩ (.int .i64 ((rd_T53 l0_0 x9_2).f1))).setCell ⟨gb625, 2, none⟩ (.slice A624_2 ((rd_T53 l0_0 x9_2).f2).length c624_2)).heap[gb625]? = some (.cells #[.string ((rd_T53 l0_0 x9_2).f0), .int .i64 ((rd_T53 l0_0 x9_2).f1), .slice A624_2 ((rd_T53 l0_0 x9_2).f2).length c624_2] 53 (0, 0))) := ⟨by (with_reducible repeat (first | refine blk_drewN ?_ _ | refine blk_drew ?_ | refine blk_alloc ?_ _)); refine blk_put (cs := #[.string ((rd_T53 l0_0 x9_2).f0), .int .i64 ((rd_T53 l0_0 x9_2).f1), .slice none 0 0]) ?_ 2 _ rfl; (with_reducible repeat (first | refine blk_drewN ?_ _ | refine blk_drew ?_ | refine blk_alloc ?_ _)); refine blk_put (cs := #[.string ((rd_T53 l0_0 x9_2).f0), .int .i64 0, .slice none 0 0]) ?_ 1 _ rfl; (with_reducible repeat (first | refine blk_drewN ?_ _ | refine blk_drew ?_ | refine blk_alloc ?_ _)); refine blk_put (cs := #[.string (⟨#[]⟩ : ByteArray), .int .i64 0, .slice none 0 0]) ?_ 0 _ rfl; (with_reducible repeat (first | refine blk_drewN ?_ _ | refine blk_drew ?_ | refine blk_alloc ?_ _)); exact BK625.out⟩
              have n4_ : Aside0 (Below w.heap.size w (((w34.setCell ⟨gb625, 0, none⟩ (.string ((rd_T53 l0_0 x9_2).f0))).setCell ⟨gb625, 1, none⟩ (.int .i64 ((rd_T53 l0_0 x9_2).f1))).setCell ⟨gb625, 2, none⟩ (.slice A624_2 ((rd_T53 l0_0 x9_2).f2).length c624_2))) := ⟨by repeat (first | (with_reducible first | exact HB.out | apply below_alloc | apply pw_below_drewN | apply below_drew1 | refine below_set ?_ GE612.out | refine below_set ?_ GE625.out) | exact HB.out)⟩
              (try clear HO_7)
              (try clear HO_8)
              (try clear BK612)
              (try clear BK625)
              (try clear HB)
              generalize (((w34.setCell ⟨gb625, 0, none⟩ (.string ((rd_T53 l0_0 x9_2).f0))).setCell ⟨gb625, 1, none⟩ (.int .i64 ((rd_T53 l0_0 x9_2).f1))).setCell ⟨gb625, 2, none⟩ (.slice A624_2 ((rd_T53 l0_0 x9_2).f2).length c624_2)) = w54 at n0_ n1_ n2_ n3_ n4_ ⊢
              have HO_7 := n0_
              have HO_8 := n1_
              have BK612 := n2_
              have BK625 := n3_
              have HB := n4_
              clear n0_ n1_ n2_ n3_ n4_
              have n0_ := Aside0.mk (Kd.R_drew HO_7.out)
              have n1_ := Aside0.mk (Kd.R_drew HO_8.out)
              have n2_ := Aside0.mk (blk_drew BK612.out)
              have n3_ := Aside0.mk (blk_drew BK625.out)
              have n4_ := Aside0.mk (below_drew1 HB.out)
              clear HO_7
              clear HO_8
              clear BK612
              clear BK625
              clear HB
              have HO_7 := n0_
              have HO_8 := n1_
              have BK612 := n2_
              have BK625 := n3_
              have HB := n4_
              clear n0_ n1_ n2_ n3_ n4_
              have p626 : 0 ≤ (x9_2 : Int) := of_decide_eq_true (by first | (with_reducible assumption) | assumption)
              have q626 : x9_2 < (l1.length : Int) := of_decide_eq_true (by first | (with_reducible assumption) | assumption)
              obtain ⟨ad626, e626, hx626_0, hx626_1, hx626_2⟩ := at_T48 HR1.out x9_2 p626 q626
              have hw626_2 := hx626_2
              have hw626_1 := hx626_1
              have hw626_0 := hx626_0
              cases e626
              replace hx626_0 := (HB.out.cell (World.block_lt_of_cell? w _ hx626_0)).trans hx626_0
              replace hx626_1 := (HB.out.cell (World.block_lt_of_cell? w _ hx626_1)).trans hx626_1
              replace hx626_2 := (HB.out.cell (World.block_lt_of_cell? w _ hx626_2)).trans hx626_2
              replace p626 := eq_true p626
              replace q626 := eq_true q626
              refine start_ (n := 63) (S := fun w' => w'.cell? (ad626.add ((x9_2).toNat * 3)) = some (.int .i64 ((rd_T48 l1 x9_2).f0)) ∧ w'.cell? ⟨(ad626.add ((x9_2).toNat * 3)).block, (ad626.add ((x9_2).toNat * 3)).off + 1, none⟩ = some (.int .i64 ((rd_T48 l1 x9_2).f1)) ∧ w'.cell? ⟨(ad626.add ((x9_2).toNat * 3)).block, (ad626.add ((x9_2).toNat * 3)).off + 2, none⟩ = some (.int .i64 ((rd_T48 l1 x9_2).f2))) (ds := []) #[false, false, false, false, false, false, false, false, false, false, false, false, false, false, false, false, false, false, false, false, false, false, false, false, false, false, false, false, false, false, false, false, false, false, false, false, false, false, false, false, false, false, false, false, false, false, false, false, false, false, false, false, false, false, false, false, false, false, false, false, false, false, false] (by kernel_rfl) rfl rfl ⟨((HB.out.cell (World.block_lt_of_cell? w _ hw626_0)).trans hw626_0), ((HB.out.cell (World.block_lt_of_cell? w _ hw626_1)).trans hw626_1), ((HB.out.cell (World.block_lt_of_cell? w _ hw626_2)).trans hw626_2)⟩ (fun hHeld => ?_); refine with_tabW dancestudiolaw50_RehearseNobody.tab11 dancestudiolaw50_RehearseNobody.bits11 (fun HT_ HW_ => ?_)
              generalize w54.drew = w55 at HO_7 HO_8 BK612 BK625 HB hx626_0 hx626_1 hx626_2 hHeld ⊢
              refine pM 0 43 HT_ ?_
              refine pM 1 44 HT_ ?_
              refine pM 2 45 HT_ ?_
              refine pM 3 46 HT_ ?_
              refine pM 5 48 HT_ ?_
              refine tM 4 47 rfl HT_ HW_ (by rintro w' ⟨s0, s1, s2⟩; go_simp; with_reducible rfl) hHeld ?_
              refine pM 6 49 HT_ ?_
              refine pM 7 50 HT_ ?_
              refine uM 8 51 HT_ ?_
              refine uM 9 52 HT_ ?_
              refine uM 10 53 HT_ ?_
              refine uM 11 54 HT_ ?_
              refine uM 12 55 HT_ ?_
              refine uM 13 56 HT_ ?_
              refine pM 14 57 HT_ ?_
              refine pM 15 58 HT_ ?_
              refine uM 16 59 HT_ ?_
              refine uM 17 60 HT_ ?_
              refine uM 18 61 HT_ ?_
              refine uM 19 62 HT_ ?_
              refine uM 20 63 HT_ ?_
              refine uM 21 64 HT_ ?_
              refine uM 22 65 HT_ ?_
              refine uM 23 66 HT_ ?_
              refine uM 24 67 HT_ ?_
              refine uM 25 68 HT_ ?_
              refine uM 26 69 HT_ ?_
              refine pM 27 70 HT_ ?_
              refine pM 28 71 HT_ ?_
              refine uM 29 72 HT_ ?_
              refine uM 30 73 HT_ ?_
              refine uM 31 74 HT_ ?_
              refine uM 32 75 HT_ ?_
              refine uM 33 76 HT_ ?_
              refine uM 34 77 HT_ ?_
              refine pM 35 78 HT_ ?_
              refine pM 36 79 HT_ ?_
              refine uM 37 80 HT_ ?_
              refine uM 38 81 HT_ ?_
              refine uM 39 82 HT_ ?_
              refine uM 40 83 HT_ ?_
              refine uM 41 84 HT_ ?_
              refine uM 42 85 HT_ ?_
              refine uM 43 86 HT_ ?_
              refine uM 44 87 HT_ ?_
              refine uM 45 88 HT_ ?_
              refine pM 46 89 HT_ ?_
              refine pM 47 90 HT_ ?_
              refine uM 48 91 HT_ ?_
              refine uM 49 92 HT_ ?_
              refine uM 50 93 HT_ ?_
              refine uM 51 94 HT_ ?_
              refine uM 52 95 HT_ ?_
              refine uM 53 96 HT_ ?_
              refine uM 54 97 HT_ ?_
              refine uM 55 98 HT_ ?_
              refine uM 56 99 HT_ ?_
              refine uM 57 100 HT_ ?_
              refine uM 58 101 HT_ ?_
              refine uM 59 102 HT_ ?_
              refine uM 60 103 HT_ ?_
              refine uM 61 104 HT_ ?_
              refine pM 62 105 HT_ ?_
              refine done_ (done_of HT_.out (by kernel_rfl)) ?_
              try go_wp2
              go_meet
              case rel => exact ⟨_, (true), (by first | rfl | (simp; done) | (simp [*]; done)), H', ⟨by have := HJ6.out; have := HK2.out; first | omega | exact Nat.le_refl _⟩, ⟨by (with_reducible repeat (first | apply Kd.R_alloc | apply Kd.R_drewN | apply Kd.R_drew)); exact HO_7.out⟩, ⟨by (with_reducible repeat (first | apply Kd.R_alloc | apply Kd.R_drewN | apply Kd.R_drew)); exact HO_8.out⟩, ⟨by (with_reducible repeat (first | refine blk_drewN ?_ _ | refine blk_drew ?_ | refine blk_alloc ?_ _)); exact BK612.out⟩, ⟨by (with_reducible repeat (first | refine blk_drewN ?_ _ | refine blk_drew ?_ | refine blk_alloc ?_ _)); exact BK625.out⟩, ⟨by repeat (first | (with_reducible first | exact HB.out | apply below_alloc | apply pw_below_drewN | apply below_drew1 | refine below_set ?_ GE612.out | refine below_set ?_ GE625.out) | exact HB.out)⟩⟩
            case rest => as_aux_lemma =>
             clear HC32
             try clear p2
             try clear c3
             try clear c5
             try clear c6
             try clear p6
             try clear q6
             try clear hx6
             try clear c37
             try clear c37b0
             try clear c37b1
             try clear c50
             try clear c51
             try clear hx626_0
             try clear hx626_1
             try clear hx626_2
             try clear p626
             try clear q626
             obtain ⟨kq, x105_31, rfl, HA, HJ31, HO_7, HO_8, BK612, BK625, HB⟩ := hcut
             cases kq with
             | zero => exact absurd HA.out (by simp [dancestudiolaw50_RehearseNobody.j2])
             | succ kj31 =>
              have H := HA.out
              clear HA
              simp only [dancestudiolaw50_RehearseNobody.j2] at H
              by_cases c56 : x105_31 = true
              ·
               subst c56
               have H1 : (none) = some r := by rw [if_pos rfl] at H; exact H
               clear H
               have H := H1
               clear H1
               exact absurd H (by simp)
              ·
               replace c56 := Bool.eq_false_iff.mpr c56
               subst c56
               have H1 : (if 0 ≤ x9_2 then (if x9_2 < (l1.length : Int) then (if a2 < ((rd_T48 l1 x9_2).f2) then (dancestudiolaw50_RehearseNobody.j3 kj31 l1 a2 x7_2 x8_2 x9_2 true l0_0 l0_1 l0_2 a0_3 ((rd_T53 l0_0 x9_2).f0) ((rd_T53 l0_0 x9_2).f1) ((rd_T53 l0_0 x9_2).f2)) else (dancestudiolaw50_RehearseNobody.j3 kj31 l1 a2 x7_2 x8_2 x9_2 (decide (a2 ≥ (wrap64 (((rd_T48 l1 x9_2).f2) + ((rd_T53 l0_0 x9_2).f1))))) l0_0 l0_1 l0_2 a0_3 ((rd_T53 l0_0 x9_2).f0) ((rd_T53 l0_0 x9_2).f1) ((rd_T53 l0_0 x9_2).f2))) else (none)) else (none)) = some r := by rw [if_neg (show ¬ (false = true) by decide)] at H; exact H
               clear H
               have H := H1
               clear H1
               have HC57 := Aside0.mk H
               clear H
               go_upto_region 13 with (fail)
               go_cut [124] (fun v124 wc => ∃ (kq : Nat) (x124_56 : Bool), v124 = .bool x124_56 ∧ Aside0 (dancestudiolaw50_RehearseNobody.j3 kq l1 a2 x7_2 x8_2 x9_2 x124_56 l0_0 l0_1 l0_2 a0_3 ((rd_T53 l0_0 x9_2).f0) ((rd_T53 l0_0 x9_2).f1) ((rd_T53 l0_0 x9_2).f2) = some r) ∧ Aside0 (kq ≤ kj31) ∧ Aside0 (Kd.R (Kd.int .i64) 49 wc w.heap.size (fun k_ => some k_ ≠ (Value.slice (some ⟨gb622, 0, none⟩) 4 4).ownBlock) (.slice (some ⟨gb619, 0, none⟩) 24 24) x7_2) ∧ Aside0 (Kd.R (Kd.int .i64) 50 wc w.heap.size (fun k_ => some k_ ≠ (Value.slice (some ⟨gb619, 0, none⟩) 24 24).ownBlock) (.slice (some ⟨gb622, 0, none⟩) 4 4) x8_2) ∧ Aside0 (wc.heap[gb612]? = some (.cells #[(.slice (some ad624) l0_0.length c0_0), (.slice A0_1 l0_1.length c0_1), (.slice A0_2 l0_2.length c0_2), .int .i64 a0_3] 26 (0, 0))) ∧ Aside0 (wc.heap[gb625]? = some (.cells #[.string ((rd_T53 l0_0 x9_2).f0), .int .i64 ((rd_T53 l0_0 x9_2).f1), (.slice A624_2 ((rd_T53 l0_0 x9_2).f2).length c624_2)] 53 (0, 0))) ∧ Aside0 (Below w.heap.size w wc))
               case first => as_aux_lemma =>
                have H := HC57.out
                clear HC57
                by_cases c58 : 0 ≤ x9_2
                ·
                 rw [if_pos c58] at H
                 have c58b0 : decide (0 ≤ x9_2) = true := decide_eq_true c58
                 clear c58
                 (first | rw [c58b0] | (simp only [i64_w, i32_w]; rw [c58b0]) | skip)
                 by_cases c59 : x9_2 < (l1.length : Int)
                 ·
                  rw [if_pos c59] at H
                  have c59b0 : decide (x9_2 < (l1.length : Int)) = true := decide_eq_true c59
                  clear c59
                  by_cases c60 : a2 < ((rd_T48 l1 x9_2).f2)
                  · as_aux_lemma =>
                   rw [if_pos c60] at H
                   have c60b0 : decide (a2 < ((rd_T48 l1 x9_2).f2)) = true := decide_eq_true c60
                   clear c60
                   have H' := Aside0.mk H
                   clear H
                   try go_wp2
                   have n0_ := Aside0.mk (Kd.R_drew HO_7.out)
                   have n1_ := Aside0.mk (Kd.R_drew HO_8.out)
                   have n2_ := Aside0.mk (blk_drew BK612.out)
                   have n3_ := Aside0.mk (blk_drew BK625.out)
                   have n4_ := Aside0.mk (below_drew1 HB.out)
                   clear HO_7
                   clear HO_8
                   clear BK612
                   clear BK625
                   clear HB
                   have HO_7 := n0_
                   have HO_8 := n1_
                   have BK612 := n2_
                   have BK625 := n3_
                   have HB := n4_
                   clear n0_ n1_ n2_ n3_ n4_
                   have p633 : 0 ≤ (x9_2 : Int) := of_decide_eq_true (by first | (with_reducible assumption) | assumption)
                   have q633 : x9_2 < (l1.length : Int) := of_decide_eq_true (by first | (with_reducible assumption) | assumption)
                   obtain ⟨ad633, e633, hx633_0, hx633_1, hx633_2⟩ := at_T48 HR1.out x9_2 p633 q633
                   have hw633_2 := hx633_2
                   have hw633_1 := hx633_1
                   have hw633_0 := hx633_0
                   cases e633
                   replace hx633_0 := (HB.out.cell (World.block_lt_of_cell? w _ hx633_0)).trans hx633_0
                   replace hx633_1 := (HB.out.cell (World.block_lt_of_cell? w _ hx633_1)).trans hx633_1
                   replace hx633_2 := (HB.out.cell (World.block_lt_of_cell? w _ hx633_2)).trans hx633_2
                   replace p633 := eq_true p633
                   replace q633 := eq_true q633
                   refine start_ (n := 19) (S := fun w' => w'.cell? (ad633.add ((x9_2).toNat * 3)) = some (.int .i64 ((rd_T48 l1 x9_2).f0)) ∧ w'.cell? ⟨(ad633.add ((x9_2).toNat * 3)).block, (ad633.add ((x9_2).toNat * 3)).off + 1, none⟩ = some (.int .i64 ((rd_T48 l1 x9_2).f1)) ∧ w'.cell? ⟨(ad633.add ((x9_2).toNat * 3)).block, (ad633.add ((x9_2).toNat * 3)).off + 2, none⟩ = some (.int .i64 ((rd_T48 l1 x9_2).f2))) (ds := []) #[false, false, false, false, false, false, false, false, false, false, false, false, false, false, false, false, false, false, false] (by kernel_rfl) rfl rfl ⟨((HB.out.cell (World.block_lt_of_cell? w _ hw633_0)).trans hw633_0), ((HB.out.cell (World.block_lt_of_cell? w _ hw633_1)).trans hw633_1), ((HB.out.cell (World.block_lt_of_cell? w _ hw633_2)).trans hw633_2)⟩ (fun hHeld => ?_); refine with_tabW dancestudiolaw50_RehearseNobody.tab13 dancestudiolaw50_RehearseNobody.bits13 (fun HT_ HW_ => ?_)
                   generalize wc.drew = w61 at HO_7 HO_8 BK612 BK625 HB hx633_0 hx633_1 hx633_2 hHeld ⊢
                   refine pM 0 106 HT_ ?_
                   refine pM 1 107 HT_ ?_
                   refine pM 2 108 HT_ ?_
                   refine pM 3 109 HT_ ?_
                   refine pM 4 110 HT_ ?_
                   refine tM 5 111 rfl HT_ HW_ (by rintro w' ⟨s0, s1, s2⟩; go_simp; with_reducible rfl) hHeld ?_
                   refine pM 6 112 HT_ ?_
                   refine pM 7 113 HT_ ?_
                   refine uM 8 114 HT_ ?_
                   refine uM 9 115 HT_ ?_
                   refine uM 10 116 HT_ ?_
                   refine uM 11 117 HT_ ?_
                   refine uM 12 118 HT_ ?_
                   refine uM 13 119 HT_ ?_
                   refine uM 14 120 HT_ ?_
                   refine uM 15 121 HT_ ?_
                   refine uM 16 122 HT_ ?_
                   refine uM 17 123 HT_ ?_
                   refine pM 18 124 HT_ ?_
                   refine done_ (done_of HT_.out (by kernel_rfl)) ?_
                   try go_wp2
                   go_meet
                   case rel => exact ⟨_, (true), (by first | rfl | (simp; done) | (simp [*]; done)), H', ⟨by have := HJ6.out; have := HK2.out; have := HJ31.out; first | omega | exact Nat.le_refl _⟩, ⟨by (with_reducible repeat (first | apply Kd.R_alloc | apply Kd.R_drewN | apply Kd.R_drew)); exact HO_7.out⟩, ⟨by (with_reducible repeat (first | apply Kd.R_alloc | apply Kd.R_drewN | apply Kd.R_drew)); exact HO_8.out⟩, ⟨by (with_reducible repeat (first | refine blk_drewN ?_ _ | refine blk_drew ?_ | refine blk_alloc ?_ _)); exact BK612.out⟩, ⟨by (with_reducible repeat (first | refine blk_drewN ?_ _ | refine blk_drew ?_ | refine blk_alloc ?_ _)); exact BK625.out⟩, ⟨by repeat (first | (with_reducible first | exact HB.out | apply below_alloc | apply pw_below_drewN | apply below_drew1 | refine below_set ?_ GE612.out | refine below_set ?_ GE625.out) | exact HB.out)⟩⟩
                  · as_aux_lemma =>
                   rw [if_neg c60] at H
                   have c60b0 : decide (a2 < ((rd_T48 l1 x9_2).f2)) = false := decide_eq_false c60
                   clear c60
                   have H' := Aside0.mk H
                   clear H
                   try go_wp2
                   have n0_ := Aside0.mk (Kd.R_drew HO_7.out)
                   have n1_ := Aside0.mk (Kd.R_drew HO_8.out)
                   have n2_ := Aside0.mk (blk_drew BK612.out)
                   have n3_ := Aside0.mk (blk_drew BK625.out)
                   have n4_ := Aside0.mk (below_drew1 HB.out)
                   clear HO_7
                   clear HO_8
                   clear BK612
                   clear BK625
                   clear HB
                   have HO_7 := n0_
                   have HO_8 := n1_
                   have BK612 := n2_
                   have BK625 := n3_
                   have HB := n4_
                   clear n0_ n1_ n2_ n3_ n4_
                   have p633 : 0 ≤ (x9_2 : Int) := of_decide_eq_true (by first | (with_reducible assumption) | assumption)
                   have q633 : x9_2 < (l1.length : Int) := of_decide_eq_true (by first | (with_reducible assumption) | assumption)
                   obtain ⟨ad633, e633, hx633_0, hx633_1, hx633_2⟩ := at_T48 HR1.out x9_2 p633 q633
                   have hw633_2 := hx633_2
                   have hw633_1 := hx633_1
                   have hw633_0 := hx633_0
                   cases e633
                   replace hx633_0 := (HB.out.cell (World.block_lt_of_cell? w _ hx633_0)).trans hx633_0
                   replace hx633_1 := (HB.out.cell (World.block_lt_of_cell? w _ hx633_1)).trans hx633_1
                   replace hx633_2 := (HB.out.cell (World.block_lt_of_cell? w _ hx633_2)).trans hx633_2
                   replace p633 := eq_true p633
                   replace q633 := eq_true q633
                   have p634 : 0 ≤ (x9_2 : Int) := of_decide_eq_true (by first | (with_reducible assumption) | assumption)
                   have q634 : x9_2 < (l1.length : Int) := of_decide_eq_true (by first | (with_reducible assumption) | assumption)
                   obtain ⟨ad634, e634, hx634_0, hx634_1, hx634_2⟩ := at_T48 HR1.out x9_2 p634 q634
                   have hw634_2 := hx634_2
                   have hw634_1 := hx634_1
                   have hw634_0 := hx634_0
                   obtain rfl : ad633 = ad634 := (by injection e634)
                   replace hx634_0 := (HB.out.cell (World.block_lt_of_cell? w _ hx634_0)).trans hx634_0
                   replace hx634_1 := (HB.out.cell (World.block_lt_of_cell? w _ hx634_1)).trans hx634_1
                   replace hx634_2 := (HB.out.cell (World.block_lt_of_cell? w _ hx634_2)).trans hx634_2
                   replace p634 := eq_true p634
                   replace q634 := eq_true q634
                   refine start_ (n := 19) (S := fun w' => w'.cell? ⟨gb625, 0, none⟩ = some (.string ((rd_T53 l0_0 x9_2).f0)) ∧ w'.cell? ⟨gb625, 1, none⟩ = some (.int .i64 ((rd_T53 l0_0 x9_2).f1)) ∧ w'.cell? ⟨gb625, 2, none⟩ = some (.slice A624_2 ((rd_T53 l0_0 x9_2).f2).length c624_2) ∧ w'.cell? (ad633.add ((x9_2).toNat * 3)) = some (.int .i64 ((rd_T48 l1 x9_2).f0)) ∧ w'.cell? ⟨(ad633.add ((x9_2).toNat * 3)).block, (ad633.add ((x9_2).toNat * 3)).off + 1, none⟩ = some (.int .i64 ((rd_T48 l1 x9_2).f1)) ∧ w'.cell? ⟨(ad633.add ((x9_2).toNat * 3)).block, (ad633.add ((x9_2).toNat * 3)).off + 2, none⟩ = some (.int .i64 ((rd_T48 l1 x9_2).f2)) ∧ w'.cell? (ad633.add ((x9_2).toNat * 3)) = some (.int .i64 ((rd_T48 l1 x9_2).f0)) ∧ w'.cell? ⟨(ad633.add ((x9_2).toNat * 3)).block, (ad633.add ((x9_2).toNat * 3)).off + 1, none⟩ = some (.int .i64 ((rd_T48 l1 x9_2).f1)) ∧ w'.cell? ⟨(ad633.add ((x9_2).toNat * 3)).block, (ad633.add ((x9_2).toNat * 3)).off + 2, none⟩ = some (.int .i64 ((rd_T48 l1 x9_2).f2))) (ds := []) #[false, false, false, false, false, false, false, false, false, false, false, false, false, false, false, false, false, false, false] (by kernel_rfl) rfl rfl ⟨(blk_cell BK625.out 0).trans rfl, (blk_cell BK625.out 1).trans rfl, (blk_cell BK625.out 2).trans rfl, ((HB.out.cell (World.block_lt_of_cell? w _ hw633_0)).trans hw633_0), ((HB.out.cell (World.block_lt_of_cell? w _ hw633_1)).trans hw633_1), ((HB.out.cell (World.block_lt_of_cell? w _ hw633_2)).trans hw633_2), ((HB.out.cell (World.block_lt_of_cell? w _ hw634_0)).trans hw634_0), ((HB.out.cell (World.block_lt_of_cell? w _ hw634_1)).trans hw634_1), ((HB.out.cell (World.block_lt_of_cell? w _ hw634_2)).trans hw634_2)⟩ (fun hHeld => ?_); refine with_tabW dancestudiolaw50_RehearseNobody.tab13 dancestudiolaw50_RehearseNobody.bits13 (fun HT_ HW_ => ?_)
                   generalize wc.drew = w62 at HO_7 HO_8 BK612 BK625 HB hx633_0 hx633_1 hx633_2 hx634_0 hx634_1 hx634_2 hHeld ⊢
                   refine pM 0 106 HT_ ?_
                   refine pM 1 107 HT_ ?_
                   refine pM 2 108 HT_ ?_
                   refine pM 3 109 HT_ ?_
                   refine pM 4 110 HT_ ?_
                   refine tM 5 111 rfl HT_ HW_ (by rintro w' ⟨s0, s1, s2, s3, s4, s5, s6, s7, s8⟩; go_simp; with_reducible rfl) hHeld ?_
                   refine pM 6 112 HT_ ?_
                   refine pM 7 113 HT_ ?_
                   refine pM 8 114 HT_ ?_
                   refine pM 9 115 HT_ ?_
                   refine pM 10 116 HT_ ?_
                   refine pM 11 117 HT_ ?_
                   refine pM 12 118 HT_ ?_
                   refine pM 14 120 HT_ ?_
                   refine tM 13 119 rfl HT_ HW_ (by rintro w' ⟨s0, s1, s2, s3, s4, s5, s6, s7, s8⟩; go_simp; with_reducible rfl) hHeld ?_
                   refine tM 15 121 rfl HT_ HW_ (by rintro w' ⟨s0, s1, s2, s3, s4, s5, s6, s7, s8⟩; go_simp; with_reducible rfl) hHeld ?_
                   refine pM 16 122 HT_ ?_
                   refine pM 17 123 HT_ ?_
                   refine pM 18 124 HT_ ?_
                   refine done_ (done_of HT_.out (by kernel_rfl)) ?_
                   try go_wp2
                   go_meet
                   case rel => exact ⟨_, (decide (a2 ≥ (wrap64 (((rd_T48 l1 x9_2).f2) + ((rd_T53 l0_0 x9_2).f1))))), (by first | rfl | (simp; done) | (simp [*]; done)), H', ⟨by have := HJ6.out; have := HK2.out; have := HJ31.out; first | omega | exact Nat.le_refl _⟩, ⟨by (with_reducible repeat (first | apply Kd.R_alloc | apply Kd.R_drewN | apply Kd.R_drew)); exact HO_7.out⟩, ⟨by (with_reducible repeat (first | apply Kd.R_alloc | apply Kd.R_drewN | apply Kd.R_drew)); exact HO_8.out⟩, ⟨by (with_reducible repeat (first | refine blk_drewN ?_ _ | refine blk_drew ?_ | refine blk_alloc ?_ _)); exact BK612.out⟩, ⟨by (with_reducible repeat (first | refine blk_drewN ?_ _ | refine blk_drew ?_ | refine blk_alloc ?_ _)); exact BK625.out⟩, ⟨by repeat (first | (with_reducible first | exact HB.out | apply below_alloc | apply pw_below_drewN | apply below_drew1 | refine below_set ?_ GE612.out | refine below_set ?_ GE625.out) | exact HB.out)⟩⟩
                 ·
                  rw [if_neg c59] at H
                  exact absurd H (by simp)
                ·
                 rw [if_neg c58] at H
                 exact absurd H (by simp)
               case rest => as_aux_lemma =>
                clear HC57
                try clear p2
                try clear c3
                try clear c5
                try clear c6
                try clear p6
                try clear q6
                try clear hx6
                try clear c37
                try clear c37b0
                try clear c37b1
                try clear c50
                try clear c51
                try clear c56
                try clear c58
                try clear c58b0
                try clear c59
                try clear c59b0
                try clear c60
                try clear c60b0
                try clear c62
                try clear p62
                try clear q62
                try clear hx62
                try clear hx626_0
                try clear hx626_1
                try clear hx626_2
                try clear hx633_0
                try clear hx633_1
                try clear hx633_2
                try clear hx634_0
                try clear hx634_1
                try clear hx634_2
                try clear p2
                try clear p6
                try clear p626
                try clear p633
                try clear p634
                try clear q6
                try clear q626
                try clear q633
                try clear q634
                obtain ⟨kq, x124_56, rfl, HA, HJ56, HO_7, HO_8, BK612, BK625, HB⟩ := hcut
                cases kq with
                | zero => exact absurd HA.out (by simp [dancestudiolaw50_RehearseNobody.j3])
                | succ kj56 =>
                 have H := HA.out
                 clear HA
                 simp only [dancestudiolaw50_RehearseNobody.j3] at H
                 by_cases c63 : x124_56 = true
                 ·
                  subst c63
                  have H1 : (dancestudiolaw50_RehearseNobody.l0 kj56 l1 a2 x7_2 x8_2 (wrap64 (x9_2 + 1)) l0_0 l0_1 l0_2 a0_3) = some r := by rw [if_pos rfl] at H; exact H
                  clear H
                  have H := H1
                  clear H1
                  have H' := Aside0.mk H
                  clear H
                  go_wp2
                  go_roundg kj56
                  case measure => have := HJ6.out; have := HK2.out; have := HJ31.out; have := HJ56.out; omega
                  case rel => exact ⟨(x7_2), (x8_2), (wrap64 (x9_2 + 1)), (by first | rfl | (simp; done) | (simp [*]; done)), H', ⟨by have := HJ6.out; have := HK2.out; have := HJ31.out; have := HJ56.out; omega⟩, ⟨by (with_reducible repeat (first | apply Kd.R_alloc | apply Kd.R_drewN | apply Kd.R_drew)); exact HO_7.out⟩, ⟨by (with_reducible repeat (first | apply Kd.R_alloc | apply Kd.R_drewN | apply Kd.R_drew)); exact HO_8.out⟩, ⟨by (with_reducible repeat (first | refine blk_drewN ?_ _ | refine blk_drew ?_ | refine blk_alloc ?_ _)); exact BK612.out⟩, ⟨by repeat (first | (with_reducible first | exact HB.out | apply below_alloc | apply pw_below_drewN | apply below_drew1 | refine below_set ?_ GE612.out | refine below_set ?_ GE625.out) | exact HB.out)⟩⟩
                 ·
                  replace c63 := Bool.eq_false_iff.mpr c63
                  subst c63
                  have H1 : (if 0 ≤ x9_2 then (if x9_2 < (l1.length : Int) then (if ((rd_T48 l1 x9_2).f1) ≥ 4 then (none) else (if 0 ≤ ((rd_T48 l1 x9_2).f1) then (if ((rd_T48 l1 x9_2).f1) < (x8_2.length : Int) then (dancestudiolaw50_RehearseNobody.l1 kj56 l1 a2 x7_2 (x8_2.set (((rd_T48 l1 x9_2).f1) : Int).toNat (wrap64 ((rd x8_2 ((rd_T48 l1 x9_2).f1)) + 1))) x9_2 0 l0_0 l0_1 l0_2 a0_3 ((rd_T53 l0_0 x9_2).f0) ((rd_T53 l0_0 x9_2).f1) ((rd_T53 l0_0 x9_2).f2)) else (none)) else (none))) else (none)) else (none)) = some r := by rw [if_neg (show ¬ (false = true) by decide)] at H; exact H
                  clear H
                  have H := H1
                  clear H1
                  by_cases c64 : 0 ≤ x9_2
                  ·
                   rw [if_pos c64] at H
                   have c64b0 : decide (0 ≤ x9_2) = true := decide_eq_true c64
                   clear c64
                   by_cases c65 : x9_2 < (l1.length : Int)
                   ·
                    rw [if_pos c65] at H
                    have c65b0 : decide (x9_2 < (l1.length : Int)) = true := decide_eq_true c65
                    clear c65
                    by_cases c66 : ((rd_T48 l1 x9_2).f1) ≥ 4
                    ·
                     rw [if_pos c66] at H
                     exact absurd H (by simp)
                    ·
                     rw [if_neg c66] at H
                     have c66b0 : decide (4 ≤ ((rd_T48 l1 x9_2).f1)) = false := decide_eq_false c66
                     clear c66
                     by_cases c67 : 0 ≤ ((rd_T48 l1 x9_2).f1)
                     ·
                      rw [if_pos c67] at H
                      have c67b0 : decide (0 ≤ ((rd_T48 l1 x9_2).f1)) = true := decide_eq_true c67
                      clear c67
                      by_cases c68 : ((rd_T48 l1 x9_2).f1) < (x8_2.length : Int)
                      ·
                       rw [if_pos c68] at H
                       have c68b0 : decide (((rd_T48 l1 x9_2).f1) < (x8_2.length : Int)) = true := decide_eq_true c68
                       clear c68
                       obtain ⟨y639, hy639⟩ : ∃ y_ : List Int, y_ = (x8_2.set (((rd_T48 l1 x9_2).f1) : Int).toNat (wrap64 ((rd x8_2 ((rd_T48 l1 x9_2).f1)) + 1))) := ⟨_, rfl⟩
                       replace H : (dancestudiolaw50_RehearseNobody.l1 kj56 l1 a2 x7_2 y639 x9_2 0 l0_0 l0_1 l0_2 a0_3 ((rd_T53 l0_0 x9_2).f0) ((rd_T53 l0_0 x9_2).f1) ((rd_T53 l0_0 x9_2).f2)) = some r := by first | (rw [hy639]; with_reducible exact H) | (have H2_ := (Option.bind_some _ _).symm.trans H; rw [hy639]; with_reducible exact H2_) | (have H2_ := (Option.bind_some _ _).symm.trans H; with_reducible exact H2_) | with_reducible exact H | (rw [hy639]; exact H) | exact H
                       have Ny639 := Aside0.mk hy639
                       clear hy639
                       have H' := Aside0.mk H
                       clear H
                       have p635 : 0 ≤ (x9_2 : Int) := of_decide_eq_true (by first | (with_reducible assumption) | assumption)
                       have q635 : x9_2 < (l1.length : Int) := of_decide_eq_true (by first | (with_reducible assumption) | assumption)
                       obtain ⟨ad635, e635, hx635_0, hx635_1, hx635_2⟩ := at_T48 HR1.out x9_2 p635 q635
                       cases e635
                       replace hx635_0 := (HB.out.cell (World.block_lt_of_cell? w _ hx635_0)).trans hx635_0
                       replace hx635_1 := (HB.out.cell (World.block_lt_of_cell? w _ hx635_1)).trans hx635_1
                       replace hx635_2 := (HB.out.cell (World.block_lt_of_cell? w _ hx635_2)).trans hx635_2
                       replace p635 := eq_true p635
                       replace q635 := eq_true q635
                       try go_wp2
                       have n0_ := Aside0.mk (Kd.R_drew HO_7.out)
                       have n1_ := Aside0.mk (Kd.R_drew HO_8.out)
                       have n2_ := Aside0.mk (blk_drew BK612.out)
                       have n3_ := Aside0.mk (blk_drew BK625.out)
                       have n4_ := Aside0.mk (below_drew1 HB.out)
                       clear HO_7
                       clear HO_8
                       clear BK612
                       clear BK625
                       clear HB
                       have HO_7 := n0_
                       have HO_8 := n1_
                       have BK612 := n2_
                       have BK625 := n3_
                       have HB := n4_
                       clear n0_ n1_ n2_ n3_ n4_
                       have p636 : 0 ≤ (x9_2 : Int) := of_decide_eq_true (by first | (with_reducible assumption) | assumption)
                       have q636 : x9_2 < (l1.length : Int) := of_decide_eq_true (by first | (with_reducible assumption) | assumption)
                       obtain ⟨ad636, e636, hx636_0, hx636_1, hx636_2⟩ := at_T48 HR1.out x9_2 p636 q636
                       have hw636_2 := hx636_2
                       have hw636_1 := hx636_1
                       have hw636_0 := hx636_0
                       obtain rfl : ad635 = ad636 := (by injection e636)
                       replace hx636_0 := (HB.out.cell (World.block_lt_of_cell? w _ hx636_0)).trans hx636_0
                       replace hx636_1 := (HB.out.cell (World.block_lt_of_cell? w _ hx636_1)).trans hx636_1
                       replace hx636_2 := (HB.out.cell (World.block_lt_of_cell? w _ hx636_2)).trans hx636_2
                       replace p636 := eq_true p636
                       replace q636 := eq_true q636
                       have p637 : 0 ≤ (x9_2 : Int) := of_decide_eq_true (by first | (with_reducible assumption) | assumption)
                       have q637 : x9_2 < (l1.length : Int) := of_decide_eq_true (by first | (with_reducible assumption) | assumption)
                       obtain ⟨ad637, e637, hx637_0, hx637_1, hx637_2⟩ := at_T48 HR1.out x9_2 p637 q637
                       have hw637_2 := hx637_2
                       have hw637_1 := hx637_1
                       have hw637_0 := hx637_0
                       obtain rfl : ad635 = ad637 := (by injection e637)
                       replace hx637_0 := (HB.out.cell (World.block_lt_of_cell? w _ hx637_0)).trans hx637_0
                       replace hx637_1 := (HB.out.cell (World.block_lt_of_cell? w _ hx637_1)).trans hx637_1
                       replace hx637_2 := (HB.out.cell (World.block_lt_of_cell? w _ hx637_2)).trans hx637_2
                       replace p637 := eq_true p637
                       replace q637 := eq_true q637
                       obtain ⟨Ao71, co71, eo71⟩ := Kd.R_slice HO_8.out
                       (first | subst eo71 | (injection eo71 with f1_ f2_ f3_; have f4_ := f1_.symm; have f5_ := f3_.symm; clear f1_ f2_ f3_; subst f4_; subst f5_))
                       have p638 : 0 ≤ (((rd_T48 l1 x9_2).f1) : Int) := of_decide_eq_true (by first | (with_reducible assumption) | assumption)
                       have q638 : ((rd_T48 l1 x9_2).f1) < (x8_2.length : Int) := of_decide_eq_true (by first | (with_reducible assumption) | assumption)
                       obtain ⟨ad638, e638, hx638_0⟩ := Kd.at_int (Kd.R_reads' HO_8.out).2.2 ((rd_T48 l1 x9_2).f1) p638 q638
                       cases e638
                       replace p638 := eq_true p638
                       replace q638 := eq_true q638
                       have p69 : 0 ≤ (((rd_T48 l1 x9_2).f1) : Int) := of_decide_eq_true (by first | (with_reducible assumption) | assumption)
                       have q69 : (((rd_T48 l1 x9_2).f1) : Int) < ((x8_2.length : Int) : Int) := of_decide_eq_true (by first | (with_reducible assumption) | assumption)
                       obtain ⟨go69, co69, eo69, gb69, gl69, cl69, HG69⟩ := Kd.R_form HO_8.out (by omega)
                       obtain ⟨rfl, rfl⟩ : gb622 = go69 ∧ 4 = co69 := by injection eo69 with ea_ en_ ec_; injection ea_ with ea_; injection ea_ with ea_; exact ⟨ea_, ec_⟩
                       have qn69 := arr_len HO_8.out q69
                       have GB69 := Aside0.mk gb69
                       have GG69 := Aside0.mk HG69
                       clear gb69 gl69 HG69
                       (first | simp only [add_plain] at hx638_0 | skip)
                       obtain ⟨hx69_0, hf69_0⟩ := Kd.R_celln 0 HO_8.out (((rd_T48 l1 x9_2).f1) : Int) p69 qn69
                       have qm69 := eq_true (show _ < (4 : Int) from qn69)
                       replace p69 := eq_true p69
                       replace q69 := eq_true q69
                       have HP72 := Kd.R_putn HO_8.out (((rd_T48 l1 x9_2).f1) : Int) (wrap64 ((rd x8_2 ((rd_T48 l1 x9_2).f1)) + 1))
                       rw [← Ny639.out] at HP72
                       have HQ72 := Aside0.mk HP72
                       clear HP72
                       refine start_ (n := 15) (S := fun w' => w'.cell? (ad635.add ((x9_2).toNat * 3)) = some (.int .i64 ((rd_T48 l1 x9_2).f0)) ∧ w'.cell? ⟨(ad635.add ((x9_2).toNat * 3)).block, (ad635.add ((x9_2).toNat * 3)).off + 1, none⟩ = some (.int .i64 ((rd_T48 l1 x9_2).f1)) ∧ w'.cell? ⟨(ad635.add ((x9_2).toNat * 3)).block, (ad635.add ((x9_2).toNat * 3)).off + 2, none⟩ = some (.int .i64 ((rd_T48 l1 x9_2).f2)) ∧ w'.cell? (ad635.add ((x9_2).toNat * 3)) = some (.int .i64 ((rd_T48 l1 x9_2).f0)) ∧ w'.cell? ⟨(ad635.add ((x9_2).toNat * 3)).block, (ad635.add ((x9_2).toNat * 3)).off + 1, none⟩ = some (.int .i64 ((rd_T48 l1 x9_2).f1)) ∧ w'.cell? ⟨(ad635.add ((x9_2).toNat * 3)).block, (ad635.add ((x9_2).toNat * 3)).off + 2, none⟩ = some (.int .i64 ((rd_T48 l1 x9_2).f2)) ∧ w'.cell? ⟨gb622, (((rd_T48 l1 x9_2).f1)).toNat, none⟩ = some (.int .i64 (rd x8_2 ((rd_T48 l1 x9_2).f1)))) (ds := [14]) #[false, false, false, false, false, false, false, false, false, false, false, false, false, false, false] (by kernel_rfl) rfl rfl ⟨((HB.out.cell (World.block_lt_of_cell? w _ hw636_0)).trans hw636_0), ((HB.out.cell (World.block_lt_of_cell? w _ hw636_1)).trans hw636_1), ((HB.out.cell (World.block_lt_of_cell? w _ hw636_2)).trans hw636_2), ((HB.out.cell (World.block_lt_of_cell? w _ hw637_0)).trans hw637_0), ((HB.out.cell (World.block_lt_of_cell? w _ hw637_1)).trans hw637_1), ((HB.out.cell (World.block_lt_of_cell? w _ hw637_2)).trans hw637_2), hx638_0⟩ (fun hHeld => ?_); refine with_tabW dancestudiolaw50_RehearseNobody.tab16 dancestudiolaw50_RehearseNobody.bits16 (fun HT_ HW_ => ?_)
                       generalize wc.drew = w70 at HO_7 HO_8 BK612 BK625 HB GG69 HQ72 hf69_0 hx636_0 hx636_1 hx636_2 hx637_0 hx637_1 hx637_2 hx638_0 hx69_0 hHeld ⊢
                       refine pM 0 131 HT_ ?_
                       refine pM 1 132 HT_ ?_
                       refine pM 2 133 HT_ ?_
                       refine pM 3 134 HT_ ?_
                       refine pM 5 136 HT_ ?_
                       refine pM 6 137 HT_ ?_
                       refine pM 7 138 HT_ ?_
                       refine pM 8 139 HT_ ?_
                       refine tM 4 135 rfl HT_ HW_ (by rintro w' ⟨s0, s1, s2, s3, s4, s5, s6⟩; go_simp; with_reducible rfl) hHeld ?_
                       refine tM 9 140 rfl HT_ HW_ (by rintro w' ⟨s0, s1, s2, s3, s4, s5, s6⟩; go_simp; with_reducible rfl) hHeld ?_
                       refine pM 10 141 HT_ ?_
                       refine tM 11 142 rfl HT_ HW_ (by rintro w' ⟨s0, s1, s2, s3, s4, s5, s6⟩; go_simp; with_reducible rfl) hHeld ?_
                       refine pM 12 143 HT_ ?_
                       refine pM 13 144 HT_ ?_
                       refine last_ (i := 14) (N := none) #[true, true, true, true, true, true, true, true, true, true, true, true, true, true, true] rfl rfl (one_of HT_.out (by kernel_rfl)) (by decide) (fun K hK => ?_)
                       refine skip_ (w1 := ?_) (by rfl) rfl ?_ ?_
                       rotate_left
                       ·
                        go_simp
                        rfl
                       refine hK.out _ _ ?_
                       clear hK K
                       refine done_ (done_of HT_.out (by kernel_rfl)) ?_
                       try go_wp2
                       go_loopg [11] kj56 (fun kq v11 w' => ∃ (x7_5 : List Int) (x8_5 : List Int) (x11_5 : Int), v11 = .int .i64 x11_5 ∧ Aside0 (dancestudiolaw50_RehearseNobody.l1 kq l1 a2 x7_5 x8_5 x9_2 x11_5 l0_0 l0_1 l0_2 a0_3 ((rd_T53 l0_0 x9_2).f0) ((rd_T53 l0_0 x9_2).f1) ((rd_T53 l0_0 x9_2).f2) = some r) ∧ Aside0 (kq ≤ kj56) ∧ Aside0 (Kd.R (Kd.int .i64) 49 w' w.heap.size (fun k_ => some k_ ≠ (Value.slice (some ⟨gb622, 0, none⟩) 4 4).ownBlock) (.slice (some ⟨gb619, 0, none⟩) 24 24) x7_5) ∧ Aside0 (Kd.R (Kd.int .i64) 50 w' w.heap.size (fun k_ => some k_ ≠ (Value.slice (some ⟨gb619, 0, none⟩) 24 24).ownBlock) (.slice (some ⟨gb622, 0, none⟩) 4 4) x8_5) ∧ Aside0 (w'.heap[gb612]? = some (.cells #[(.slice (some ad624) l0_0.length c0_0), (.slice A0_1 l0_1.length c0_1), (.slice A0_2 l0_2.length c0_2), .int .i64 a0_3] 26 (0, 0))) ∧ Aside0 (w'.heap[gb625]? = some (.cells #[.string ((rd_T53 l0_0 x9_2).f0), .int .i64 ((rd_T53 l0_0 x9_2).f1), (.slice A624_2 ((rd_T53 l0_0 x9_2).f2).length c624_2)] 53 (0, 0))) ∧ Aside0 (Below w.heap.size w w'))
                       case atStart => exact ⟨(x7_2), (y639), (0), (by first | rfl | (simp; done) | (simp [*]; done)), H', ⟨Nat.le_refl _⟩, ⟨by (with_reducible repeat (first | apply Kd.R_alloc | apply Kd.R_drewN | apply Kd.R_drew)); exact Kd.R_mono (Kd.R_far (p := ⟨gb622, (((rd_T48 l1 x9_2).f1) : Int).toNat, none⟩) (Kd.R_mono HO_7.out (fun k_ hk => (⟨hk, fun e_ => hk (by rw [e_]; rfl)⟩ : _ ∧ k_ ≠ gb622))) (fun _ hk => hk.2) (.int .i64 (wrap64 ((rd x8_2 ((rd_T48 l1 x9_2).f1)) + 1)))) (fun _ hk => hk.1)⟩, ⟨by (with_reducible repeat (first | apply Kd.R_alloc | apply Kd.R_drewN | apply Kd.R_drew)); exact HQ72.out⟩, ⟨by (with_reducible repeat (first | refine blk_drewN ?_ _ | refine blk_drew ?_ | refine blk_alloc ?_ _)); refine blk_far ?_ (by have h_ := Kd.R_ne HO_8.out BK612.out (by decide); intro e_; exact h_ (by rw [e_]; rfl)) _; (with_reducible repeat (first | refine blk_drewN ?_ _ | refine blk_drew ?_ | refine blk_alloc ?_ _)); exact BK612.out⟩, ⟨by (with_reducible repeat (first | refine blk_drewN ?_ _ | refine blk_drew ?_ | refine blk_alloc ?_ _)); refine blk_far ?_ (by have h_ := Kd.R_ne HO_8.out BK625.out (by decide); intro e_; exact h_ (by rw [e_]; rfl)) _; (with_reducible repeat (first | refine blk_drewN ?_ _ | refine blk_drew ?_ | refine blk_alloc ?_ _)); exact BK625.out⟩, ⟨by repeat (first | (with_reducible first | exact HB.out | apply below_alloc | apply pw_below_drewN | apply below_drew1 | refine below_set ?_ GB69.out | refine below_set ?_ GE612.out | refine below_set ?_ GE625.out) | exact HB.out)⟩⟩
                       case round => as_aux_lemma =>
                        clear H'
                        try clear p2
                        try clear c3
                        try clear c5
                        try clear c6
                        try clear p6
                        try clear q6
                        try clear hx6
                        try clear hf6
                        try clear c37
                        try clear c37b0
                        try clear c37b1
                        try clear c50
                        try clear c51
                        try clear c56
                        try clear c58
                        try clear c58b0
                        try clear c59
                        try clear c59b0
                        try clear c60
                        try clear c60b0
                        try clear c62
                        try clear p62
                        try clear q62
                        try clear hx62
                        try clear c63
                        try clear p63
                        try clear q63
                        try clear hx63
                        try clear c64
                        try clear c64b0
                        try clear p64
                        try clear c65
                        try clear c65b0
                        try clear c66
                        try clear c66b0
                        try clear c67
                        try clear c67b0
                        try clear c68
                        try clear c68b0
                        try clear p69
                        try clear q69
                        try clear hx69
                        try clear hf69
                        try clear hx626_0
                        try clear hx626_1
                        try clear hx626_2
                        try clear hx633_0
                        try clear hx633_1
                        try clear hx633_2
                        try clear hx634_0
                        try clear hx634_1
                        try clear hx634_2
                        try clear hx635_0
                        try clear hx635_1
                        try clear hx635_2
                        try clear hx636_0
                        try clear hx636_1
                        try clear hx636_2
                        try clear hx637_0
                        try clear hx637_1
                        try clear hx637_2
                        try clear hx638_0
                        try clear hx69_0
                        try clear p2
                        try clear p6
                        try clear p62
                        try clear p626
                        try clear p633
                        try clear p634
                        try clear p635
                        try clear p636
                        try clear p637
                        try clear p638
                        try clear p69
                        try clear q6
                        try clear q62
                        try clear q626
                        try clear q633
                        try clear q634
                        try clear q635
                        try clear q636
                        try clear q637
                        try clear q638
                        try clear q69
                        obtain ⟨x7_5, x8_5, x11_5, rfl, HA, HK5, HO_7, HO_8, BK612, BK625, HB⟩ := hrel
                        cases gk with
                        | zero => exact absurd HA.out (by simp [dancestudiolaw50_RehearseNobody.l1])
                        | succ k5 =>
                         have H := HA.out
                         clear HA
                         simp only [dancestudiolaw50_RehearseNobody.l1] at H
                         by_cases c73 : x11_5 < (((rd_T53 l0_0 x9_2).f2).length : Int)
                         ·
                          rw [if_pos c73] at H
                          have c73b0 : decide (x11_5 < (((rd_T53 l0_0 x9_2).f2).length : Int)) = true := decide_eq_true c73
                          clear c73
                          by_cases c74 : 0 ≤ x11_5
                          ·
                           rw [if_pos c74] at H
                           have c74b0 : decide (0 ≤ x11_5) = true := decide_eq_true c74
                           clear c74
                           by_cases c75 : (rd ((rd_T53 l0_0 x9_2).f2) x11_5) < 0
                           ·
                            rw [if_pos c75] at H
                            exact absurd H (by simp)
                           ·
                            rw [if_neg c75] at H
                            have c75b0 : decide ((rd ((rd_T53 l0_0 x9_2).f2) x11_5) < 0) = false := decide_eq_false c75
                            clear c75
                            by_cases c76 : (rd ((rd_T53 l0_0 x9_2).f2) x11_5) ≥ 24
                            ·
                             rw [if_pos c76] at H
                             exact absurd H (by simp)
                            ·
                             rw [if_neg c76] at H
                             have c76b0 : decide (24 ≤ (rd ((rd_T53 l0_0 x9_2).f2) x11_5)) = false := decide_eq_false c76
                             clear c76
                             by_cases c77 : 0 ≤ (rd ((rd_T53 l0_0 x9_2).f2) x11_5)
                             ·
                              rw [if_pos c77] at H
                              have c77b0 : decide (0 ≤ (rd ((rd_T53 l0_0 x9_2).f2) x11_5)) = true := decide_eq_true c77
                              clear c77
                              by_cases c78 : (rd ((rd_T53 l0_0 x9_2).f2) x11_5) < (x7_5.length : Int)
                              · as_aux_lemma =>
                               rw [if_pos c78] at H
                               have c78b0 : decide ((rd ((rd_T53 l0_0 x9_2).f2) x11_5) < (x7_5.length : Int)) = true := decide_eq_true c78
                               clear c78
                               obtain ⟨y645, hy645⟩ : ∃ y_ : List Int, y_ = (x7_5.set ((rd ((rd_T53 l0_0 x9_2).f2) x11_5) : Int).toNat (wrap64 ((rd x7_5 (rd ((rd_T53 l0_0 x9_2).f2) x11_5)) + 1))) := ⟨_, rfl⟩
                               replace H : (dancestudiolaw50_RehearseNobody.l1 k5 l1 a2 y645 x8_5 x9_2 (wrap64 (x11_5 + 1)) l0_0 l0_1 l0_2 a0_3 ((rd_T53 l0_0 x9_2).f0) ((rd_T53 l0_0 x9_2).f1) ((rd_T53 l0_0 x9_2).f2)) = some r := by first | (rw [hy645]; with_reducible exact H) | (have H2_ := (Option.bind_some _ _).symm.trans H; rw [hy645]; with_reducible exact H2_) | (have H2_ := (Option.bind_some _ _).symm.trans H; with_reducible exact H2_) | with_reducible exact H | (rw [hy645]; exact H) | exact H
                               have Ny645 := Aside0.mk hy645
                               clear hy645
                               have H' := Aside0.mk H
                               clear H
                               have hnb80 := NB625_612.out
                               have hnc80 := NB612_625.out
                               have hcz81_0 : wr.cell? ⟨gb625, 0, none⟩ = some (.string ((rd_T53 l0_0 x9_2).f0)) := (blk_cell BK625.out 0).trans rfl
                               have hcz81_1 : wr.cell? ⟨gb625, 1, none⟩ = some (.int .i64 ((rd_T53 l0_0 x9_2).f1)) := (blk_cell BK625.out 1).trans rfl
                               have hcz81_2 : wr.cell? ⟨gb625, 2, none⟩ = some (.slice A624_2 ((rd_T53 l0_0 x9_2).f2).length c624_2) := (blk_cell BK625.out 2).trans rfl
                               have hfz81_0 := blk_frozen BK625.out 0
                               have hfz81_1 := blk_frozen BK625.out 1
                               have hfz81_2 := blk_frozen BK625.out 2
                               have p640 : 0 ≤ (x11_5 : Int) := of_decide_eq_true (by first | (with_reducible assumption) | assumption)
                               have q640 : x11_5 < (((rd_T53 l0_0 x9_2).f2).length : Int) := of_decide_eq_true (by first | (with_reducible assumption) | assumption)
                               obtain ⟨ad640, e640, hx640_0⟩ := Kd.at_int HR624_2.out x11_5 p640 q640
                               cases e640
                               replace hx640_0 := (HB.out.cell (World.block_lt_of_cell? w _ hx640_0)).trans hx640_0
                               replace p640 := eq_true p640
                               replace q640 := eq_true q640
                               have p641 : 0 ≤ (x11_5 : Int) := of_decide_eq_true (by first | (with_reducible assumption) | assumption)
                               have q641 : x11_5 < (((rd_T53 l0_0 x9_2).f2).length : Int) := of_decide_eq_true (by first | (with_reducible assumption) | assumption)
                               obtain ⟨ad641, e641, hx641_0⟩ := Kd.at_int HR624_2.out x11_5 p641 q641
                               obtain rfl : ad640 = ad641 := (by injection e641)
                               replace hx641_0 := (HB.out.cell (World.block_lt_of_cell? w _ hx641_0)).trans hx641_0
                               replace p641 := eq_true p641
                               replace q641 := eq_true q641
                               try go_wp2
                               have n0_ := Aside0.mk (Kd.R_drew HO_7.out)
                               have n1_ := Aside0.mk (Kd.R_drew HO_8.out)
                               have n2_ := Aside0.mk (blk_drew BK612.out)
                               have n3_ := Aside0.mk (blk_drew BK625.out)
                               have n4_ := Aside0.mk (below_drew1 HB.out)
                               clear HO_7
                               clear HO_8
                               clear BK612
                               clear BK625
                               clear HB
                               have HO_7 := n0_
                               have HO_8 := n1_
                               have BK612 := n2_
                               have BK625 := n3_
                               have HB := n4_
                               clear n0_ n1_ n2_ n3_ n4_
                               have p642 : 0 ≤ (x11_5 : Int) := of_decide_eq_true (by first | (with_reducible assumption) | assumption)
                               have q642 : x11_5 < (((rd_T53 l0_0 x9_2).f2).length : Int) := of_decide_eq_true (by first | (with_reducible assumption) | assumption)
                               obtain ⟨ad642, e642, hx642_0⟩ := Kd.at_int HR624_2.out x11_5 p642 q642
                               have hw642_0 := hx642_0
                               obtain rfl : ad640 = ad642 := (by injection e642)
                               replace hx642_0 := (HB.out.cell (World.block_lt_of_cell? w _ hx642_0)).trans hx642_0
                               replace p642 := eq_true p642
                               replace q642 := eq_true q642
                               have p643 : 0 ≤ (x11_5 : Int) := of_decide_eq_true (by first | (with_reducible assumption) | assumption)
                               have q643 : x11_5 < (((rd_T53 l0_0 x9_2).f2).length : Int) := of_decide_eq_true (by first | (with_reducible assumption) | assumption)
                               obtain ⟨ad643, e643, hx643_0⟩ := Kd.at_int HR624_2.out x11_5 p643 q643
                               have hw643_0 := hx643_0
                               obtain rfl : ad640 = ad643 := (by injection e643)
                               replace hx643_0 := (HB.out.cell (World.block_lt_of_cell? w _ hx643_0)).trans hx643_0
                               replace p643 := eq_true p643
                               replace q643 := eq_true q643
                               obtain ⟨Ao83, co83, eo83⟩ := Kd.R_slice HO_7.out
                               (first | subst eo83 | (injection eo83 with f1_ f2_ f3_; have f4_ := f1_.symm; have f5_ := f3_.symm; clear f1_ f2_ f3_; subst f4_; subst f5_))
                               have p644 : 0 ≤ ((rd ((rd_T53 l0_0 x9_2).f2) x11_5) : Int) := of_decide_eq_true (by first | (with_reducible assumption) | assumption)
                               have q644 : (rd ((rd_T53 l0_0 x9_2).f2) x11_5) < (x7_5.length : Int) := of_decide_eq_true (by first | (with_reducible assumption) | assumption)
                               obtain ⟨ad644, e644, hx644_0⟩ := Kd.at_int (Kd.R_reads' HO_7.out).2.2 (rd ((rd_T53 l0_0 x9_2).f2) x11_5) p644 q644
                               cases e644
                               replace p644 := eq_true p644
                               replace q644 := eq_true q644
                               have p79 : 0 ≤ ((rd ((rd_T53 l0_0 x9_2).f2) x11_5) : Int) := of_decide_eq_true (by first | (with_reducible assumption) | assumption)
                               have q79 : ((rd ((rd_T53 l0_0 x9_2).f2) x11_5) : Int) < ((x7_5.length : Int) : Int) := of_decide_eq_true (by first | (with_reducible assumption) | assumption)
                               obtain ⟨go79, co79, eo79, gb79, gl79, cl79, HG79⟩ := Kd.R_form HO_7.out (by omega)
                               obtain ⟨rfl, rfl⟩ : gb619 = go79 ∧ 24 = co79 := by injection eo79 with ea_ en_ ec_; injection ea_ with ea_; injection ea_ with ea_; exact ⟨ea_, ec_⟩
                               have qn79 := arr_len HO_7.out q79
                               have GB79 := Aside0.mk gb79
                               have GG79 := Aside0.mk HG79
                               clear gb79 gl79 HG79
                               (first | simp only [add_plain] at hx644_0 | skip)
                               obtain ⟨hx79_0, hf79_0⟩ := Kd.R_celln 0 HO_7.out ((rd ((rd_T53 l0_0 x9_2).f2) x11_5) : Int) p79 qn79
                               have qm79 := eq_true (show _ < (24 : Int) from qn79)
                               replace p79 := eq_true p79
                               replace q79 := eq_true q79
                               have HP84 := Kd.R_putn HO_7.out ((rd ((rd_T53 l0_0 x9_2).f2) x11_5) : Int) (wrap64 ((rd x7_5 (rd ((rd_T53 l0_0 x9_2).f2) x11_5)) + 1))
                               rw [← Ny645.out] at HP84
                               have HQ84 := Aside0.mk HP84
                               clear HP84
                               refine start_ (n := 15) (S := fun w' => w'.cell? ⟨gb625, 0, none⟩ = some (.string ((rd_T53 l0_0 x9_2).f0)) ∧ w'.cell? ⟨gb625, 1, none⟩ = some (.int .i64 ((rd_T53 l0_0 x9_2).f1)) ∧ w'.cell? ⟨gb625, 2, none⟩ = some (.slice (some ad640) ((rd_T53 l0_0 x9_2).f2).length c624_2) ∧ w'.cell? (ad640.add (x11_5).toNat) = some (.int .i64 (rd ((rd_T53 l0_0 x9_2).f2) x11_5)) ∧ w'.cell? (ad640.add (x11_5).toNat) = some (.int .i64 (rd ((rd_T53 l0_0 x9_2).f2) x11_5)) ∧ w'.cell? ⟨gb619, ((rd ((rd_T53 l0_0 x9_2).f2) x11_5)).toNat, none⟩ = some (.int .i64 (rd x7_5 (rd ((rd_T53 l0_0 x9_2).f2) x11_5)))) (ds := [14]) #[false, false, false, false, false, false, false, false, false, false, false, false, false, false, false] (by kernel_rfl) rfl rfl ⟨(blk_cell BK625.out 0).trans rfl, (blk_cell BK625.out 1).trans rfl, (blk_cell BK625.out 2).trans rfl, ((HB.out.cell (World.block_lt_of_cell? w _ hw642_0)).trans hw642_0), ((HB.out.cell (World.block_lt_of_cell? w _ hw643_0)).trans hw643_0), hx644_0⟩ (fun hHeld => ?_); refine with_tabW dancestudiolaw50_RehearseNobody.tab22 dancestudiolaw50_RehearseNobody.bits22 (fun HT_ HW_ => ?_)
                               generalize wr.drew = w82 at HO_7 HO_8 BK612 BK625 HB GG79 HQ84 hf79_0 hx642_0 hx643_0 hx644_0 hx79_0 hHeld ⊢
                               refine pM 0 166 HT_ ?_
                               refine pM 2 168 HT_ ?_
                               refine pM 5 171 HT_ ?_
                               refine pM 7 173 HT_ ?_
                               refine tM 1 167 rfl HT_ HW_ (by rintro w' ⟨s0, s1, s2, s3, s4, s5⟩; go_simp; with_reducible rfl) hHeld ?_
                               refine pM 3 169 HT_ ?_
                               refine tM 4 170 rfl HT_ HW_ (by rintro w' ⟨s0, s1, s2, s3, s4, s5⟩; go_simp; with_reducible rfl) hHeld ?_
                               refine tM 6 172 rfl HT_ HW_ (by rintro w' ⟨s0, s1, s2, s3, s4, s5⟩; go_simp; with_reducible rfl) hHeld ?_
                               refine pM 8 174 HT_ ?_
                               refine tM 9 175 rfl HT_ HW_ (by rintro w' ⟨s0, s1, s2, s3, s4, s5⟩; go_simp; with_reducible rfl) hHeld ?_
                               refine pM 10 176 HT_ ?_
                               refine tM 11 177 rfl HT_ HW_ (by rintro w' ⟨s0, s1, s2, s3, s4, s5⟩; go_simp; with_reducible rfl) hHeld ?_
                               refine pM 12 178 HT_ ?_
                               refine pM 13 179 HT_ ?_
                               refine last_ (i := 14) (N := none) #[true, true, true, true, true, true, true, true, true, true, true, true, true, true, true] rfl rfl (one_of HT_.out (by kernel_rfl)) (by decide) (fun K hK => ?_)
                               refine skip_ (w1 := ?_) (by rfl) rfl ?_ ?_
                               rotate_left
                               ·
                                go_simp
                                rfl
                               refine hK.out _ _ ?_
                               clear hK K
                               refine done_ (done_of HT_.out (by kernel_rfl)) ?_
                               try go_wp2
                               (try simp only [← hl8_5])
                               go_roundg k5
                               case measure => have := HJ6.out; have := HK2.out; have := HJ31.out; have := HJ56.out; have := HK5.out; omega
                               case rel => exact ⟨(y645), (x8_5), (wrap64 (x11_5 + 1)), (by first | rfl | (simp; done) | (simp [*]; done)), H', ⟨by have := HJ6.out; have := HK2.out; have := HJ31.out; have := HJ56.out; have := HK5.out; omega⟩, ⟨by (try simp only [hl8_5]); (with_reducible repeat (first | apply Kd.R_alloc | apply Kd.R_drewN | apply Kd.R_drew)); exact HQ84.out⟩, ⟨by (try simp only [hl8_5]); (with_reducible repeat (first | apply Kd.R_alloc | apply Kd.R_drewN | apply Kd.R_drew)); exact Kd.R_mono (Kd.R_far (p := ⟨gb619, ((rd ((rd_T53 l0_0 x9_2).f2) x11_5) : Int).toNat, none⟩) (Kd.R_mono HO_8.out (fun k_ hk => (⟨hk, fun e_ => hk (by rw [e_]; rfl)⟩ : _ ∧ k_ ≠ gb619))) (fun _ hk => hk.2) (.int .i64 (wrap64 ((rd x7_5 (rd ((rd_T53 l0_0 x9_2).f2) x11_5)) + 1)))) (fun _ hk => hk.1)⟩, ⟨by (try simp only [hl8_5]); (with_reducible repeat (first | refine blk_drewN ?_ _ | refine blk_drew ?_ | refine blk_alloc ?_ _)); refine blk_far ?_ (by have h_ := Kd.R_ne HO_7.out BK612.out (by decide); intro e_; exact h_ (by rw [e_]; rfl)) _; (with_reducible repeat (first | refine blk_drewN ?_ _ | refine blk_drew ?_ | refine blk_alloc ?_ _)); exact BK612.out⟩, ⟨by (try simp only [hl8_5]); (with_reducible repeat (first | refine blk_drewN ?_ _ | refine blk_drew ?_ | refine blk_alloc ?_ _)); refine blk_far ?_ (by have h_ := Kd.R_ne HO_7.out BK625.out (by decide); intro e_; exact h_ (by rw [e_]; rfl)) _; (with_reducible repeat (first | refine blk_drewN ?_ _ | refine blk_drew ?_ | refine blk_alloc ?_ _)); exact BK625.out⟩, ⟨by repeat (first | (with_reducible first | exact HB.out | apply below_alloc | apply pw_below_drewN | apply below_drew1 | refine below_set ?_ GB79.out | refine below_set ?_ GE612.out | refine below_set ?_ GE625.out) | exact HB.out)⟩⟩
                              ·
                               rw [if_neg c78] at H
                               exact absurd H (by simp)
                             ·
                              rw [if_neg c77] at H
                              exact absurd H (by simp)
                          ·
                           rw [if_neg c74] at H
                           exact absurd H (by simp)
                         ·
                          rw [if_neg c73] at H
                          have c73b0 : decide (x11_5 < (((rd_T53 l0_0 x9_2).f2).length : Int)) = false := decide_eq_false c73
                          clear c73
                          have H' := Aside0.mk H
                          clear H
                          have hnb85 := NB625_612.out
                          have hnc85 := NB612_625.out
                          have hcz86_0 : wr.cell? ⟨gb625, 0, none⟩ = some (.string ((rd_T53 l0_0 x9_2).f0)) := (blk_cell BK625.out 0).trans rfl
                          have hcz86_1 : wr.cell? ⟨gb625, 1, none⟩ = some (.int .i64 ((rd_T53 l0_0 x9_2).f1)) := (blk_cell BK625.out 1).trans rfl
                          have hcz86_2 : wr.cell? ⟨gb625, 2, none⟩ = some (.slice A624_2 ((rd_T53 l0_0 x9_2).f2).length c624_2) := (blk_cell BK625.out 2).trans rfl
                          have hfz86_0 := blk_frozen BK625.out 0
                          have hfz86_1 := blk_frozen BK625.out 1
                          have hfz86_2 := blk_frozen BK625.out 2
                          go_wp2
                          (try simp only [← hl8_5])
                          go_roundg k5
                          case measure => have := HJ6.out; have := HK2.out; have := HJ31.out; have := HJ56.out; have := HK5.out; omega
                          case rel => exact ⟨(x7_5), (x8_5), (wrap64 (x9_2 + 1)), (by first | rfl | (simp; done) | (simp [*]; done)), H', ⟨by have := HJ6.out; have := HK2.out; have := HJ31.out; have := HJ56.out; have := HK5.out; omega⟩, ⟨by (try simp only [hl8_5]); (with_reducible repeat (first | apply Kd.R_alloc | apply Kd.R_drewN | apply Kd.R_drew)); exact HO_7.out⟩, ⟨by (try simp only [hl8_5]); (with_reducible repeat (first | apply Kd.R_alloc | apply Kd.R_drewN | apply Kd.R_drew)); exact HO_8.out⟩, ⟨by (try simp only [hl8_5]); (with_reducible repeat (first | refine blk_drewN ?_ _ | refine blk_drew ?_ | refine blk_alloc ?_ _)); exact BK612.out⟩, ⟨by repeat (first | (with_reducible first | exact HB.out | apply below_alloc | apply pw_below_drewN | apply below_drew1 | refine below_set ?_ GE612.out | refine below_set ?_ GE625.out) | exact HB.out)⟩⟩
                      ·
                       rw [if_neg c68] at H
                       exact absurd H (by simp)
                     ·
                      rw [if_neg c67] at H
                      exact absurd H (by simp)
                   ·
                    rw [if_neg c65] at H
                    exact absurd H (by simp)
                  ·
                   rw [if_neg c64] at H
                   exact absurd H (by simp)
           ·
            rw [if_neg c31] at H
            exact absurd H (by simp)
          ·
           rw [if_neg c30] at H
           exact absurd H (by simp)
         ·
          rw [if_neg c29] at H
          have c29b0 : decide (x9_2 < (l1.length : Int)) = false := decide_eq_false c29
          clear c29
          have H' := Aside0.mk H
          clear H
          go_wp2
          go_loopg [12] k2 (fun kq v12 w' => ∃ (x12_3 : Int), v12 = .int .i64 x12_3 ∧ Aside0 (dancestudiolaw50_RehearseNobody.l2 kq a2 x7_2 x8_2 x12_3 l0_0 l0_1 l0_2 a0_3 = some r) ∧ Aside0 (kq ≤ k2) ∧ Aside0 (Kd.R (Kd.int .i64) 49 w' w.heap.size (fun k_ => some k_ ≠ (Value.slice (some ⟨gb622, 0, none⟩) 4 4).ownBlock) (.slice (some ⟨gb619, 0, none⟩) 24 24) x7_2) ∧ Aside0 (Kd.R (Kd.int .i64) 50 w' w.heap.size (fun k_ => some k_ ≠ (Value.slice (some ⟨gb619, 0, none⟩) 24 24).ownBlock) (.slice (some ⟨gb622, 0, none⟩) 4 4) x8_2) ∧ Aside0 (w'.heap[gb612]? = some (.cells #[(.slice A0_0 l0_0.length c0_0), (.slice A0_1 l0_1.length c0_1), (.slice A0_2 l0_2.length c0_2), .int .i64 a0_3] 26 (0, 0))) ∧ Aside0 (Below w.heap.size w w'))
          case atStart => exact ⟨(0), (by first | rfl | (simp; done) | (simp [*]; done)), H', ⟨Nat.le_refl _⟩, ⟨by (with_reducible repeat (first | apply Kd.R_alloc | apply Kd.R_drewN | apply Kd.R_drew)); exact HO_7.out⟩, ⟨by (with_reducible repeat (first | apply Kd.R_alloc | apply Kd.R_drewN | apply Kd.R_drew)); exact HO_8.out⟩, ⟨by (with_reducible repeat (first | refine blk_drewN ?_ _ | refine blk_drew ?_ | refine blk_alloc ?_ _)); exact BK612.out⟩, ⟨by repeat (first | (with_reducible first | exact HB.out | apply below_alloc | apply pw_below_drewN | apply below_drew1 | refine below_set ?_ GE612.out) | exact HB.out)⟩⟩
          case round => as_aux_lemma =>
           clear H'
           try clear c2
           try clear p2
           try clear c3
           try clear c5
           try clear c6
           try clear p6
           try clear q6
           try clear hx6
           try clear hf6
           try clear c7
           try clear p7
           try clear q7
           try clear hx7
           try clear hf7
           try clear c8
           try clear c29
           try clear c29b0
           try clear c30
           try clear c31
           try clear c37
           try clear c37b0
           try clear c37b1
           try clear c50
           try clear c51
           try clear c56
           try clear c58
           try clear c58b0
           try clear c59
           try clear c59b0
           try clear c60
           try clear c60b0
           try clear c62
           try clear p62
           try clear q62
           try clear hx62
           try clear c63
           try clear p63
           try clear q63
           try clear hx63
           try clear c64
           try clear c64b0
           try clear p64
           try clear q64
           try clear hx64
           try clear c65
           try clear c65b0
           try clear c66
           try clear c66b0
           try clear c67
           try clear c67b0
           try clear c68
           try clear c68b0
           try clear p69
           try clear q69
           try clear hx69
           try clear hf69
           try clear c73
           try clear c73b0
           try clear c74
           try clear c74b0
           try clear c75
           try clear c75b0
           try clear c76
           try clear c76b0
           try clear c77
           try clear c77b0
           try clear c78
           try clear c78b0
           try clear p79
           try clear q79
           try clear hx79
           try clear hf79
           try clear c80
           try clear c85
           try clear hcz81_0
           try clear hcz81_1
           try clear hcz81_2
           try clear hcz86_0
           try clear hcz86_1
           try clear hcz86_2
           try clear hfz81_0
           try clear hfz81_1
           try clear hfz81_2
           try clear hfz86_0
           try clear hfz86_1
           try clear hfz86_2
           try clear hx626_0
           try clear hx626_1
           try clear hx626_2
           try clear hx633_0
           try clear hx633_1
           try clear hx633_2
           try clear hx634_0
           try clear hx634_1
           try clear hx634_2
           try clear hx635_0
           try clear hx635_1
           try clear hx635_2
           try clear hx636_0
           try clear hx636_1
           try clear hx636_2
           try clear hx637_0
           try clear hx637_1
           try clear hx637_2
           try clear hx638_0
           try clear hx640_0
           try clear hx641_0
           try clear hx642_0
           try clear hx643_0
           try clear hx644_0
           try clear hx69_0
           try clear hx79_0
           try clear p2
           try clear p6
           try clear p62
           try clear p626
           try clear p63
           try clear p633
           try clear p634
           try clear p635
           try clear p636
           try clear p637
           try clear p638
           try clear p64
           try clear p640
           try clear p641
           try clear p642
           try clear p643
           try clear p644
           try clear p69
           try clear p79
           try clear q6
           try clear q62
           try clear q626
           try clear q63
           try clear q633
           try clear q634
           try clear q635
           try clear q636
           try clear q637
           try clear q638
           try clear q640
           try clear q641
           try clear q642
           try clear q643
           try clear q644
           try clear q69
           try clear q79
           obtain ⟨x12_3, rfl, HA, HK3, HO_7, HO_8, BK612, HB⟩ := hrel
           cases gk with
           | zero => exact absurd HA.out (by simp [dancestudiolaw50_RehearseNobody.l2])
           | succ k3 =>
            have H := HA.out
            clear HA
            simp only [dancestudiolaw50_RehearseNobody.l2] at H
            by_cases c87 : x12_3 < (l0_2.length : Int)
            ·
             rw [if_pos c87] at H
             have c87b0 : decide (x12_3 < (l0_2.length : Int)) = true := decide_eq_true c87
             clear c87
             by_cases c88 : 0 ≤ x12_3
             ·
              rw [if_pos c88] at H
              have c88b0 : decide (0 ≤ x12_3) = true := decide_eq_true c88
              clear c88
              by_cases c89 : ((rd_T59 l0_2 x12_3).f0) < 0
              ·
               rw [if_pos c89] at H
               exact absurd H (by simp)
              ·
               rw [if_neg c89] at H
               have c89b0 : decide (((rd_T59 l0_2 x12_3).f0) < 0) = false := decide_eq_false c89
               clear c89
               by_cases c90 : ((rd_T59 l0_2 x12_3).f0) ≥ 24
               ·
                rw [if_pos c90] at H
                exact absurd H (by simp)
               ·
                rw [if_neg c90] at H
                have c90b0 : decide (24 ≤ ((rd_T59 l0_2 x12_3).f0)) = false := decide_eq_false c90
                clear c90
                by_cases c91 : ((rd_T59 l0_2 x12_3).f1.f0) ≤ a2
                ·
                 rw [if_pos c91] at H
                 have c91b0 : decide (((rd_T59 l0_2 x12_3).f1.f0) ≤ a2) = true := decide_eq_true c91
                 clear c91
                 by_cases c92 : a2 < ((rd_T59 l0_2 x12_3).f1.f1)
                 ·
                  rw [if_pos c92] at H
                  have c92b0 : decide (a2 < ((rd_T59 l0_2 x12_3).f1.f1)) = true := decide_eq_true c92
                  clear c92
                  by_cases c93 : 0 ≤ ((rd_T59 l0_2 x12_3).f0)
                  ·
                   rw [if_pos c93] at H
                   have c93b0 : decide (0 ≤ ((rd_T59 l0_2 x12_3).f0)) = true := decide_eq_true c93
                   clear c93
                   by_cases c94 : ((rd_T59 l0_2 x12_3).f0) < (x7_2.length : Int)
                   ·
                    rw [if_pos c94] at H
                    have c94b0 : decide (((rd_T59 l0_2 x12_3).f0) < (x7_2.length : Int)) = true := decide_eq_true c94
                    clear c94
                    by_cases c95 : (rd x7_2 ((rd_T59 l0_2 x12_3).f0)) > 0
                    ·
                     rw [if_pos c95] at H
                     exact absurd H (by simp)
                    ·
                     rw [if_neg c95] at H
                     have c95b0 : decide (0 < (rd x7_2 ((rd_T59 l0_2 x12_3).f0))) = false := decide_eq_false c95
                     clear c95
                     have H' := Aside0.mk H
                     clear H
                     have hcz96_0 : wr.cell? ⟨gb612, 0, none⟩ = some (.slice A0_0 l0_0.length c0_0) := (blk_cell BK612.out 0).trans rfl
                     have hcz96_1 : wr.cell? ⟨gb612, 1, none⟩ = some (.slice A0_1 l0_1.length c0_1) := (blk_cell BK612.out 1).trans rfl
                     have hcz96_2 : wr.cell? ⟨gb612, 2, none⟩ = some (.slice A0_2 l0_2.length c0_2) := (blk_cell BK612.out 2).trans rfl
                     have hcz96_3 : wr.cell? ⟨gb612, 3, none⟩ = some (.int .i64 a0_3) := (blk_cell BK612.out 3).trans rfl
                     have hfz96_0 := blk_frozen BK612.out 0
                     have hfz96_1 := blk_frozen BK612.out 1
                     have hfz96_2 := blk_frozen BK612.out 2
                     have hfz96_3 := blk_frozen BK612.out 3
                     have p646 : 0 ≤ (x12_3 : Int) := of_decide_eq_true (by first | (with_reducible assumption) | assumption)
                     have q646 : x12_3 < (l0_2.length : Int) := of_decide_eq_true (by first | (with_reducible assumption) | assumption)
                     obtain ⟨ad646, e646, hx646_0, hx646_1, hx646_2⟩ := at_T59 HR0_2.out x12_3 p646 q646
                     cases e646
                     replace hx646_0 := (HB.out.cell (World.block_lt_of_cell? w _ hx646_0)).trans hx646_0
                     replace hx646_1 := (HB.out.cell (World.block_lt_of_cell? w _ hx646_1)).trans hx646_1
                     replace hx646_2 := (HB.out.cell (World.block_lt_of_cell? w _ hx646_2)).trans hx646_2
                     replace p646 := eq_true p646
                     replace q646 := eq_true q646
                     go_wp2_with (first | ((with_reducible refine gate_dst (N := 13) rfl ?_); (try (refine gate_guard (by rfl) ?_; dsimp only)); refine box_event ?hg (N := 13) ?hd (cs := #[.int .i64 0, .int .i64 0, .int .i64 0]) (t := 59) ?hr ?_; (case hd => rfl); (case hg => rfl); (case hr => first | (go_simp; done) | (go_simp; rfl)); intro gb647 hg w97 hbox hb; have n0_ := Aside0.mk (Kd.R_below (by (with_reducible repeat (first | apply Kd.R_alloc | apply Kd.R_drewN | apply Kd.R_drew)); exact HO_7.out) hb); have n1_ := Aside0.mk (Kd.R_below (by (with_reducible repeat (first | apply Kd.R_alloc | apply Kd.R_drewN | apply Kd.R_drew)); exact HO_8.out) hb); have n2_ := Aside0.mk (blk_below (g := gb612) (o := .cells #[.slice A0_0 l0_0.length c0_0, .slice A0_1 l0_1.length c0_1, .slice (some ad646) l0_2.length c0_2, .int .i64 a0_3] 26 (0, 0)) (by (with_reducible repeat (first | refine blk_drewN ?_ _ | refine blk_drew ?_ | refine blk_alloc ?_ _)); exact BK612.out) hb); have n3_ := Aside0.mk (below_step (by repeat (first | (with_reducible first | exact HB.out | apply below_alloc | apply pw_below_drewN | apply below_drew1 | refine below_set ?_ GE612.out) | exact HB.out)) hb); have n4_ := Aside0.mk (hbox); have n5_ := Aside0.mk ((by rw [hg]; exact (below_size (by repeat (first | (with_reducible first | exact HB.out | apply below_alloc | apply pw_below_drewN | apply below_drew1 | refine below_set ?_ GE612.out) | exact HB.out))) : w.heap.size ≤ gb647)); have n6_ := Aside0.mk ((by rw [hg]; exact (below_size (by repeat (first | (with_reducible first | exact HB.out | apply below_alloc | apply pw_below_drewN | apply below_drew1 | refine below_set ?_ GE612.out) | exact HB.out))) : w.heap.size ≤ gb647)); have n7_ := Aside0.mk ((by rw [hg]; exact Nat.ne_of_lt (blk_lt (g := gb612) (o := .cells #[.slice A0_0 l0_0.length c0_0, .slice A0_1 l0_1.length c0_1, .slice (some ad646) l0_2.length c0_2, .int .i64 a0_3] 26 (0, 0)) (by (with_reducible repeat (first | refine blk_drewN ?_ _ | refine blk_drew ?_ | refine blk_alloc ?_ _)); exact BK612.out)) : gb612 ≠ gb647)); have n8_ := Aside0.mk ((by rw [hg]; exact Nat.ne_of_gt (blk_lt (g := gb612) (o := .cells #[.slice A0_0 l0_0.length c0_0, .slice A0_1 l0_1.length c0_1, .slice (some ad646) l0_2.length c0_2, .int .i64 a0_3] 26 (0, 0)) (by (with_reducible repeat (first | refine blk_drewN ?_ _ | refine blk_drew ?_ | refine blk_alloc ?_ _)); exact BK612.out)) : gb647 ≠ gb612)); clear HO_7; clear HO_8; clear BK612; clear HB; have HO_7 := n0_; have HO_8 := n1_; have BK612 := n2_; have HB := n3_; have BK647 := n4_; have GW647 := n5_; have GE647 := n6_; have NB612_647 := n7_; have NB647_612 := n8_; clear n0_ n1_ n2_ n3_ n4_ n5_ n6_ n7_ n8_; clear hb hbox hg; have hnb98 := NB647_612.out; have hnc98 := NB612_647.out; have hcz99_0 : w97.cell? ⟨gb647, 0, none⟩ = some (.int .i64 0) := (blk_cell BK647.out 0).trans rfl; have hcz99_1 : w97.cell? ⟨gb647, 1, none⟩ = some (.int .i64 0) := (blk_cell BK647.out 1).trans rfl; have hcz99_2 : w97.cell? ⟨gb647, 2, none⟩ = some (.int .i64 0) := (blk_cell BK647.out 2).trans rfl; have hfz99_0 := blk_frozen BK647.out 0; have hfz99_1 := blk_frozen BK647.out 1; have hfz99_2 := blk_frozen BK647.out 2; obtain ⟨Ao100, co100, eo100⟩ := Kd.R_slice HO_7.out; (first | subst eo100 | (injection eo100 with f1_ f2_ f3_; have f4_ := f1_.symm; have f5_ := f3_.symm; clear f1_ f2_ f3_; subst f4_; subst f5_)); have p648 : 0 ≤ (((rd_T59 l0_2 x12_3).f0) : Int) := of_decide_eq_true (by first | (with_reducible assumption) | assumption); have q648 : ((rd_T59 l0_2 x12_3).f0) < (x7_2.length : Int) := of_decide_eq_true (by first | (with_reducible assumption) | assumption); obtain ⟨ad648, e648, hx648_0⟩ := Kd.at_int (Kd.R_reads' HO_7.out).2.2 ((rd_T59 l0_2 x12_3).f0) p648 q648; cases e648; have hn648_0 : gb619 ≠ gb647 := Kd.own_blk (Kd.R_ne HO_7.out BK647.out (by decide)); have hn648_1 : gb619 ≠ gb647 := Kd.own_blk (Kd.R_ne HO_7.out BK647.out (by decide)); have hn648_2 : gb619 ≠ gb647 := Kd.own_blk (Kd.R_ne HO_7.out BK647.out (by decide)); replace hx648_0 := (cell_far (p := ⟨gb647, 0, none⟩) (by first | (rw [add_block]; exact hn648_0) | (show (Addr.add _ _).block ≠ _; rw [add_block]; exact hn648_0) | exact hn648_0) (.int .i64 ((rd_T59 l0_2 x12_3).f0))).trans hx648_0; replace hx648_0 := (cell_far (p := ⟨gb647, 1, none⟩) (by first | (rw [add_block]; exact hn648_1) | (show (Addr.add _ _).block ≠ _; rw [add_block]; exact hn648_1) | exact hn648_1) (.int .i64 ((rd_T59 l0_2 x12_3).f1.f0))).trans hx648_0; replace hx648_0 := (cell_far (p := ⟨gb647, 2, none⟩) (by first | (rw [add_block]; exact hn648_2) | (show (Addr.add _ _).block ≠ _; rw [add_block]; exact hn648_2) | exact hn648_2) (.int .i64 ((rd_T59 l0_2 x12_3).f1.f1))).trans hx648_0; clear hn648_0; clear hn648_1; clear hn648_2; (first | simp only [add_plain] at hx648_0 | skip); have qn648 := eq_true (show ((rd_T59 l0_2 x12_3).f0) < (24 : Int) from arr_len HO_7.out q648); replace p648 := eq_true p648; replace q648 := eq_true q648))
                     go_roundg k3
                     case measure => have := HJ6.out; have := HK2.out; have := HK3.out; omega
                     case rel => exact ⟨(wrap64 (x12_3 + 1)), (by first | rfl | (simp; done) | (simp [*]; done)), H', ⟨by have := HJ6.out; have := HK2.out; have := HK3.out; omega⟩, ⟨by (with_reducible repeat (first | apply Kd.R_alloc | apply Kd.R_drewN | apply Kd.R_drew)); exact Kd.R_mono (Kd.R_far (p := ⟨gb647, 2, none⟩) (Kd.R_far (p := ⟨gb647, 1, none⟩) (Kd.R_far (p := ⟨gb647, 0, none⟩) (Kd.R_types HO_7.out BK647.out (by decide)) (fun _ hk => hk.2) (.int .i64 ((rd_T59 l0_2 x12_3).f0))) (fun _ hk => hk.2) (.int .i64 ((rd_T59 l0_2 x12_3).f1.f0))) (fun _ hk => hk.2) (.int .i64 ((rd_T59 l0_2 x12_3).f1.f1))) (fun _ hk => hk.1)⟩, ⟨by (with_reducible repeat (first | apply Kd.R_alloc | apply Kd.R_drewN | apply Kd.R_drew)); exact Kd.R_mono (Kd.R_far (p := ⟨gb647, 2, none⟩) (Kd.R_far (p := ⟨gb647, 1, none⟩) (Kd.R_far (p := ⟨gb647, 0, none⟩) (Kd.R_types HO_8.out BK647.out (by decide)) (fun _ hk => hk.2) (.int .i64 ((rd_T59 l0_2 x12_3).f0))) (fun _ hk => hk.2) (.int .i64 ((rd_T59 l0_2 x12_3).f1.f0))) (fun _ hk => hk.2) (.int .i64 ((rd_T59 l0_2 x12_3).f1.f1))) (fun _ hk => hk.1)⟩, ⟨by (with_reducible repeat (first | refine blk_drewN ?_ _ | refine blk_drew ?_ | refine blk_alloc ?_ _)); refine blk_far ?_ NB612_647.out _; (with_reducible repeat (first | refine blk_drewN ?_ _ | refine blk_drew ?_ | refine blk_alloc ?_ _)); refine blk_far ?_ NB612_647.out _; (with_reducible repeat (first | refine blk_drewN ?_ _ | refine blk_drew ?_ | refine blk_alloc ?_ _)); refine blk_far ?_ NB612_647.out _; (with_reducible repeat (first | refine blk_drewN ?_ _ | refine blk_drew ?_ | refine blk_alloc ?_ _)); exact BK612.out⟩, ⟨by repeat (first | (with_reducible first | exact HB.out | apply below_alloc | apply pw_below_drewN | apply below_drew1 | refine below_set ?_ GE612.out | refine below_set ?_ GE647.out) | exact HB.out)⟩⟩
                   ·
                    rw [if_neg c94] at H
                    exact absurd H (by simp)
                  ·
                   rw [if_neg c93] at H
                   exact absurd H (by simp)
                 ·
                  rw [if_neg c92] at H
                  have c92b0 : decide (a2 < ((rd_T59 l0_2 x12_3).f1.f1)) = false := decide_eq_false c92
                  clear c92
                  have H' := Aside0.mk H
                  clear H
                  have hcz101_0 : wr.cell? ⟨gb612, 0, none⟩ = some (.slice A0_0 l0_0.length c0_0) := (blk_cell BK612.out 0).trans rfl
                  have hcz101_1 : wr.cell? ⟨gb612, 1, none⟩ = some (.slice A0_1 l0_1.length c0_1) := (blk_cell BK612.out 1).trans rfl
                  have hcz101_2 : wr.cell? ⟨gb612, 2, none⟩ = some (.slice A0_2 l0_2.length c0_2) := (blk_cell BK612.out 2).trans rfl
                  have hcz101_3 : wr.cell? ⟨gb612, 3, none⟩ = some (.int .i64 a0_3) := (blk_cell BK612.out 3).trans rfl
                  have hfz101_0 := blk_frozen BK612.out 0
                  have hfz101_1 := blk_frozen BK612.out 1
                  have hfz101_2 := blk_frozen BK612.out 2
                  have hfz101_3 := blk_frozen BK612.out 3
                  have p646 : 0 ≤ (x12_3 : Int) := of_decide_eq_true (by first | (with_reducible assumption) | assumption)
                  have q646 : x12_3 < (l0_2.length : Int) := of_decide_eq_true (by first | (with_reducible assumption) | assumption)
                  obtain ⟨ad646, e646, hx646_0, hx646_1, hx646_2⟩ := at_T59 HR0_2.out x12_3 p646 q646
                  cases e646
                  replace hx646_0 := (HB.out.cell (World.block_lt_of_cell? w _ hx646_0)).trans hx646_0
                  replace hx646_1 := (HB.out.cell (World.block_lt_of_cell? w _ hx646_1)).trans hx646_1
                  replace hx646_2 := (HB.out.cell (World.block_lt_of_cell? w _ hx646_2)).trans hx646_2
                  replace p646 := eq_true p646
                  replace q646 := eq_true q646
                  go_wp2_with (first | ((with_reducible refine gate_dst (N := 13) rfl ?_); (try (refine gate_guard (by rfl) ?_; dsimp only)); refine box_event ?hg (N := 13) ?hd (cs := #[.int .i64 0, .int .i64 0, .int .i64 0]) (t := 59) ?hr ?_; (case hd => rfl); (case hg => rfl); (case hr => first | (go_simp; done) | (go_simp; rfl)); intro gb647 hg w102 hbox hb; have n0_ := Aside0.mk (Kd.R_below (by (with_reducible repeat (first | apply Kd.R_alloc | apply Kd.R_drewN | apply Kd.R_drew)); exact HO_7.out) hb); have n1_ := Aside0.mk (Kd.R_below (by (with_reducible repeat (first | apply Kd.R_alloc | apply Kd.R_drewN | apply Kd.R_drew)); exact HO_8.out) hb); have n2_ := Aside0.mk (blk_below (g := gb612) (o := .cells #[.slice A0_0 l0_0.length c0_0, .slice A0_1 l0_1.length c0_1, .slice (some ad646) l0_2.length c0_2, .int .i64 a0_3] 26 (0, 0)) (by (with_reducible repeat (first | refine blk_drewN ?_ _ | refine blk_drew ?_ | refine blk_alloc ?_ _)); exact BK612.out) hb); have n3_ := Aside0.mk (below_step (by repeat (first | (with_reducible first | exact HB.out | apply below_alloc | apply pw_below_drewN | apply below_drew1 | refine below_set ?_ GE612.out) | exact HB.out)) hb); have n4_ := Aside0.mk (hbox); have n5_ := Aside0.mk ((by rw [hg]; exact (below_size (by repeat (first | (with_reducible first | exact HB.out | apply below_alloc | apply pw_below_drewN | apply below_drew1 | refine below_set ?_ GE612.out) | exact HB.out))) : w.heap.size ≤ gb647)); have n6_ := Aside0.mk ((by rw [hg]; exact (below_size (by repeat (first | (with_reducible first | exact HB.out | apply below_alloc | apply pw_below_drewN | apply below_drew1 | refine below_set ?_ GE612.out) | exact HB.out))) : w.heap.size ≤ gb647)); have n7_ := Aside0.mk ((by rw [hg]; exact Nat.ne_of_lt (blk_lt (g := gb612) (o := .cells #[.slice A0_0 l0_0.length c0_0, .slice A0_1 l0_1.length c0_1, .slice (some ad646) l0_2.length c0_2, .int .i64 a0_3] 26 (0, 0)) (by (with_reducible repeat (first | refine blk_drewN ?_ _ | refine blk_drew ?_ | refine blk_alloc ?_ _)); exact BK612.out)) : gb612 ≠ gb647)); have n8_ := Aside0.mk ((by rw [hg]; exact Nat.ne_of_gt (blk_lt (g := gb612) (o := .cells #[.slice A0_0 l0_0.length c0_0, .slice A0_1 l0_1.length c0_1, .slice (some ad646) l0_2.length c0_2, .int .i64 a0_3] 26 (0, 0)) (by (with_reducible repeat (first | refine blk_drewN ?_ _ | refine blk_drew ?_ | refine blk_alloc ?_ _)); exact BK612.out)) : gb647 ≠ gb612)); clear HO_7; clear HO_8; clear BK612; clear HB; have HO_7 := n0_; have HO_8 := n1_; have BK612 := n2_; have HB := n3_; have BK647 := n4_; have GW647 := n5_; have GE647 := n6_; have NB612_647 := n7_; have NB647_612 := n8_; clear n0_ n1_ n2_ n3_ n4_ n5_ n6_ n7_ n8_; clear hb hbox hg; have hnb103 := NB647_612.out; have hnc103 := NB612_647.out; have hcz104_0 : w102.cell? ⟨gb647, 0, none⟩ = some (.int .i64 0) := (blk_cell BK647.out 0).trans rfl; have hcz104_1 : w102.cell? ⟨gb647, 1, none⟩ = some (.int .i64 0) := (blk_cell BK647.out 1).trans rfl; have hcz104_2 : w102.cell? ⟨gb647, 2, none⟩ = some (.int .i64 0) := (blk_cell BK647.out 2).trans rfl; have hfz104_0 := blk_frozen BK647.out 0; have hfz104_1 := blk_frozen BK647.out 1; have hfz104_2 := blk_frozen BK647.out 2))
                  go_roundg k3
                  case measure => have := HJ6.out; have := HK2.out; have := HK3.out; omega
                  case rel => exact ⟨(wrap64 (x12_3 + 1)), (by first | rfl | (simp; done) | (simp [*]; done)), H', ⟨by have := HJ6.out; have := HK2.out; have := HK3.out; omega⟩, ⟨by (with_reducible repeat (first | apply Kd.R_alloc | apply Kd.R_drewN | apply Kd.R_drew)); exact Kd.R_mono (Kd.R_far (p := ⟨gb647, 2, none⟩) (Kd.R_far (p := ⟨gb647, 1, none⟩) (Kd.R_far (p := ⟨gb647, 0, none⟩) (Kd.R_types HO_7.out BK647.out (by decide)) (fun _ hk => hk.2) (.int .i64 ((rd_T59 l0_2 x12_3).f0))) (fun _ hk => hk.2) (.int .i64 ((rd_T59 l0_2 x12_3).f1.f0))) (fun _ hk => hk.2) (.int .i64 ((rd_T59 l0_2 x12_3).f1.f1))) (fun _ hk => hk.1)⟩, ⟨by (with_reducible repeat (first | apply Kd.R_alloc | apply Kd.R_drewN | apply Kd.R_drew)); exact Kd.R_mono (Kd.R_far (p := ⟨gb647, 2, none⟩) (Kd.R_far (p := ⟨gb647, 1, none⟩) (Kd.R_far (p := ⟨gb647, 0, none⟩) (Kd.R_types HO_8.out BK647.out (by decide)) (fun _ hk => hk.2) (.int .i64 ((rd_T59 l0_2 x12_3).f0))) (fun _ hk => hk.2) (.int .i64 ((rd_T59 l0_2 x12_3).f1.f0))) (fun _ hk => hk.2) (.int .i64 ((rd_T59 l0_2 x12_3).f1.f1))) (fun _ hk => hk.1)⟩, ⟨by (with_reducible repeat (first | refine blk_drewN ?_ _ | refine blk_drew ?_ | refine blk_alloc ?_ _)); refine blk_far ?_ NB612_647.out _; (with_reducible repeat (first | refine blk_drewN ?_ _ | refine blk_drew ?_ | refine blk_alloc ?_ _)); refine blk_far ?_ NB612_647.out _; (with_reducible repeat (first | refine blk_drewN ?_ _ | refine blk_drew ?_ | refine blk_alloc ?_ _)); refine blk_far ?_ NB612_647.out _; (with_reducible repeat (first | refine blk_drewN ?_ _ | refine blk_drew ?_ | refine blk_alloc ?_ _)); exact BK612.out⟩, ⟨by repeat (first | (with_reducible first | exact HB.out | apply below_alloc | apply pw_below_drewN | apply below_drew1 | refine below_set ?_ GE612.out | refine below_set ?_ GE647.out) | exact HB.out)⟩⟩
                ·
                 rw [if_neg c91] at H
                 have c91b0 : decide (((rd_T59 l0_2 x12_3).f1.f0) ≤ a2) = false := decide_eq_false c91
                 clear c91
                 have H' := Aside0.mk H
                 clear H
                 have hcz105_0 : wr.cell? ⟨gb612, 0, none⟩ = some (.slice A0_0 l0_0.length c0_0) := (blk_cell BK612.out 0).trans rfl
                 have hcz105_1 : wr.cell? ⟨gb612, 1, none⟩ = some (.slice A0_1 l0_1.length c0_1) := (blk_cell BK612.out 1).trans rfl
                 have hcz105_2 : wr.cell? ⟨gb612, 2, none⟩ = some (.slice A0_2 l0_2.length c0_2) := (blk_cell BK612.out 2).trans rfl
                 have hcz105_3 : wr.cell? ⟨gb612, 3, none⟩ = some (.int .i64 a0_3) := (blk_cell BK612.out 3).trans rfl
                 have hfz105_0 := blk_frozen BK612.out 0
                 have hfz105_1 := blk_frozen BK612.out 1
                 have hfz105_2 := blk_frozen BK612.out 2
                 have hfz105_3 := blk_frozen BK612.out 3
                 have p646 : 0 ≤ (x12_3 : Int) := of_decide_eq_true (by first | (with_reducible assumption) | assumption)
                 have q646 : x12_3 < (l0_2.length : Int) := of_decide_eq_true (by first | (with_reducible assumption) | assumption)
                 obtain ⟨ad646, e646, hx646_0, hx646_1, hx646_2⟩ := at_T59 HR0_2.out x12_3 p646 q646
                 cases e646
                 replace hx646_0 := (HB.out.cell (World.block_lt_of_cell? w _ hx646_0)).trans hx646_0
                 replace hx646_1 := (HB.out.cell (World.block_lt_of_cell? w _ hx646_1)).trans hx646_1
                 replace hx646_2 := (HB.out.cell (World.block_lt_of_cell? w _ hx646_2)).trans hx646_2
                 replace p646 := eq_true p646
                 replace q646 := eq_true q646
                 go_wp2_with (first | ((with_reducible refine gate_dst (N := 13) rfl ?_); (try (refine gate_guard (by rfl) ?_; dsimp only)); refine box_event ?hg (N := 13) ?hd (cs := #[.int .i64 0, .int .i64 0, .int .i64 0]) (t := 59) ?hr ?_; (case hd => rfl); (case hg => rfl); (case hr => first | (go_simp; done) | (go_simp; rfl)); intro gb647 hg w106 hbox hb; have n0_ := Aside0.mk (Kd.R_below (by (with_reducible repeat (first | apply Kd.R_alloc | apply Kd.R_drewN | apply Kd.R_drew)); exact HO_7.out) hb); have n1_ := Aside0.mk (Kd.R_below (by (with_reducible repeat (first | apply Kd.R_alloc | apply Kd.R_drewN | apply Kd.R_drew)); exact HO_8.out) hb); have n2_ := Aside0.mk (blk_below (g := gb612) (o := .cells #[.slice A0_0 l0_0.length c0_0, .slice A0_1 l0_1.length c0_1, .slice (some ad646) l0_2.length c0_2, .int .i64 a0_3] 26 (0, 0)) (by (with_reducible repeat (first | refine blk_drewN ?_ _ | refine blk_drew ?_ | refine blk_alloc ?_ _)); exact BK612.out) hb); have n3_ := Aside0.mk (below_step (by repeat (first | (with_reducible first | exact HB.out | apply below_alloc | apply pw_below_drewN | apply below_drew1 | refine below_set ?_ GE612.out) | exact HB.out)) hb); have n4_ := Aside0.mk (hbox); have n5_ := Aside0.mk ((by rw [hg]; exact (below_size (by repeat (first | (with_reducible first | exact HB.out | apply below_alloc | apply pw_below_drewN | apply below_drew1 | refine below_set ?_ GE612.out) | exact HB.out))) : w.heap.size ≤ gb647)); have n6_ := Aside0.mk ((by rw [hg]; exact (below_size (by repeat (first | (with_reducible first | exact HB.out | apply below_alloc | apply pw_below_drewN | apply below_drew1 | refine below_set ?_ GE612.out) | exact HB.out))) : w.heap.size ≤ gb647)); have n7_ := Aside0.mk ((by rw [hg]; exact Nat.ne_of_lt (blk_lt (g := gb612) (o := .cells #[.slice A0_0 l0_0.length c0_0, .slice A0_1 l0_1.length c0_1, .slice (some ad646) l0_2.length c0_2, .int .i64 a0_3] 26 (0, 0)) (by (with_reducible repeat (first | refine blk_drewN ?_ _ | refine blk_drew ?_ | refine blk_alloc ?_ _)); exact BK612.out)) : gb612 ≠ gb647)); have n8_ := Aside0.mk ((by rw [hg]; exact Nat.ne_of_gt (blk_lt (g := gb612) (o := .cells #[.slice A0_0 l0_0.length c0_0, .slice A0_1 l0_1.length c0_1, .slice (some ad646) l0_2.length c0_2, .int .i64 a0_3] 26 (0, 0)) (by (with_reducible repeat (first | refine blk_drewN ?_ _ | refine blk_drew ?_ | refine blk_alloc ?_ _)); exact BK612.out)) : gb647 ≠ gb612)); clear HO_7; clear HO_8; clear BK612; clear HB; have HO_7 := n0_; have HO_8 := n1_; have BK612 := n2_; have HB := n3_; have BK647 := n4_; have GW647 := n5_; have GE647 := n6_; have NB612_647 := n7_; have NB647_612 := n8_; clear n0_ n1_ n2_ n3_ n4_ n5_ n6_ n7_ n8_; clear hb hbox hg; have hnb107 := NB647_612.out; have hnc107 := NB612_647.out; have hcz108_0 : w106.cell? ⟨gb647, 0, none⟩ = some (.int .i64 0) := (blk_cell BK647.out 0).trans rfl; have hcz108_1 : w106.cell? ⟨gb647, 1, none⟩ = some (.int .i64 0) := (blk_cell BK647.out 1).trans rfl; have hcz108_2 : w106.cell? ⟨gb647, 2, none⟩ = some (.int .i64 0) := (blk_cell BK647.out 2).trans rfl; have hfz108_0 := blk_frozen BK647.out 0; have hfz108_1 := blk_frozen BK647.out 1; have hfz108_2 := blk_frozen BK647.out 2))
                 go_roundg k3
                 case measure => have := HJ6.out; have := HK2.out; have := HK3.out; omega
                 case rel => exact ⟨(wrap64 (x12_3 + 1)), (by first | rfl | (simp; done) | (simp [*]; done)), H', ⟨by have := HJ6.out; have := HK2.out; have := HK3.out; omega⟩, ⟨by (with_reducible repeat (first | apply Kd.R_alloc | apply Kd.R_drewN | apply Kd.R_drew)); exact Kd.R_mono (Kd.R_far (p := ⟨gb647, 2, none⟩) (Kd.R_far (p := ⟨gb647, 1, none⟩) (Kd.R_far (p := ⟨gb647, 0, none⟩) (Kd.R_types HO_7.out BK647.out (by decide)) (fun _ hk => hk.2) (.int .i64 ((rd_T59 l0_2 x12_3).f0))) (fun _ hk => hk.2) (.int .i64 ((rd_T59 l0_2 x12_3).f1.f0))) (fun _ hk => hk.2) (.int .i64 ((rd_T59 l0_2 x12_3).f1.f1))) (fun _ hk => hk.1)⟩, ⟨by (with_reducible repeat (first | apply Kd.R_alloc | apply Kd.R_drewN | apply Kd.R_drew)); exact Kd.R_mono (Kd.R_far (p := ⟨gb647, 2, none⟩) (Kd.R_far (p := ⟨gb647, 1, none⟩) (Kd.R_far (p := ⟨gb647, 0, none⟩) (Kd.R_types HO_8.out BK647.out (by decide)) (fun _ hk => hk.2) (.int .i64 ((rd_T59 l0_2 x12_3).f0))) (fun _ hk => hk.2) (.int .i64 ((rd_T59 l0_2 x12_3).f1.f0))) (fun _ hk => hk.2) (.int .i64 ((rd_T59 l0_2 x12_3).f1.f1))) (fun _ hk => hk.1)⟩, ⟨by (with_reducible repeat (first | refine blk_drewN ?_ _ | refine blk_drew ?_ | refine blk_alloc ?_ _)); refine blk_far ?_ NB612_647.out _; (with_reducible repeat (first | refine blk_drewN ?_ _ | refine blk_drew ?_ | refine blk_alloc ?_ _)); refine blk_far ?_ NB612_647.out _; (with_reducible repeat (first | refine blk_drewN ?_ _ | refine blk_drew ?_ | refine blk_alloc ?_ _)); refine blk_far ?_ NB612_647.out _; (with_reducible repeat (first | refine blk_drewN ?_ _ | refine blk_drew ?_ | refine blk_alloc ?_ _)); exact BK612.out⟩, ⟨by repeat (first | (with_reducible first | exact HB.out | apply below_alloc | apply pw_below_drewN | apply below_drew1 | refine below_set ?_ GE612.out | refine below_set ?_ GE647.out) | exact HB.out)⟩⟩
             ·
              rw [if_neg c88] at H
              exact absurd H (by simp)
            ·
             rw [if_neg c87] at H
             have c87b0 : decide (x12_3 < (l0_2.length : Int)) = false := decide_eq_false c87
             clear c87
             by_cases c109 : 0 < (x8_2.length : Int)
             ·
              rw [if_pos c109] at H
              have c109b0 : decide (0 < (x8_2.length : Int)) = true := decide_eq_true c109
              have c109b1 : decide (0 < x8_2.length) = true := decide_eq_true (by omega)
              clear c109
              by_cases c110 : 1 < (x8_2.length : Int)
              ·
               rw [if_pos c110] at H
               have c110b0 : decide (1 < (x8_2.length : Int)) = true := decide_eq_true c110
               have c110b1 : decide (1 < x8_2.length) = true := decide_eq_true (by omega)
               clear c110
               by_cases c111 : 2 < (x8_2.length : Int)
               ·
                rw [if_pos c111] at H
                have c111b0 : decide (2 < (x8_2.length : Int)) = true := decide_eq_true c111
                have c111b1 : decide (2 < x8_2.length) = true := decide_eq_true (by omega)
                clear c111
                by_cases c112 : 3 < (x8_2.length : Int)
                ·
                 rw [if_pos c112] at H
                 have c112b0 : decide (3 < (x8_2.length : Int)) = true := decide_eq_true c112
                 have c112b1 : decide (3 < x8_2.length) = true := decide_eq_true (by omega)
                 clear c112
                 obtain ⟨ji113, hji113⟩ : ∃ j_ : Int, (mx (rd x8_2 0) (rd x8_2 1)) = j_ := ⟨_, rfl⟩
                 replace H : (if (mx (mx (ji113) (rd x8_2 2)) (rd x8_2 3)) ≤ 1 then ((dancestudiolaw50_once.f k3 x7_2).bind fun t653 => (if t653 = true then ((dancestudiolaw50_awake.f k3).bind fun t654 => (some t654)) else (none))) else (none)) = some r := by first | (rw [hji113] at H; exact H) | (simp only [hji113] at H ⊢; exact H)
                 have hji113_ : (if (rd x8_2 0) < (rd x8_2 1) then (rd x8_2 1) else (rd x8_2 0)) = ji113 := hji113
                 obtain ⟨ji114, hji114⟩ : ∃ j_ : Int, (mx (ji113) (rd x8_2 2)) = j_ := ⟨_, rfl⟩
                 replace H : (if (mx (ji114) (rd x8_2 3)) ≤ 1 then ((dancestudiolaw50_once.f k3 x7_2).bind fun t653 => (if t653 = true then ((dancestudiolaw50_awake.f k3).bind fun t654 => (some t654)) else (none))) else (none)) = some r := by first | (rw [hji114] at H; exact H) | (simp only [hji114] at H ⊢; exact H)
                 have hji114_ : (if (ji113) < (rd x8_2 2) then (rd x8_2 2) else (ji113)) = ji114 := hji114
                 obtain ⟨ji115, hji115⟩ : ∃ j_ : Int, (mx (ji114) (rd x8_2 3)) = j_ := ⟨_, rfl⟩
                 replace H : (if (ji115) ≤ 1 then ((dancestudiolaw50_once.f k3 x7_2).bind fun t653 => (if t653 = true then ((dancestudiolaw50_awake.f k3).bind fun t654 => (some t654)) else (none))) else (none)) = some r := by first | (rw [hji115] at H; exact H) | (simp only [hji115] at H ⊢; exact H)
                 have hji115_ : (if (ji114) < (rd x8_2 3) then (rd x8_2 3) else (ji114)) = ji115 := hji115
                 by_cases c116 : (ji115) ≤ 1
                 ·
                  rw [if_pos c116] at H
                  have c116b0 : decide ((ji115) ≤ 1) = true := decide_eq_true c116
                  clear c116
                  replace H := Option.bind_eq_some_iff.mp H
                  obtain ⟨t653, A1170, H⟩ := H
                  replace H : (if t653 = true then ((dancestudiolaw50_awake.f k3).bind fun t654 => (some t654)) else (none)) = some r := H
                  have A117 := Aside0.mk A1170
                  clear A1170
                  by_cases c118 : t653 = true
                  · as_aux_lemma =>
                   subst c118
                   have H1 : ((dancestudiolaw50_awake.f k3).bind fun t654 => (some t654)) = some r := by rw [if_pos rfl] at H; exact H
                   clear H
                   have H := H1
                   clear H1
                   replace H := Option.bind_eq_some_iff.mp H
                   obtain ⟨t654, A1190, H⟩ := H
                   replace H : (some t654) = some r := H
                   have A119 := Aside0.mk A1190
                   clear A1190
                   obtain rfl := Option.some.inj H
                   have hcz120_0 : wr.cell? ⟨gb612, 0, none⟩ = some (.slice A0_0 l0_0.length c0_0) := (blk_cell BK612.out 0).trans rfl
                   have hcz120_1 : wr.cell? ⟨gb612, 1, none⟩ = some (.slice A0_1 l0_1.length c0_1) := (blk_cell BK612.out 1).trans rfl
                   have hcz120_2 : wr.cell? ⟨gb612, 2, none⟩ = some (.slice A0_2 l0_2.length c0_2) := (blk_cell BK612.out 2).trans rfl
                   have hcz120_3 : wr.cell? ⟨gb612, 3, none⟩ = some (.int .i64 a0_3) := (blk_cell BK612.out 3).trans rfl
                   have hfz120_0 := blk_frozen BK612.out 0
                   have hfz120_1 := blk_frozen BK612.out 1
                   have hfz120_2 := blk_frozen BK612.out 2
                   have hfz120_3 := blk_frozen BK612.out 3
                   obtain ⟨Ao121, co121, eo121⟩ := Kd.R_slice HO_8.out
                   (first | subst eo121 | (injection eo121 with f1_ f2_ f3_; have f4_ := f1_.symm; have f5_ := f3_.symm; clear f1_ f2_ f3_; subst f4_; subst f5_))
                   have p649 : 0 ≤ (0 : Int) := (by omega)
                   have q649 : 0 < (x8_2.length : Int) := of_decide_eq_true (by first | (with_reducible assumption) | assumption)
                   obtain ⟨ad649, e649, hx649_0⟩ := Kd.at_int (Kd.R_reads' HO_8.out).2.2 0 p649 q649
                   cases e649
                   have qi649 : (0 < x8_2.length) = True := eq_true (by omega)
                   (try rw [show ((0 : Int)).toNat = 0 from rfl] at hx649_0)
                   (try rw [Addr.add_zero'] at hx649_0)
                   replace p649 := eq_true p649
                   replace q649 := eq_true q649
                   have p650 : 0 ≤ (1 : Int) := (by omega)
                   have q650 : 1 < (x8_2.length : Int) := of_decide_eq_true (by first | (with_reducible assumption) | assumption)
                   obtain ⟨ad650, e650, hx650_0⟩ := Kd.at_int (Kd.R_reads' HO_8.out).2.2 1 p650 q650
                   cases e650
                   (try simp only [show (1 : Int).toNat = 1 from rfl, Nat.reduceMul, Nat.reduceEqDiff, Go.Addr.add, ↓reduceIte] at hx650_0)
                   have qi650 : (1 < x8_2.length) = True := eq_true (by omega)
                   (try rw [show ((1 : Int)).toNat = 1 from rfl] at hx650_0)
                   replace p650 := eq_true p650
                   replace q650 := eq_true q650
                   have p651 : 0 ≤ (2 : Int) := (by omega)
                   have q651 : 2 < (x8_2.length : Int) := of_decide_eq_true (by first | (with_reducible assumption) | assumption)
                   obtain ⟨ad651, e651, hx651_0⟩ := Kd.at_int (Kd.R_reads' HO_8.out).2.2 2 p651 q651
                   cases e651
                   (try simp only [show (2 : Int).toNat = 2 from rfl, Nat.reduceMul, Nat.reduceEqDiff, Go.Addr.add, ↓reduceIte] at hx651_0)
                   have qi651 : (2 < x8_2.length) = True := eq_true (by omega)
                   (try rw [show ((2 : Int)).toNat = 2 from rfl] at hx651_0)
                   replace p651 := eq_true p651
                   replace q651 := eq_true q651
                   have p652 : 0 ≤ (3 : Int) := (by omega)
                   have q652 : 3 < (x8_2.length : Int) := of_decide_eq_true (by first | (with_reducible assumption) | assumption)
                   obtain ⟨ad652, e652, hx652_0⟩ := Kd.at_int (Kd.R_reads' HO_8.out).2.2 3 p652 q652
                   cases e652
                   (try simp only [show (3 : Int).toNat = 3 from rfl, Nat.reduceMul, Nat.reduceEqDiff, Go.Addr.add, ↓reduceIte] at hx652_0)
                   have qi652 : (3 < x8_2.length) = True := eq_true (by omega)
                   (try rw [show ((3 : Int)).toNat = 3 from rfl] at hx652_0)
                   replace p652 := eq_true p652
                   replace q652 := eq_true q652
                   obtain ⟨Ao122, co122, eo122⟩ := Kd.R_slice HO_7.out
                   (first | subst eo122 | (injection eo122 with f1_ f2_ f3_; have f4_ := f1_.symm; have f5_ := f3_.symm; clear f1_ f2_ f3_; subst f4_; subst f5_))
                   have hlen24 : x7_2.length = 24 := (Kd.R_reads' HO_7.out).1.symm
                   have hRng : wr.rangeAt gb619 0 (x7_2.map (Value.int .i64)) := mid_of HO_7.out
                   go_wp2_with (first | ((refine wpList_load_midG ?wanted_ 49 _ (by with_reducible rfl) gb619 0 (by rfl) (x7_2.map (Value.int .i64)) _ hRng (by rfl) (by rfl) (by rw [List.length_map, hlen24]; rfl) ?_); (case wanted_ => rfl); (simp only [Act.put, List.setIfInBounds_toArray, List.set_cons_zero, List.set_cons_succ])) | (go_at_call 24; (refine (dancestudiolaw50_once.calls k3 x7_2 hlen24 true _ A117.out).mono ?_); rintro e w923 ⟨rfl, hb⟩; have n0_ := Aside0.mk (Kd.R_below (by (with_reducible repeat (first | apply Kd.R_alloc | apply Kd.R_drewN | apply Kd.R_drew)); exact HO_7.out) hb); have n1_ := Aside0.mk (Kd.R_below (by (with_reducible repeat (first | apply Kd.R_alloc | apply Kd.R_drewN | apply Kd.R_drew)); exact HO_8.out) hb); have n2_ := Aside0.mk (blk_below (g := gb612) (o := .cells #[.slice A0_0 l0_0.length c0_0, .slice A0_1 l0_1.length c0_1, .slice A0_2 l0_2.length c0_2, .int .i64 a0_3] 26 (0, 0)) (by (with_reducible repeat (first | refine blk_drewN ?_ _ | refine blk_drew ?_ | refine blk_alloc ?_ _)); exact BK612.out) hb); have n3_ := Aside0.mk (below_step (by repeat (first | (with_reducible first | exact HB.out | apply below_alloc | apply pw_below_drewN | apply below_drew1 | refine below_set ?_ GE612.out) | exact HB.out)) hb); clear HO_7; clear HO_8; clear BK612; clear HB; have HO_7 := n0_; have HO_8 := n1_; have BK612 := n2_; have HB := n3_; clear n0_ n1_ n2_ n3_; (try clear hb); (try clear hb2); (try clear hk); (try clear hi)) | (go_at_call 15; (with_reducible refine (dancestudiolaw50_awake.calls k3  t654 _ ?sidem_ A119.out).mono ?_); (case sidem_ => first | ((repeat (first | exact HMX_.out | apply Mx.drewN | apply Mx.drew)); done) | (refine Mx.below HMX_.out ?_; (repeat (first | (with_reducible first | exact HB.out | apply below_alloc | apply pw_below_drewN | apply below_drew1 | refine below_set ?_ (Aside0.out (by assumption))) | exact HB.out)); done)); rintro e w123 ⟨rfl, hb⟩; have n0_ := Aside0.mk (Kd.R_below (by (with_reducible repeat (first | apply Kd.R_alloc | apply Kd.R_drewN | apply Kd.R_drew)); exact HO_7.out) hb); have n1_ := Aside0.mk (Kd.R_below (by (with_reducible repeat (first | apply Kd.R_alloc | apply Kd.R_drewN | apply Kd.R_drew)); exact HO_8.out) hb); have n2_ := Aside0.mk (blk_below (g := gb612) (o := .cells #[.slice A0_0 l0_0.length c0_0, .slice A0_1 l0_1.length c0_1, .slice A0_2 l0_2.length c0_2, .int .i64 a0_3] 26 (0, 0)) (by (with_reducible repeat (first | refine blk_drewN ?_ _ | refine blk_drew ?_ | refine blk_alloc ?_ _)); exact BK612.out) hb); have n3_ := Aside0.mk (below_step (by repeat (first | (with_reducible first | exact HB.out | apply below_alloc | apply pw_below_drewN | apply below_drew1 | refine below_set ?_ GE612.out) | exact HB.out)) hb); clear HO_7; clear HO_8; clear BK612; clear HB; have HO_7 := n0_; have HO_8 := n1_; have BK612 := n2_; have HB := n3_; clear n0_ n1_ n2_ n3_; (try clear hb); (try clear hb2); (try clear hk); (try clear hi)))
                   go_ret
                   exact ⟨by first | rfl | (simp [errW_none, errW_some] <;> rfl) | (simp only [← hji113, ← hji114, ← hji115]; first | rfl | (simp [errW_none, errW_some] <;> rfl)) | (simp [*, errW_none, errW_some] <;> rfl), by repeat (first | (with_reducible first | exact HB.out | apply below_alloc | apply pw_below_drewN | apply below_drew1 | refine below_set ?_ GE612.out) | exact HB.out)⟩
                  ·
                   replace c118 := Bool.eq_false_iff.mpr c118
                   subst c118
                   have H1 : (none) = some r := by rw [if_neg (show ¬ (false = true) by decide)] at H; exact H
                   clear H
                   have H := H1
                   clear H1
                   exact absurd H (by simp)
                 ·
                  rw [if_neg c116] at H
                  exact absurd H (by simp)
                ·
                 rw [if_neg c112] at H
                 exact absurd H (by simp)
               ·
                rw [if_neg c111] at H
                exact absurd H (by simp)
              ·
               rw [if_neg c110] at H
               exact absurd H (by simp)
             ·
              rw [if_neg c109] at H
              exact absurd H (by simp)
      ·
       rw [if_neg c24] at H
       exact absurd H (by simp)
     ·
      rw [if_neg c23] at H
      exact absurd H (by simp)
 ·
  rw [if_neg c6] at H
  have c6b0 : (t614 == 0) = false := beq_eq_false_iff_ne.mpr c6
  have c6b1 : (t614 != 0) = true := bne_iff_ne.mpr c6
  replace H := Option.bind_eq_some_iff.mp H
  obtain ⟨t615, A1240, H⟩ := H
  replace H : (some t615) = some r := H
  have A124 := Aside0.mk A1240
  clear A1240
  obtain rfl := Option.some.inj H
  go_enter Try.func7, Try.ntmps7
  go_wp2_with (first | ((with_reducible refine gate_dst (N := 3) rfl ?_); (try (refine gate_guard (by rfl) ?_; dsimp only)); refine box_event ?hg (N := 3) ?hd (cs := #[.slice A0_0 l0_0.length c0_0, .slice A0_1 l0_1.length c0_1, .slice A0_2 l0_2.length c0_2, .int .i64 a0_3]) (t := 26) ?hr ?_; (case hd => rfl); (case hg => rfl); (case hr => first | (go_simp; done) | (go_simp; rfl)); intro gb612 hg w125 hbox hb; have n0_ := Aside0.mk (below_step (by repeat (first | (with_reducible first | exact HB.out | apply below_alloc | apply pw_below_drewN | apply below_drew1) | exact HB.out)) hb); have n1_ := Aside0.mk (hbox); have n2_ := Aside0.mk ((by rw [hg]; exact (below_size (by repeat (first | (with_reducible first | exact HB.out | apply below_alloc | apply pw_below_drewN | apply below_drew1) | exact HB.out))) : w.heap.size ≤ gb612)); have n3_ := Aside0.mk ((by rw [hg]; exact (below_size (by repeat (first | (with_reducible first | exact HB.out | apply below_alloc | apply pw_below_drewN | apply below_drew1) | exact HB.out))) : w.heap.size ≤ gb612)); clear HB; have HB := n0_; have BK612 := n1_; have GW612 := n2_; have GE612 := n3_; clear n0_ n1_ n2_ n3_; clear hb hbox hg; have hcz126_0 : w125.cell? ⟨gb612, 0, none⟩ = some (.slice A0_0 l0_0.length c0_0) := (blk_cell BK612.out 0).trans rfl; have hcz126_1 : w125.cell? ⟨gb612, 1, none⟩ = some (.slice A0_1 l0_1.length c0_1) := (blk_cell BK612.out 1).trans rfl; have hcz126_2 : w125.cell? ⟨gb612, 2, none⟩ = some (.slice A0_2 l0_2.length c0_2) := (blk_cell BK612.out 2).trans rfl; have hcz126_3 : w125.cell? ⟨gb612, 3, none⟩ = some (.int .i64 a0_3) := (blk_cell BK612.out 3).trans rfl; have hfz126_0 := blk_frozen BK612.out 0; have hfz126_1 := blk_frozen BK612.out 1; have hfz126_2 := blk_frozen BK612.out 2; have hfz126_3 := blk_frozen BK612.out 3) | (go_at_call 11; (with_reducible refine (dancestudiolaw50_of.calls  t613 _ A4.out).mono ?_); rintro e w127 ⟨rfl, hb⟩; have n0_ := Aside0.mk (blk_below (g := gb612) (o := .cells #[.slice A0_0 l0_0.length c0_0, .slice A0_1 l0_1.length c0_1, .slice A0_2 l0_2.length c0_2, .int .i64 a0_3] 26 (0, 0)) (by (with_reducible repeat (first | refine blk_drewN ?_ _ | refine blk_drew ?_ | refine blk_alloc ?_ _)); exact BK612.out) hb); have n1_ := Aside0.mk (below_step (by repeat (first | (with_reducible first | exact HB.out | apply below_alloc | apply pw_below_drewN | apply below_drew1 | refine below_set ?_ GE612.out) | exact HB.out)) hb); clear BK612; clear HB; have BK612 := n0_; have HB := n1_; clear n0_ n1_; (try clear hb); (try clear hb2); (try clear hk); (try clear hi)) | ((with_reducible refine gate_callee (f := 18) rfl ?_); refine goesL_ (some 17) rfl rfl Try.func18 (by kernel_rfl) rfl #[.agg #[.slice A0_0 l0_0.length c0_0, .slice A0_1 l0_1.length c0_1, .slice A0_2 l0_2.length c0_2, .int .i64 a0_3], .slice A1 l1.length c1] rfl (by (try simp only [List.map_toArray, List.map_cons, List.map_nil]); first | done | rfl | (simp only [List.length_drop, List.length_take]; rfl)) ?_; (with_reducible refine (rehearse_Valid.calls k _ _ l0_0 _ _ l0_1 _ _ l0_2 a0_3 _ _ l1 t614 _ ?side1 ?side2 ?side3 ?side4 ?side5 ?side6 ?side7 ?side8 ?sidem_ A5.out).mono ?_); (case sidem_ => first | ((repeat (first | exact HMX_.out | apply Mx.drewN | apply Mx.drew)); done) | (refine Mx.below HMX_.out ?_; (repeat (first | (with_reducible first | exact HB.out | apply below_alloc | apply pw_below_drewN | apply below_drew1 | refine below_set ?_ (Aside0.out (by assumption))) | exact HB.out)); done)); (case side1 => repeat (first | exact (Kd.C_below HR0_0.out HB.out) | (with_reducible refine Kd.C_alloc ?_ _) | (with_reducible refine Kd.C_drewN ?_ _) | (with_reducible refine Kd.C_drew ?_))); (case side2 => exact HC0_0.out); (case side3 => repeat (first | exact (Kd.C_below HR0_1.out HB.out) | (with_reducible refine Kd.C_alloc ?_ _) | (with_reducible refine Kd.C_drewN ?_ _) | (with_reducible refine Kd.C_drew ?_))); (case side4 => exact HC0_1.out); (case side5 => repeat (first | exact (Kd.C_below HR0_2.out HB.out) | (with_reducible refine Kd.C_alloc ?_ _) | (with_reducible refine Kd.C_drewN ?_ _) | (with_reducible refine Kd.C_drew ?_))); (case side6 => exact HC0_2.out); (case side7 => repeat (first | exact (Kd.C_below HR1.out HB.out) | (with_reducible refine Kd.C_alloc ?_ _) | (with_reducible refine Kd.C_drewN ?_ _) | (with_reducible refine Kd.C_drew ?_))); (case side8 => exact HC1.out); rintro e w128 ⟨rfl, hb⟩; refine ⟨_, rfl, ?_⟩; have n0_ := Aside0.mk (blk_below (g := gb612) (o := .cells #[.slice A0_0 l0_0.length c0_0, .slice A0_1 l0_1.length c0_1, .slice A0_2 l0_2.length c0_2, .int .i64 a0_3] 26 (0, 0)) (by (with_reducible repeat (first | refine blk_drewN ?_ _ | refine blk_drew ?_ | refine blk_alloc ?_ _)); exact BK612.out) hb); have n1_ := Aside0.mk (below_step (by repeat (first | (with_reducible first | exact HB.out | apply below_alloc | apply pw_below_drewN | apply below_drew1 | refine below_set ?_ GE612.out) | exact HB.out)) hb); clear BK612; clear HB; have BK612 := n0_; have HB := n1_; clear n0_ n1_; (try clear hb); (try clear hb2); (try clear hk); (try clear hi)) | ((with_reducible refine gate_callee (f := 15) rfl ?_); refine goesL_ (some 19) rfl rfl Try.func15 (by kernel_rfl) rfl #[] rfl (by (try simp only [List.map_toArray, List.map_cons, List.map_nil]); first | done | rfl | (simp only [List.length_drop, List.length_take]; rfl)) ?_; (with_reducible refine (dancestudiolaw50_awake.calls k  t615 _ ?sidem_ A124.out).mono ?_); (case sidem_ => first | ((repeat (first | exact HMX_.out | apply Mx.drewN | apply Mx.drew)); done) | (refine Mx.below HMX_.out ?_; (repeat (first | (with_reducible first | exact HB.out | apply below_alloc | apply pw_below_drewN | apply below_drew1 | refine below_set ?_ (Aside0.out (by assumption))) | exact HB.out)); done)); rintro e w129 ⟨rfl, hb⟩; refine ⟨_, rfl, ?_⟩; have n0_ := Aside0.mk (blk_below (g := gb612) (o := .cells #[.slice A0_0 l0_0.length c0_0, .slice A0_1 l0_1.length c0_1, .slice A0_2 l0_2.length c0_2, .int .i64 a0_3] 26 (0, 0)) (by (with_reducible repeat (first | refine blk_drewN ?_ _ | refine blk_drew ?_ | refine blk_alloc ?_ _)); exact BK612.out) hb); have n1_ := Aside0.mk (below_step (by repeat (first | (with_reducible first | exact HB.out | apply below_alloc | apply pw_below_drewN | apply below_drew1 | refine below_set ?_ GE612.out) | exact HB.out)) hb); clear BK612; clear HB; have BK612 := n0_; have HB := n1_; clear n0_ n1_; (try clear hb); (try clear hb2); (try clear hk); (try clear hi)))
  go_ret
  exact ⟨by first | rfl | (simp [errW_none, errW_some] <;> rfl) | (simp [*, errW_none, errW_some] <;> rfl), by repeat (first | (with_reducible first | exact HB.out | apply below_alloc | apply pw_below_drewN | apply below_drew1 | refine below_set ?_ GE612.out) | exact HB.out)⟩
end Go.Proofs.Ytjppjppapdflmaa.PAll
