-- Written by wip/tools/handprint.py: walks of the functions that the law reaches; Lean checks them.
import Derived.Test.YtjppjppapdflmaaPAllx0
namespace Go.Proofs.Ytjppjppapdflmaa.PAll
open Go.RowKit Go.Proofs.YtjppjppapdflmaaW.PrintWords Go.Proofs.YtjppjppapdflmaaW.PrintLast Go.Proofs.YtjppjppapdflmaaW.PrintMore
attribute [local go_sem] max2_int min2_int max_two min_two max_three min_three max_four min_four   -- for this text's walks alone
set_option linter.unusedVariables false
set_option linter.unusedSimpArgs false

/-! ### dancestudiolaw50_once: function 24 -/
def dancestudiolaw50_once.l0 : Nat → List Int → Int → Option (Bool)
 | 0, _, _ => none
 | k + 1, x1, x3 => if x3 < 24 then (if 0 ≤ x3 then (if x3 < (x1.length : Int) then (if (rd x1 x3) > 1 then (some false) else (dancestudiolaw50_once.l0 k x1 (wrap64 (x3 + 1)))) else (none)) else (none)) else (some true)
def dancestudiolaw50_once.f (k : Nat) (l0 : List Int) : Option (Bool) := dancestudiolaw50_once.l0 k l0 0
set_option maxHeartbeats 8000000 in
set_option maxRecDepth 100000 in
theorem dancestudiolaw50_once.calls (k : Nat) (l0 : List Int) (hl : l0.length = 24) (r : Bool) (w : World) (h : dancestudiolaw50_once.f k l0 = some r) :
  Calls Try.prog 24 #[.agg (l0.map (Value.int .i64)).toArray] w fun e w' => e = .returned (.bool r) ∧ Below w.heap.size w w' := by
 have HB := Aside0.mk (Below.refl w.heap.size w)
 have H' := Aside0.mk (show (dancestudiolaw50_once.l0 k l0 0) = some r from h)
 have HL := Aside0.mk hl
 clear h hl
 obtain ⟨V, hV⟩ : ∃ V : Array Value, V = (l0.map (Value.int .i64)).toArray := ⟨_, rfl⟩
 rw [← hV]
 have HV := Aside0.mk hV
 clear hV
 go_enter Try.func24, Try.ntmps24
 go_wp2_with (first | ((with_reducible refine gate_dst (N := 1) rfl ?_); refine box_event ?hg (N := 1) ?hd (cs := V) (t := 49) ?hr ?_; (case hd => rfl); (case hg => rfl); (case hr => first | (go_simp; done) | (go_simp; rfl)); intro gb1 hg w1 hbox hb; have BK := Aside0.mk hbox; have HB2 := Aside0.mk (below_step HB.out hb); clear hbox hb; clear HB; have HB := HB2; clear HB2; have GE := Aside0.mk (show w.heap.size ≤ gb1 by rw [hg]; exact Nat.le_refl _); clear hg))
 go_loopg [3] k (fun kq v3 w' => ∃ (x3_1 : Int), v3 = .int .i64 x3_1 ∧ Aside0 (dancestudiolaw50_once.l0 kq l0 x3_1 = some r) ∧ Aside0 (kq ≤ k) ∧ Aside0 (w'.heap[gb1]? = some (.cells V 49 (0, 0))) ∧ Aside0 (Below w.heap.size w w'))
 case atStart => exact ⟨(0), rfl, H', ⟨Nat.le_refl _⟩, BK, HB⟩
 case round =>
  clear H' BK HB
  obtain ⟨x3_1, rfl, HA, HK1, BK, HB⟩ := hrel
  cases gk with
  | zero => exact absurd HA.out (by simp [dancestudiolaw50_once.l0])
  | succ k1 =>
   have H := HA.out
   clear HA
   simp only [dancestudiolaw50_once.l0] at H
   by_cases c2 : x3_1 < 24
   ·
    rw [if_pos c2] at H
    have c2b0 : decide (x3_1 < 24) = true := decide_eq_true c2
    clear c2
    by_cases c3 : 0 ≤ x3_1
    ·
     rw [if_pos c3] at H
     have c3b0 : decide (0 ≤ x3_1) = true := decide_eq_true c3
     clear c3
     by_cases c4 : x3_1 < (l0.length : Int)
     ·
      rw [if_pos c4] at H
      have c4b0 : decide (x3_1 < (l0.length : Int)) = true := decide_eq_true c4
      clear c4
      by_cases c5 : (rd l0 x3_1) > 1
      ·
       rw [if_pos c5] at H
       have c5b0 : decide (1 < (rd l0 x3_1)) = true := decide_eq_true c5
       clear c5
       obtain rfl := Option.some.inj H
       have p611 : 0 ≤ (x3_1 : Int) := of_decide_eq_true (by first | (with_reducible assumption) | assumption)
       have q611 : x3_1 < (l0.length : Int) := of_decide_eq_true (by first | (with_reducible assumption) | assumption)
       have q24 : x3_1 < (24 : Int) := of_decide_eq_true (by first | (with_reducible assumption) | assumption)
       have hx611_0 : wr.cell? ⟨gb1, x3_1.toNat, none⟩ = some (.int .i64 (rd l0 x3_1)) := (blk_cell BK.out x3_1.toNat).trans (by
         rw [HV.out, List.getElem?_toArray, List.getElem?_map, List.getElem?_eq_getElem (show x3_1.toNat < l0.length by omega), Option.map_some]
         unfold rd; rw [List.getD_eq_getElem?_getD, List.getElem?_eq_getElem (show x3_1.toNat < l0.length by omega)]; rfl)
       replace p611 := eq_true p611
       replace q24 := eq_true q24
       go_wp2
       go_ret
       exact ⟨by first | rfl | (simp; done) | (simp [*]; done), HB.out⟩
      ·
       rw [if_neg c5] at H
       have c5b0 : decide (1 < (rd l0 x3_1)) = false := decide_eq_false c5
       clear c5
       have H' := Aside0.mk H
       clear H
       have p611 : 0 ≤ (x3_1 : Int) := of_decide_eq_true (by first | (with_reducible assumption) | assumption)
       have q611 : x3_1 < (l0.length : Int) := of_decide_eq_true (by first | (with_reducible assumption) | assumption)
       have q24 : x3_1 < (24 : Int) := of_decide_eq_true (by first | (with_reducible assumption) | assumption)
       have hx611_0 : wr.cell? ⟨gb1, x3_1.toNat, none⟩ = some (.int .i64 (rd l0 x3_1)) := (blk_cell BK.out x3_1.toNat).trans (by
         rw [HV.out, List.getElem?_toArray, List.getElem?_map, List.getElem?_eq_getElem (show x3_1.toNat < l0.length by omega), Option.map_some]
         unfold rd; rw [List.getD_eq_getElem?_getD, List.getElem?_eq_getElem (show x3_1.toNat < l0.length by omega)]; rfl)
       replace p611 := eq_true p611
       replace q24 := eq_true q24
       go_wp2
       go_roundg k1
       case measure => have := HK1.out; omega
       case rel => exact ⟨(wrap64 (x3_1 + 1)), (by first | rfl | (simp; done) | (simp [*]; done)), H', ⟨by have := HK1.out; omega⟩, ⟨by (with_reducible repeat (first | refine blk_drewN ?_ _ | refine blk_drew ?_ | refine blk_alloc ?_ _)); exact BK.out⟩, ⟨by repeat (first | (with_reducible first | exact HB.out | apply below_alloc | apply pw_below_drewN | apply below_drew1) | exact HB.out)⟩⟩
     ·
      rw [if_neg c4] at H
      exact absurd H (by simp)
    ·
     rw [if_neg c3] at H
     exact absurd H (by simp)
   ·
    rw [if_neg c2] at H
    have c2b0 : decide (x3_1 < 24) = false := decide_eq_false c2
    clear c2
    obtain rfl := Option.some.inj H
    go_wp2
    go_ret
    exact ⟨by first | rfl | (simp; done) | (simp [*]; done), by repeat (first | (with_reducible first | exact HB.out | apply below_alloc | apply pw_below_drewN | apply below_drew1) | exact HB.out)⟩
end Go.Proofs.Ytjppjppapdflmaa.PAll
