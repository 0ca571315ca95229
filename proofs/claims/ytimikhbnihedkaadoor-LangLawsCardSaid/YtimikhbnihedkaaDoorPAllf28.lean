-- Written by wip/tools/handprint.py: walks of the functions that the law reaches; Lean checks them.
import Derived.Test.YtimikhbnihedkaaDoorMC0
namespace Go.Proofs.YtimikhbnihedkaaDoor.PAll
open Go.RowKit Go.Proofs.YtimikhbnihedkaaDoorW.PrintWords Go.Proofs.YtimikhbnihedkaaDoorW.PrintLast Go.Proofs.YtimikhbnihedkaaDoorW.PrintMore
attribute [local go_sem] max2_int min2_int max_two min_two max_three min_three max_four min_four   -- for this text's walks alone
set_option linter.unusedVariables false
set_option linter.unusedSimpArgs false

/-! ### dancestudiolaw35_above: function 28 -/
def dancestudiolaw35_above.f (a0 : Int) (a1 : Int) (l2 : List (S43)) : Option ((List (S43))) := (some (([(⟨a0, (⟨#[]⟩ : ByteArray), a1, 1⟩ : S43)] : List (S43)) : List (S43))).bind fun y841 => (if y841.length + l2.length < 3518437208883 then (some (y841 ++ l2)) else (none))
set_option maxHeartbeats 8000000 in
set_option maxRecDepth 100000 in
theorem dancestudiolaw35_above.calls (a0 : Int) (a1 : Int) (A2 : Option Addr) (c2 : Nat) (l2 : List (S43)) (r : List (S43)) (w : World) (hr2 : Kd.C k43 w A2 l2.length l2) (hc2 : l2.length ≤ c2) (h : dancestudiolaw35_above.f a0 a1 l2 = some r) :
  Calls Tryd.prog 28 #[.int .i64 a0, .int .i64 a1, .slice A2 l2.length c2] w fun e w' => ∃ v0_ : Value, e = .returned (v0_) ∧ Kd.R k43 43 w' w.heap.size (fun _ => True) v0_ r ∧ Below w.heap.size w w' := by
 have hu43 := Tryd.underlying43
 have HR2 := Aside0.mk hr2
 have HC2 := Aside0.mk hc2
 clear hr2 hc2
 have HB := Aside0.mk (Below.refl w.heap.size w)
 have H := h
 unfold dancestudiolaw35_above.f at H
 clear h
 obtain ⟨y841, hy841⟩ : ∃ y_ : List (S43), y_ = (([(⟨a0, (⟨#[]⟩ : ByteArray), a1, 1⟩ : S43)] : List (S43))) := ⟨_, rfl⟩
 rw [← hy841] at H
 have Ny841 := Aside0.mk hy841
 clear hy841
 obtain ⟨c4, H⟩ : (y841.length + l2.length < 3518437208883) ∧ _ := mIf H
 have LMc4 := Aside0.mk c4
 clear c4
 obtain ⟨y844, hy844⟩ : ∃ y_ : List (S43), y_ = (y841 ++ l2) := ⟨_, rfl⟩
 rw [← hy844] at H
 have Ny844 := Aside0.mk hy844
 clear hy844
 obtain rfl := Option.some.inj H
 go_enter Tryd.func28, Tryd.ntmps28
 go_wp2_with (first | ((with_reducible refine gate_dst (N := 10) rfl ?_); refine Kd.R_lit k43 _ 43 ?hg (N := 10) ?hd (xs := ([(⟨a0, (⟨#[]⟩ : ByteArray), a1, 1⟩ : S43)] : List (S43))) (inner := [.int .i64 a0, .string (⟨#[]⟩ : ByteArray), .int .i64 a1, .int .i64 1]) (ok := fun _ => True) (okp := fun _ => True) ?hr ?hp (fun _ hk => hk) trivial (Below.refl _ _) (Nat.le_refl _) (by simp) ?_; (case hd => rfl); (case hg => rfl); (case hr => first | (go_simp; done) | (go_simp; rfl)); (case hp => exact (Reps.c4 (show Kd.M k43 _ _ _ (⟨a0, (⟨#[]⟩ : ByteArray), a1, 1⟩ : S43) [.int .i64 a0, .string (⟨#[]⟩ : ByteArray), .int .i64 a1, .int .i64 1] from (k43_mkM _ _ _ (⟨a0, (⟨#[]⟩ : ByteArray), a1, 1⟩ : S43) )) (Reps.none _ _))); intro v842 w5 ho6 hb hg_ hnew_; clear hg_ hnew_; (first | rw [← Ny841.out] at ho6 | (simp only [Int.reduceToNat] at ho6; rw [← Ny841.out] at ho6)); have HO843 := Aside0.mk (Kd.R_lower ho6 (below_size HB.out)); replace HB := mSt HB hb; clear hb ho6) | ((with_reducible refine gate_builtin (b := .append) (xs := #[.tmp 10, .tmp 11]) rfl ?_); at_builtin; refine Kd.R_append_rows k43 (w0 := w) w.heap.size rfl (.tmp 10) (.tmp 11) 22 43 (.agg #[(.int .i64 0), (.string ⟨#[]⟩), (.int .i64 0), (.int .i64 0)]) 40 rfl Tryd.underlying22 info43 rfl (by decide) (by omega) v842 y841 l2 _ _ _ (fun _ => True) (fun _ => False) rfl rfl ?aO ?aR (fun _ _ h => h) (fun _ h => h.elim) ?aF ?aB ?aS ?aL ?_; (case aR => exact Kd.C_below HR2.out HB.out); (case aB => exact HB.out); (case aF => exact (fun _ _ => trivial)); (case aO => exact HO843.out); (case aS => exact (below_size HB.out)); (case aL => have := LMc4.out; omega); intro v845 w7 ho hb hg hat; rw [← Ny844.out] at ho; replace HB := Aside0.mk hb; have HO846 := Aside0.mk ho; clear HO843; clear ho hb hg hat))
 go_ret
 exact ⟨_, rfl, by exact HO846.out, HB.out⟩
end Go.Proofs.YtimikhbnihedkaaDoor.PAll
