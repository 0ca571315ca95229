-- Written by wip/tools/handprint.py: walks of the functions that the law reaches; Lean checks them.
import Derived.Test.YtkcnfbhmjcbgoaaDoorPAllx0
import Derived.Test.YtkcnfbhmjcbgoaaDoorPAllf12
import Derived.Test.YtkcnfbhmjcbgoaaDoorPAllf14
import Derived.Test.YtkcnfbhmjcbgoaaDoorPAllf16
import Derived.Test.YtkcnfbhmjcbgoaaDoorPAllf17
import Derived.Test.YtkcnfbhmjcbgoaaDoorPAllf19
import Derived.Test.YtkcnfbhmjcbgoaaDoorPAllf20
namespace Go.Proofs.YtkcnfbhmjcbgoaaDoor.PAll
open Go.RowKit Go.Proofs.YtkcnfbhmjcbgoaaDoorW.PrintWords Go.Proofs.YtkcnfbhmjcbgoaaDoorW.PrintLast Go.Proofs.YtkcnfbhmjcbgoaaDoorW.PrintMore
attribute [local go_sem] max2_int min2_int max_two min_two max_three min_three max_four min_four   -- for this text's walks alone
set_option linter.unusedVariables false
set_option linter.unusedSimpArgs false

/-! ### dancestudiolaw06_awake: function 11 -/
mutual
def dancestudiolaw06_awake.j0 : Nat → Bool → Option (Bool)
 | 0, _ => none
 | k + 1, x38 => if x38 = true then (none) else ((field_Split.f k (⟨#[97, 32, 32, 98]⟩ : ByteArray)).bind fun bt156 => ((field_Split.f k (⟨#[39, 97, 39]⟩ : ByteArray)).bind fun bt160 => ((field_Split.f k (⟨#[]⟩ : ByteArray)).bind fun bt164 => ((field_Split.f k (⟨#[97, 32]⟩ : ByteArray)).bind fun bt168 => (if bt156.2 = 2 then (if bt160.2 = 2 then (if bt164.2 = 0 then (if bt168.2 = 2 then (dancestudiolaw06_awake.j1 k ((bt164.1.length : Int) != 0)) else (dancestudiolaw06_awake.j1 k true)) else (dancestudiolaw06_awake.j1 k true)) else (dancestudiolaw06_awake.j1 k true)) else (dancestudiolaw06_awake.j1 k true))))))
def dancestudiolaw06_awake.j1 : Nat → Bool → Option (Bool)
 | 0, _ => none
 | k + 1, x73 => if x73 = true then (none) else ((field_Lines.f k (⟨#[97, 32, 98, 10, 10, 37, 32, 99, 10, 100, 10]⟩ : ByteArray)).bind fun bt172 => ((field_Lines.f k (⟨#[97]⟩ : ByteArray)).bind fun bt176 => (if bt172.2 = 0 then (if bt176.2 = 2 then ((dancestudioref06_SameLines.f k bt172.1 (([(([(⟨#[97]⟩ : ByteArray), (⟨#[98]⟩ : ByteArray)] : List ByteArray)), (([(⟨#[100]⟩ : ByteArray)] : List ByteArray))] : List (List ByteArray)))).bind fun t189 => (dancestudiolaw06_awake.j2 k (!t189))) else (dancestudiolaw06_awake.j2 k true)) else (dancestudiolaw06_awake.j2 k true))))
def dancestudiolaw06_awake.j2 : Nat → Bool → Option (Bool)
 | 0, _ => none
 | k + 1, x95 => if x95 = true then (none) else ((field_Number.f k (⟨#[45, 49, 50]⟩ : ByteArray)).bind fun bt190 => ((field_Number.f k (⟨#[48, 48, 55]⟩ : ByteArray)).bind fun bt192 => ((field_Number.f k (⟨#[45, 48]⟩ : ByteArray)).bind fun bt194 => ((field_Number.f k (⟨#[49, 49, 50, 53, 56, 57, 57, 57, 48, 54, 56, 52, 50, 54, 50, 53]⟩ : ByteArray)).bind fun bt196 => (if bt190.1 = (-12) then (if bt190.2 = 0 then (if bt192.2 = 2 then (if bt194.2 = 2 then (some (bt196.2 == 1)) else (none)) else (none)) else (none)) else (none))))))
end
def dancestudiolaw06_awake.f (k : Nat)  : Option (Bool) := (some (([(⟨#[97]⟩ : ByteArray), (⟨#[]⟩ : ByteArray), (⟨#[105, 116, 39, 115]⟩ : ByteArray), (⟨#[39, 120]⟩ : ByteArray), (⟨#[98, 32, 99]⟩ : ByteArray)] : List ByteArray) : List ByteArray)).bind fun y146 => ((field_Join.f k y146).bind fun bt149 => ((field_Split.f k bt149.1).bind fun bt151 => (if bt149.2 = 0 then (if bt151.2 = 0 then (if bt149.1.toList = ([97, 32, 39, 39, 32, 105, 116, 39, 115, 32, 39, 39, 39, 120, 39, 32, 39, 98, 32, 99, 39] : List UInt8) then ((dancestudioref06_Same.f k bt151.1 y146).bind fun t155 => (dancestudiolaw06_awake.j0 k (!t155))) else (dancestudiolaw06_awake.j0 k true)) else (dancestudiolaw06_awake.j0 k true)) else (dancestudiolaw06_awake.j0 k true))))
theorem dancestudiolaw06_awake.mono_l : ∀ k, (∀ y0, LeO (dancestudiolaw06_awake.j0 k y0) (dancestudiolaw06_awake.j0 (k + 1) y0)) ∧ (∀ y0, LeO (dancestudiolaw06_awake.j1 k y0) (dancestudiolaw06_awake.j1 (k + 1) y0)) ∧ (∀ y0, LeO (dancestudiolaw06_awake.j2 k y0) (dancestudiolaw06_awake.j2 (k + 1) y0))
 | 0 => ⟨fun _ r h => by simp [dancestudiolaw06_awake.j0] at h, fun _ r h => by simp [dancestudiolaw06_awake.j1] at h, fun _ r h => by simp [dancestudiolaw06_awake.j2] at h⟩
 | k + 1 => by
  obtain ⟨ih0, ih1, ih2⟩ := dancestudiolaw06_awake.mono_l k
  refine ⟨?_, ?_, ?_⟩
  ·
   intro y0
   unfold dancestudiolaw06_awake.j0
   repeat' first
   | (with_reducible exact ih0 _)
   | (with_reducible exact ih1 _)
   | (with_reducible exact ih2 _)
   | (with_reducible exact dancestudioref06_Same.mono _ _ _)
   | (with_reducible exact dancestudioref06_SameLines.mono _ _ _)
   | (with_reducible exact field_Join.mono _ _)
   | (with_reducible exact field_Lines.mono _ _)
   | (with_reducible exact field_Number.mono _ _)
   | (with_reducible exact field_Split.mono _ _)
   | (with_reducible exact LeO.refl _)
   | (with_reducible exact LeO.none _)
   | (with_reducible refine LeO.ite ?_ ?_)
   | (with_reducible refine LeO.bind ?_ (fun _ => ?_))
   | exact ih0 _
   | exact ih1 _
   | exact ih2 _
   | exact dancestudioref06_Same.mono _ _ _
   | exact dancestudioref06_SameLines.mono _ _ _
   | exact field_Join.mono _ _
   | exact field_Lines.mono _ _
   | exact field_Number.mono _ _
   | exact field_Split.mono _ _
   | exact LeO.none _
   | refine LeO.ite ?_ ?_
   | refine LeO.bind ?_ (fun _ => ?_)
  ·
   intro y0
   unfold dancestudiolaw06_awake.j1
   repeat' first
   | (with_reducible exact ih0 _)
   | (with_reducible exact ih1 _)
   | (with_reducible exact ih2 _)
   | (with_reducible exact dancestudioref06_Same.mono _ _ _)
   | (with_reducible exact dancestudioref06_SameLines.mono _ _ _)
   | (with_reducible exact field_Join.mono _ _)
   | (with_reducible exact field_Lines.mono _ _)
   | (with_reducible exact field_Number.mono _ _)
   | (with_reducible exact field_Split.mono _ _)
   | (with_reducible exact LeO.refl _)
   | (with_reducible exact LeO.none _)
   | (with_reducible refine LeO.ite ?_ ?_)
   | (with_reducible refine LeO.bind ?_ (fun _ => ?_))
   | exact ih0 _
   | exact ih1 _
   | exact ih2 _
   | exact dancestudioref06_Same.mono _ _ _
   | exact dancestudioref06_SameLines.mono _ _ _
   | exact field_Join.mono _ _
   | exact field_Lines.mono _ _
   | exact field_Number.mono _ _
   | exact field_Split.mono _ _
   | exact LeO.none _
   | refine LeO.ite ?_ ?_
   | refine LeO.bind ?_ (fun _ => ?_)
  ·
   intro y0
   unfold dancestudiolaw06_awake.j2
   repeat' first
   | (with_reducible exact ih0 _)
   | (with_reducible exact ih1 _)
   | (with_reducible exact ih2 _)
   | (with_reducible exact dancestudioref06_Same.mono _ _ _)
   | (with_reducible exact dancestudioref06_SameLines.mono _ _ _)
   | (with_reducible exact field_Join.mono _ _)
   | (with_reducible exact field_Lines.mono _ _)
   | (with_reducible exact field_Number.mono _ _)
   | (with_reducible exact field_Split.mono _ _)
   | (with_reducible exact LeO.refl _)
   | (with_reducible exact LeO.none _)
   | (with_reducible refine LeO.ite ?_ ?_)
   | (with_reducible refine LeO.bind ?_ (fun _ => ?_))
   | exact ih0 _
   | exact ih1 _
   | exact ih2 _
   | exact dancestudioref06_Same.mono _ _ _
   | exact dancestudioref06_SameLines.mono _ _ _
   | exact field_Join.mono _ _
   | exact field_Lines.mono _ _
   | exact field_Number.mono _ _
   | exact field_Split.mono _ _
   | exact LeO.none _
   | refine LeO.ite ?_ ?_
   | refine LeO.bind ?_ (fun _ => ?_)
theorem dancestudiolaw06_awake.mono : ∀ k, LeO (dancestudiolaw06_awake.f k ) (dancestudiolaw06_awake.f (k + 1) ) := by
 intro  k
 obtain ⟨ih0, ih1, ih2⟩ := dancestudiolaw06_awake.mono_l k
 unfold dancestudiolaw06_awake.f
 repeat' first
   | (with_reducible exact ih0 _)
   | (with_reducible exact ih1 _)
   | (with_reducible exact ih2 _)
   | (with_reducible exact dancestudioref06_Same.mono _ _ _)
   | (with_reducible exact dancestudioref06_SameLines.mono _ _ _)
   | (with_reducible exact field_Join.mono _ _)
   | (with_reducible exact field_Lines.mono _ _)
   | (with_reducible exact field_Number.mono _ _)
   | (with_reducible exact field_Split.mono _ _)
   | (with_reducible exact LeO.refl _)
   | (with_reducible exact LeO.none _)
   | (with_reducible refine LeO.ite ?_ ?_)
   | (with_reducible refine LeO.bind ?_ (fun _ => ?_))
   | exact ih0 _
   | exact ih1 _
   | exact ih2 _
   | exact dancestudioref06_Same.mono _ _ _
   | exact dancestudioref06_SameLines.mono _ _ _
   | exact field_Join.mono _ _
   | exact field_Lines.mono _ _
   | exact field_Number.mono _ _
   | exact field_Split.mono _ _
   | exact LeO.none _
   | refine LeO.ite ?_ ?_
   | refine LeO.bind ?_ (fun _ => ?_)
set_option maxHeartbeats 8000000 in
set_option maxRecDepth 100000 in
theorem dancestudiolaw06_awake.calls (k : Nat)  (r : Bool) (w : World) (hmx : Mx w) (h : dancestudiolaw06_awake.f k  = some r) :
  Calls Tryd.prog 11 #[] w fun e w' => e = .returned (.bool r) ∧ Below w.heap.size w w' := by
 have HMX_ := Aside0.mk hmx
 clear hmx
 have HB := Aside0.mk (Below.refl w.heap.size w)
 have H : ((some (([(⟨#[97]⟩ : ByteArray), (⟨#[]⟩ : ByteArray), (⟨#[105, 116, 39, 115]⟩ : ByteArray), (⟨#[39, 120]⟩ : ByteArray), (⟨#[98, 32, 99]⟩ : ByteArray)] : List ByteArray) : List ByteArray)).bind fun y146 => ((field_Join.f k y146).bind fun bt149 => ((field_Split.f k bt149.1).bind fun bt151 => (if bt149.2 = 0 then (if bt151.2 = 0 then (if bt149.1.toList = ([97, 32, 39, 39, 32, 105, 116, 39, 115, 32, 39, 39, 39, 120, 39, 32, 39, 98, 32, 99, 39] : List UInt8) then ((dancestudioref06_Same.f k bt151.1 y146).bind fun t155 => (dancestudiolaw06_awake.j0 k (!t155))) else (dancestudiolaw06_awake.j0 k true)) else (dancestudiolaw06_awake.j0 k true)) else (dancestudiolaw06_awake.j0 k true))))) = some r := h
 clear h
 obtain ⟨y146, hy146⟩ : ∃ y_ : List ByteArray, y_ = (([(⟨#[97]⟩ : ByteArray), (⟨#[]⟩ : ByteArray), (⟨#[105, 116, 39, 115]⟩ : ByteArray), (⟨#[39, 120]⟩ : ByteArray), (⟨#[98, 32, 99]⟩ : ByteArray)] : List ByteArray)) := ⟨_, rfl⟩
 replace H : ((field_Join.f k y146).bind fun bt149 => ((field_Split.f k bt149.1).bind fun bt151 => (if bt149.2 = 0 then (if bt151.2 = 0 then (if bt149.1.toList = ([97, 32, 39, 39, 32, 105, 116, 39, 115, 32, 39, 39, 39, 120, 39, 32, 39, 98, 32, 99, 39] : List UInt8) then ((dancestudioref06_Same.f k bt151.1 y146).bind fun t155 => (dancestudiolaw06_awake.j0 k (!t155))) else (dancestudiolaw06_awake.j0 k true)) else (dancestudiolaw06_awake.j0 k true)) else (dancestudiolaw06_awake.j0 k true)))) = some r := by first | (rw [hy146]; with_reducible exact H) | (have H2_ := (Option.bind_some _ _).symm.trans H; rw [hy146]; with_reducible exact H2_) | (have H2_ := (Option.bind_some _ _).symm.trans H; with_reducible exact H2_) | with_reducible exact H | (rw [hy146]; exact H) | exact H
 have Ny146 := Aside0.mk hy146
 clear hy146
 replace H := Option.bind_eq_some_iff.mp H
 obtain ⟨⟨t149, t150⟩, A10, H⟩ := H
 replace H : ((field_Split.f k t149).bind fun bt151 => (if t150 = 0 then (if bt151.2 = 0 then (if t149.toList = ([97, 32, 39, 39, 32, 105, 116, 39, 115, 32, 39, 39, 39, 120, 39, 32, 39, 98, 32, 99, 39] : List UInt8) then ((dancestudioref06_Same.f k bt151.1 y146).bind fun t155 => (dancestudiolaw06_awake.j0 k (!t155))) else (dancestudiolaw06_awake.j0 k true)) else (dancestudiolaw06_awake.j0 k true)) else (dancestudiolaw06_awake.j0 k true))) = some r := H
 have A1 := Aside0.mk A10
 clear A10
 replace H := Option.bind_eq_some_iff.mp H
 obtain ⟨⟨t151, t152⟩, A20, H⟩ := H
 replace H : (if t150 = 0 then (if t152 = 0 then (if t149.toList = ([97, 32, 39, 39, 32, 105, 116, 39, 115, 32, 39, 39, 39, 120, 39, 32, 39, 98, 32, 99, 39] : List UInt8) then ((dancestudioref06_Same.f k t151 y146).bind fun t155 => (dancestudiolaw06_awake.j0 k (!t155))) else (dancestudiolaw06_awake.j0 k true)) else (dancestudiolaw06_awake.j0 k true)) else (dancestudiolaw06_awake.j0 k true)) = some r := H
 have A2 := Aside0.mk A20
 clear A20
 have HC3 := Aside0.mk H
 clear H
 go_enter Tryd.func11, Tryd.ntmps11
 go_upto_region 4 with (first | ((with_reducible refine gate_dst (N := 12) rfl ?_); (try (refine gate_guard (by rfl) ?_; dsimp only)); refine Kd.R_lit Kd.string _ 9 ?hg (N := 12) ?hd (xs := ([(⟨#[97]⟩ : ByteArray), (⟨#[]⟩ : ByteArray), (⟨#[105, 116, 39, 115]⟩ : ByteArray), (⟨#[39, 120]⟩ : ByteArray), (⟨#[98, 32, 99]⟩ : ByteArray)] : List ByteArray)) (inner := [.string (⟨#[97]⟩ : ByteArray), .string (⟨#[]⟩ : ByteArray), .string (⟨#[105, 116, 39, 115]⟩ : ByteArray), .string (⟨#[39, 120]⟩ : ByteArray), .string (⟨#[98, 32, 99]⟩ : ByteArray)]) (ok := fun _ => True) (okp := fun _ => True) ?hr ?hp (fun _ hk => hk) trivial (Below.refl _ _) (Nat.le_refl _) (by simp) ?_; (case hd => rfl); (case hg => rfl); (case hr => first | (go_simp; done) | (go_simp; rfl)); (case hp => exact (Reps.one (show Kd.M Kd.string _ _ _ (⟨#[97]⟩ : ByteArray) [.string (⟨#[97]⟩ : ByteArray)] from rfl) (Reps.one (show Kd.M Kd.string _ _ _ (⟨#[]⟩ : ByteArray) [.string (⟨#[]⟩ : ByteArray)] from rfl) (Reps.one (show Kd.M Kd.string _ _ _ (⟨#[105, 116, 39, 115]⟩ : ByteArray) [.string (⟨#[105, 116, 39, 115]⟩ : ByteArray)] from rfl) (Reps.one (show Kd.M Kd.string _ _ _ (⟨#[39, 120]⟩ : ByteArray) [.string (⟨#[39, 120]⟩ : ByteArray)] from rfl) (Reps.one (show Kd.M Kd.string _ _ _ (⟨#[98, 32, 99]⟩ : ByteArray) [.string (⟨#[98, 32, 99]⟩ : ByteArray)] from rfl) (Reps.none _ _))))))); intro v147 w4 ho5 hb hg_ hnew_; clear hg_ hnew_; (first | rw [← Ny146.out] at ho5 | (simp only [Int.reduceToNat] at ho5; rw [← Ny146.out] at ho5)); have n0_ := Aside0.mk (Kd.R_lower ho5 (below_size (by repeat (first | (with_reducible first | exact HB.out | apply below_alloc | apply pw_below_drewN | apply below_drew1) | exact HB.out)))); have n1_ := Aside0.mk (below_step (by repeat (first | (with_reducible first | exact HB.out | apply below_alloc | apply pw_below_drewN | apply below_drew1) | exact HB.out)) hb); clear HB; have HO148 := n0_; have HB := n1_; clear n0_ n1_; clear hb ho5; obtain ⟨Ao6, co6, eo6⟩ := Kd.R_slice HO148.out; subst eo6) | ((with_reducible refine gate_callee (f := 12) rfl ?_); refine goesL_ (some 15) rfl rfl Tryd.func12 (by kernel_rfl) rfl #[.slice Ao6 y146.length co6] rfl (by (try simp only [List.map_toArray, List.map_cons, List.map_nil]); first | done | rfl | (simp only [List.length_drop, List.length_take]; rfl)) ?_; (with_reducible refine (field_Join.calls k _ _ y146 t149 t150 _ ?side1 ?side2 ?sidem_ A1.out).mono ?_); (case sidem_ => first | ((repeat (first | exact HMX_.out | apply Mx.drewN | apply Mx.drew)); done) | (refine Mx.below HMX_.out ?_; (repeat (first | (with_reducible first | exact HB.out | apply below_alloc | apply pw_below_drewN | apply below_drew1) | exact HB.out)); done)); (case side1 => repeat (first | exact (Kd.R_reads' HO148.out).2.2 | (with_reducible refine Kd.C_alloc ?_ _) | (with_reducible refine Kd.C_drewN ?_ _) | (with_reducible refine Kd.C_drew ?_))); (case side2 => exact (Kd.R_reads' HO148.out).2.1); rintro e w7 ⟨rfl, hb⟩; refine ⟨_, rfl, ?_⟩; have n0_ := Aside0.mk (Kd.R_below (by (with_reducible repeat (first | apply Kd.R_alloc | apply Kd.R_drewN | apply Kd.R_drew)); exact HO148.out) hb); have n1_ := Aside0.mk (below_step (by repeat (first | (with_reducible first | exact HB.out | apply below_alloc | apply pw_below_drewN | apply below_drew1) | exact HB.out)) hb); clear HO148; clear HB; have HO148 := n0_; have HB := n1_; clear n0_ n1_; (try clear hb); (try clear hb2); (try clear hk); (try clear hi)) | ((with_reducible refine gate_callee (f := 14) rfl ?_); refine goesL_ (some 20) rfl rfl Tryd.func14 (by kernel_rfl) rfl #[.string t149] rfl (by (try simp only [List.map_toArray, List.map_cons, List.map_nil]); first | done | rfl | (simp only [List.length_drop, List.length_take]; rfl)) ?_; (with_reducible refine (field_Split.calls k t149 t151 t152 _ ?sidem_ A2.out).mono ?_); (case sidem_ => first | ((repeat (first | exact HMX_.out | apply Mx.drewN | apply Mx.drew)); done) | (refine Mx.below HMX_.out ?_; (repeat (first | (with_reducible first | exact HB.out | apply below_alloc | apply pw_below_drewN | apply below_drew1) | exact HB.out)); done)); rintro e w8 ⟨v153, rfl, ho0, hb⟩; refine ⟨_, rfl, ?_⟩; have n0_ := Aside0.mk (Kd.R_elder' (by (with_reducible repeat (first | apply Kd.R_alloc | apply Kd.R_drewN | apply Kd.R_drew)); exact HO148.out) (Kd.R_base ho0) hb); have n1_ := Aside0.mk (Kd.R_lower (Kd.R_new' ho0 (Kd.R_lt (by (with_reducible repeat (first | apply Kd.R_alloc | apply Kd.R_drewN | apply Kd.R_drew)); exact HO148.out))) (below_size (by repeat (first | (with_reducible first | exact HB.out | apply below_alloc | apply pw_below_drewN | apply below_drew1) | exact HB.out)))); have n2_ := Aside0.mk (below_step (by repeat (first | (with_reducible first | exact HB.out | apply below_alloc | apply pw_below_drewN | apply below_drew1) | exact HB.out)) hb); clear HO148; clear HB; have HO148 := n0_; have HO154 := n1_; have HB := n2_; clear n0_ n1_ n2_; (try clear hb); (try clear hb2); (try clear hk); (try clear hi); (try clear ho0)))
 (try simp only [Act.put, List.setIfInBounds_toArray, List.set_cons_zero, List.set_cons_succ])
 go_cut [38] (fun v38 wc => ∃ (kq : Nat) (x38_2 : Bool), v38 = .bool x38_2 ∧ Aside0 (dancestudiolaw06_awake.j0 kq x38_2 = some r) ∧ Aside0 (kq ≤ k) ∧ Aside0 (Below w.heap.size w wc))
 case first =>
  have H := HC3.out
  clear HC3
  by_cases c9 : t150 = 0
  ·
   rw [if_pos c9] at H
   have c9b0 : (t150 == 0) = true := beq_iff_eq.mpr c9
   have c9b1 : (t150 != 0) = false := bne_eq_false_iff_eq.mpr c9
   clear c9
   (first | rw [c9b0] | (simp only [i64_w, i32_w]; rw [c9b0]) | skip)
   by_cases c10 : t152 = 0
   ·
    rw [if_pos c10] at H
    have c10b0 : (t152 == 0) = true := beq_iff_eq.mpr c10
    have c10b1 : (t152 != 0) = false := bne_eq_false_iff_eq.mpr c10
    clear c10
    by_cases c11 : t149.toList = ([97, 32, 39, 39, 32, 105, 116, 39, 115, 32, 39, 39, 39, 120, 39, 32, 39, 98, 32, 99, 39] : List UInt8)
    ·
     rw [if_pos c11] at H
     have c11b0 : (t149.toList == ([97, 32, 39, 39, 32, 105, 116, 39, 115, 32, 39, 39, 39, 120, 39, 32, 39, 98, 32, 99, 39] : List UInt8)) = true := beq_iff_eq.mpr c11
     have c11b1 : (t149.toList != ([97, 32, 39, 39, 32, 105, 116, 39, 115, 32, 39, 39, 39, 120, 39, 32, 39, 98, 32, 99, 39] : List UInt8)) = false := bne_eq_false_iff_eq.mpr c11
     clear c11
     replace H := Option.bind_eq_some_iff.mp H
     obtain ⟨t155, A120, H⟩ := H
     replace H : (dancestudiolaw06_awake.j0 k (!t155)) = some r := H
     have A12 := Aside0.mk A120
     clear A120
     have H' := Aside0.mk H
     clear H
     obtain ⟨Ao13, co13, eo13⟩ := Kd.R_slice HO154.out
     subst eo13
     go_wp2_with (first | (go_at_call 16; (with_reducible refine (dancestudioref06_Same.calls k _ _ t151 _ _ y146 t155 _ ?side1 ?side2 ?side3 ?side4 A12.out).mono ?_); (case side1 => repeat (first | exact (Kd.R_reads' HO154.out).2.2 | (with_reducible refine Kd.C_alloc ?_ _) | (with_reducible refine Kd.C_drewN ?_ _) | (with_reducible refine Kd.C_drew ?_))); (case side2 => exact (Kd.R_reads' HO154.out).2.1); (case side3 => repeat (first | exact (Kd.R_reads' HO148.out).2.2 | (with_reducible refine Kd.C_alloc ?_ _) | (with_reducible refine Kd.C_drewN ?_ _) | (with_reducible refine Kd.C_drew ?_))); (case side4 => exact (Kd.R_reads' HO148.out).2.1); rintro e w' ⟨rfl, ⟨nd, rfl⟩⟩))
     go_meet
     case rel => exact ⟨_, (!t155), (by first | rfl | (simp; done) | (simp [*]; done)), H', ⟨by first | omega | exact Nat.le_refl _⟩, ⟨by repeat (first | (with_reducible first | exact HB.out | apply below_alloc | apply pw_below_drewN | apply below_drew1) | exact HB.out)⟩⟩
    ·
     rw [if_neg c11] at H
     have c11b0 : (t149.toList == ([97, 32, 39, 39, 32, 105, 116, 39, 115, 32, 39, 39, 39, 120, 39, 32, 39, 98, 32, 99, 39] : List UInt8)) = false := beq_eq_false_iff_ne.mpr c11
     have c11b1 : (t149.toList != ([97, 32, 39, 39, 32, 105, 116, 39, 115, 32, 39, 39, 39, 120, 39, 32, 39, 98, 32, 99, 39] : List UInt8)) = true := bne_iff_ne.mpr c11
     have H' := Aside0.mk H
     clear H
     go_wp2
     go_meet
     case rel => exact ⟨_, (true), (by first | rfl | (simp; done) | (simp [*]; done)), H', ⟨by first | omega | exact Nat.le_refl _⟩, ⟨by repeat (first | (with_reducible first | exact HB.out | apply below_alloc | apply pw_below_drewN | apply below_drew1) | exact HB.out)⟩⟩
   ·
    rw [if_neg c10] at H
    have c10b0 : (t152 == 0) = false := beq_eq_false_iff_ne.mpr c10
    have c10b1 : (t152 != 0) = true := bne_iff_ne.mpr c10
    have H' := Aside0.mk H
    clear H
    go_wp2
    go_meet
    case rel => exact ⟨_, (true), (by first | rfl | (simp; done) | (simp [*]; done)), H', ⟨by first | omega | exact Nat.le_refl _⟩, ⟨by repeat (first | (with_reducible first | exact HB.out | apply below_alloc | apply pw_below_drewN | apply below_drew1) | exact HB.out)⟩⟩
  ·
   rw [if_neg c9] at H
   have c9b0 : (t150 == 0) = false := beq_eq_false_iff_ne.mpr c9
   have c9b1 : (t150 != 0) = true := bne_iff_ne.mpr c9
   (first | rw [c9b0] | (simp only [i64_w, i32_w]; rw [c9b0]) | skip)
   have H' := Aside0.mk H
   clear H
   go_wp2
   go_meet
   case rel => exact ⟨_, (true), (by first | rfl | (simp; done) | (simp [*]; done)), H', ⟨by first | omega | exact Nat.le_refl _⟩, ⟨by repeat (first | (with_reducible first | exact HB.out | apply below_alloc | apply pw_below_drewN | apply below_drew1) | exact HB.out)⟩⟩
 case rest =>
  clear HC3
  try clear c1
  try clear p2
  try clear c9
  try clear c9b0
  try clear c9b1
  try clear c10
  try clear c10b0
  try clear c10b1
  try clear c11
  try clear c11b0
  try clear c11b1
  try clear c12
  obtain ⟨kq, x38_2, rfl, HA, HJ2, HB⟩ := hcut
  cases kq with
  | zero => exact absurd HA.out (by simp [dancestudiolaw06_awake.j0])
  | succ kj2 =>
   have H := HA.out
   clear HA
   simp only [dancestudiolaw06_awake.j0] at H
   by_cases c14 : x38_2 = true
   ·
    subst c14
    have H1 : (none) = some r := by rw [if_pos rfl] at H; exact H
    clear H
    have H := H1
    clear H1
    exact absurd H (by simp)
   ·
    replace c14 := Bool.eq_false_iff.mpr c14
    subst c14
    have H1 : ((field_Split.f kj2 (⟨#[97, 32, 32, 98]⟩ : ByteArray)).bind fun bt156 => ((field_Split.f kj2 (⟨#[39, 97, 39]⟩ : ByteArray)).bind fun bt160 => ((field_Split.f kj2 (⟨#[]⟩ : ByteArray)).bind fun bt164 => ((field_Split.f kj2 (⟨#[97, 32]⟩ : ByteArray)).bind fun bt168 => (if bt156.2 = 2 then (if bt160.2 = 2 then (if bt164.2 = 0 then (if bt168.2 = 2 then (dancestudiolaw06_awake.j1 kj2 ((bt164.1.length : Int) != 0)) else (dancestudiolaw06_awake.j1 kj2 true)) else (dancestudiolaw06_awake.j1 kj2 true)) else (dancestudiolaw06_awake.j1 kj2 true)) else (dancestudiolaw06_awake.j1 kj2 true)))))) = some r := by rw [if_neg (show ¬ (false = true) by decide)] at H; exact H
    clear H
    have H := H1
    clear H1
    replace H := Option.bind_eq_some_iff.mp H
    obtain ⟨⟨t156, t157⟩, A150, H⟩ := H
    replace H : ((field_Split.f kj2 (⟨#[39, 97, 39]⟩ : ByteArray)).bind fun bt160 => ((field_Split.f kj2 (⟨#[]⟩ : ByteArray)).bind fun bt164 => ((field_Split.f kj2 (⟨#[97, 32]⟩ : ByteArray)).bind fun bt168 => (if t157 = 2 then (if bt160.2 = 2 then (if bt164.2 = 0 then (if bt168.2 = 2 then (dancestudiolaw06_awake.j1 kj2 ((bt164.1.length : Int) != 0)) else (dancestudiolaw06_awake.j1 kj2 true)) else (dancestudiolaw06_awake.j1 kj2 true)) else (dancestudiolaw06_awake.j1 kj2 true)) else (dancestudiolaw06_awake.j1 kj2 true))))) = some r := H
    have A15 := Aside0.mk A150
    clear A150
    replace H := Option.bind_eq_some_iff.mp H
    obtain ⟨⟨t160, t161⟩, A160, H⟩ := H
    replace H : ((field_Split.f kj2 (⟨#[]⟩ : ByteArray)).bind fun bt164 => ((field_Split.f kj2 (⟨#[97, 32]⟩ : ByteArray)).bind fun bt168 => (if t157 = 2 then (if t161 = 2 then (if bt164.2 = 0 then (if bt168.2 = 2 then (dancestudiolaw06_awake.j1 kj2 ((bt164.1.length : Int) != 0)) else (dancestudiolaw06_awake.j1 kj2 true)) else (dancestudiolaw06_awake.j1 kj2 true)) else (dancestudiolaw06_awake.j1 kj2 true)) else (dancestudiolaw06_awake.j1 kj2 true)))) = some r := H
    have A16 := Aside0.mk A160
    clear A160
    replace H := Option.bind_eq_some_iff.mp H
    obtain ⟨⟨t164, t165⟩, A170, H⟩ := H
    replace H : ((field_Split.f kj2 (⟨#[97, 32]⟩ : ByteArray)).bind fun bt168 => (if t157 = 2 then (if t161 = 2 then (if t165 = 0 then (if bt168.2 = 2 then (dancestudiolaw06_awake.j1 kj2 ((t164.length : Int) != 0)) else (dancestudiolaw06_awake.j1 kj2 true)) else (dancestudiolaw06_awake.j1 kj2 true)) else (dancestudiolaw06_awake.j1 kj2 true)) else (dancestudiolaw06_awake.j1 kj2 true))) = some r := H
    have A17 := Aside0.mk A170
    clear A170
    replace H := Option.bind_eq_some_iff.mp H
    obtain ⟨⟨t168, t169⟩, A180, H⟩ := H
    replace H : (if t157 = 2 then (if t161 = 2 then (if t165 = 0 then (if t169 = 2 then (dancestudiolaw06_awake.j1 kj2 ((t164.length : Int) != 0)) else (dancestudiolaw06_awake.j1 kj2 true)) else (dancestudiolaw06_awake.j1 kj2 true)) else (dancestudiolaw06_awake.j1 kj2 true)) else (dancestudiolaw06_awake.j1 kj2 true)) = some r := H
    have A18 := Aside0.mk A180
    clear A180
    have HC19 := Aside0.mk H
    clear H
    go_upto_region 10 with (first | ((with_reducible refine gate_callee (f := 14) rfl ?_); refine goesL_ (some 40) rfl rfl Tryd.func14 (by kernel_rfl) rfl #[.string (⟨#[97, 32, 32, 98]⟩ : ByteArray)] rfl (by (try simp only [List.map_toArray, List.map_cons, List.map_nil]); first | done | rfl | (simp only [List.length_drop, List.length_take]; rfl)) ?_; (with_reducible refine (field_Split.calls kj2 (⟨#[97, 32, 32, 98]⟩ : ByteArray) t156 t157 _ ?sidem_ A15.out).mono ?_); (case sidem_ => first | ((repeat (first | exact HMX_.out | apply Mx.drewN | apply Mx.drew)); done) | (refine Mx.below HMX_.out ?_; (repeat (first | (with_reducible first | exact HB.out | apply below_alloc | apply pw_below_drewN | apply below_drew1) | exact HB.out)); done)); rintro e w20 ⟨v158, rfl, ho0, hb⟩; refine ⟨_, rfl, ?_⟩; have n0_ := Aside0.mk (Kd.R_lower ho0 (below_size (by repeat (first | (with_reducible first | exact HB.out | apply below_alloc | apply pw_below_drewN | apply below_drew1) | exact HB.out)))); have n1_ := Aside0.mk (below_step (by repeat (first | (with_reducible first | exact HB.out | apply below_alloc | apply pw_below_drewN | apply below_drew1) | exact HB.out)) hb); clear HB; have HO159 := n0_; have HB := n1_; clear n0_ n1_; (try clear hb); (try clear hb2); (try clear hk); (try clear hi); (try clear ho0)) | ((with_reducible refine gate_callee (f := 14) rfl ?_); refine goesL_ (some 44) rfl rfl Tryd.func14 (by kernel_rfl) rfl #[.string (⟨#[39, 97, 39]⟩ : ByteArray)] rfl (by (try simp only [List.map_toArray, List.map_cons, List.map_nil]); first | done | rfl | (simp only [List.length_drop, List.length_take]; rfl)) ?_; (with_reducible refine (field_Split.calls kj2 (⟨#[39, 97, 39]⟩ : ByteArray) t160 t161 _ ?sidem_ A16.out).mono ?_); (case sidem_ => first | ((repeat (first | exact HMX_.out | apply Mx.drewN | apply Mx.drew)); done) | (refine Mx.below HMX_.out ?_; (repeat (first | (with_reducible first | exact HB.out | apply below_alloc | apply pw_below_drewN | apply below_drew1) | exact HB.out)); done)); rintro e w21 ⟨v162, rfl, ho0, hb⟩; refine ⟨_, rfl, ?_⟩; have n0_ := Aside0.mk (Kd.R_elder' (by (with_reducible repeat (first | apply Kd.R_alloc | apply Kd.R_drewN | apply Kd.R_drew)); exact HO159.out) (Kd.R_base ho0) hb); have n1_ := Aside0.mk (Kd.R_lower (Kd.R_new' ho0 (Kd.R_lt (by (with_reducible repeat (first | apply Kd.R_alloc | apply Kd.R_drewN | apply Kd.R_drew)); exact HO159.out))) (below_size (by repeat (first | (with_reducible first | exact HB.out | apply below_alloc | apply pw_below_drewN | apply below_drew1) | exact HB.out)))); have n2_ := Aside0.mk (below_step (by repeat (first | (with_reducible first | exact HB.out | apply below_alloc | apply pw_below_drewN | apply below_drew1) | exact HB.out)) hb); clear HO159; clear HB; have HO159 := n0_; have HO163 := n1_; have HB := n2_; clear n0_ n1_ n2_; (try clear hb); (try clear hb2); (try clear hk); (try clear hi); (try clear ho0)) | ((with_reducible refine gate_callee (f := 14) rfl ?_); refine goesL_ (some 48) rfl rfl Tryd.func14 (by kernel_rfl) rfl #[.string (⟨#[]⟩ : ByteArray)] rfl (by (try simp only [List.map_toArray, List.map_cons, List.map_nil]); first | done | rfl | (simp only [List.length_drop, List.length_take]; rfl)) ?_; (with_reducible refine (field_Split.calls kj2 (⟨#[]⟩ : ByteArray) t164 t165 _ ?sidem_ A17.out).mono ?_); (case sidem_ => first | ((repeat (first | exact HMX_.out | apply Mx.drewN | apply Mx.drew)); done) | (refine Mx.below HMX_.out ?_; (repeat (first | (with_reducible first | exact HB.out | apply below_alloc | apply pw_below_drewN | apply below_drew1) | exact HB.out)); done)); rintro e w22 ⟨v166, rfl, ho0, hb⟩; refine ⟨_, rfl, ?_⟩; have n0_ := Aside0.mk (Kd.R_elder' (by (with_reducible repeat (first | apply Kd.R_alloc | apply Kd.R_drewN | apply Kd.R_drew)); exact HO159.out) (Kd.R_base ho0) hb); have n1_ := Aside0.mk (Kd.R_elder' (by (with_reducible repeat (first | apply Kd.R_alloc | apply Kd.R_drewN | apply Kd.R_drew)); exact HO163.out) (Kd.R_base ho0) hb); have n2_ := Aside0.mk (Kd.R_lower (Kd.R_new' (Kd.R_new' ho0 (Kd.R_lt (by (with_reducible repeat (first | apply Kd.R_alloc | apply Kd.R_drewN | apply Kd.R_drew)); exact HO159.out))) (Kd.R_lt (by (with_reducible repeat (first | apply Kd.R_alloc | apply Kd.R_drewN | apply Kd.R_drew)); exact HO163.out))) (below_size (by repeat (first | (with_reducible first | exact HB.out | apply below_alloc | apply pw_below_drewN | apply below_drew1) | exact HB.out)))); have n3_ := Aside0.mk (below_step (by repeat (first | (with_reducible first | exact HB.out | apply below_alloc | apply pw_below_drewN | apply below_drew1) | exact HB.out)) hb); clear HO159; clear HO163; clear HB; have HO159 := n0_; have HO163 := n1_; have HO167 := n2_; have HB := n3_; clear n0_ n1_ n2_ n3_; (try clear hb); (try clear hb2); (try clear hk); (try clear hi); (try clear ho0)) | ((with_reducible refine gate_callee (f := 14) rfl ?_); refine goesL_ (some 52) rfl rfl Tryd.func14 (by kernel_rfl) rfl #[.string (⟨#[97, 32]⟩ : ByteArray)] rfl (by (try simp only [List.map_toArray, List.map_cons, List.map_nil]); first | done | rfl | (simp only [List.length_drop, List.length_take]; rfl)) ?_; (with_reducible refine (field_Split.calls kj2 (⟨#[97, 32]⟩ : ByteArray) t168 t169 _ ?sidem_ A18.out).mono ?_); (case sidem_ => first | ((repeat (first | exact HMX_.out | apply Mx.drewN | apply Mx.drew)); done) | (refine Mx.below HMX_.out ?_; (repeat (first | (with_reducible first | exact HB.out | apply below_alloc | apply pw_below_drewN | apply below_drew1) | exact HB.out)); done)); rintro e w23 ⟨v170, rfl, ho0, hb⟩; refine ⟨_, rfl, ?_⟩; have n0_ := Aside0.mk (Kd.R_elder' (by (with_reducible repeat (first | apply Kd.R_alloc | apply Kd.R_drewN | apply Kd.R_drew)); exact HO159.out) (Kd.R_base ho0) hb); have n1_ := Aside0.mk (Kd.R_elder' (by (with_reducible repeat (first | apply Kd.R_alloc | apply Kd.R_drewN | apply Kd.R_drew)); exact HO163.out) (Kd.R_base ho0) hb); have n2_ := Aside0.mk (Kd.R_elder' (by (with_reducible repeat (first | apply Kd.R_alloc | apply Kd.R_drewN | apply Kd.R_drew)); exact HO167.out) (Kd.R_base ho0) hb); have n3_ := Aside0.mk (Kd.R_lower (Kd.R_new' (Kd.R_new' (Kd.R_new' ho0 (Kd.R_lt (by (with_reducible repeat (first | apply Kd.R_alloc | apply Kd.R_drewN | apply Kd.R_drew)); exact HO159.out))) (Kd.R_lt (by (with_reducible repeat (first | apply Kd.R_alloc | apply Kd.R_drewN | apply Kd.R_drew)); exact HO163.out))) (Kd.R_lt (by (with_reducible repeat (first | apply Kd.R_alloc | apply Kd.R_drewN | apply Kd.R_drew)); exact HO167.out))) (below_size (by repeat (first | (with_reducible first | exact HB.out | apply below_alloc | apply pw_below_drewN | apply below_drew1) | exact HB.out)))); have n4_ := Aside0.mk (below_step (by repeat (first | (with_reducible first | exact HB.out | apply below_alloc | apply pw_below_drewN | apply below_drew1) | exact HB.out)) hb); clear HO159; clear HO163; clear HO167; clear HB; have HO159 := n0_; have HO163 := n1_; have HO167 := n2_; have HO171 := n3_; have HB := n4_; clear n0_ n1_ n2_ n3_ n4_; (try clear hb); (try clear hb2); (try clear hk); (try clear hi); (try clear ho0)))
    (try simp only [Act.put, List.setIfInBounds_toArray, List.set_cons_zero, List.set_cons_succ])
    go_cut [73] (fun v73 wc => ∃ (kq : Nat) (x73_18 : Bool), v73 = .bool x73_18 ∧ Aside0 (dancestudiolaw06_awake.j1 kq x73_18 = some r) ∧ Aside0 (kq ≤ kj2) ∧ Aside0 (Below w.heap.size w wc))
    case first =>
     have H := HC19.out
     clear HC19
     by_cases c24 : t157 = 2
     ·
      rw [if_pos c24] at H
      have c24b0 : (t157 == 2) = true := beq_iff_eq.mpr c24
      have c24b1 : (t157 != 2) = false := bne_eq_false_iff_eq.mpr c24
      clear c24
      (first | rw [c24b0] | (simp only [i64_w, i32_w]; rw [c24b0]) | skip)
      by_cases c25 : t161 = 2
      ·
       rw [if_pos c25] at H
       have c25b0 : (t161 == 2) = true := beq_iff_eq.mpr c25
       have c25b1 : (t161 != 2) = false := bne_eq_false_iff_eq.mpr c25
       clear c25
       by_cases c26 : t165 = 0
       ·
        rw [if_pos c26] at H
        have c26b0 : (t165 == 0) = true := beq_iff_eq.mpr c26
        have c26b1 : (t165 != 0) = false := bne_eq_false_iff_eq.mpr c26
        clear c26
        by_cases c27 : t169 = 2
        ·
         rw [if_pos c27] at H
         have c27b0 : (t169 == 2) = true := beq_iff_eq.mpr c27
         have c27b1 : (t169 != 2) = false := bne_eq_false_iff_eq.mpr c27
         clear c27
         have H' := Aside0.mk H
         clear H
         obtain ⟨Ao28, co28, eo28⟩ := Kd.R_slice HO167.out
         subst eo28
         go_wp2
         go_meet
         case rel => exact ⟨_, (((t164.length : Int) != 0)), (by first | rfl | (simp; done) | (simp [*]; done)), H', ⟨by have := HJ2.out; first | omega | exact Nat.le_refl _⟩, ⟨by repeat (first | (with_reducible first | exact HB.out | apply below_alloc | apply pw_below_drewN | apply below_drew1) | exact HB.out)⟩⟩
        ·
         rw [if_neg c27] at H
         have c27b0 : (t169 == 2) = false := beq_eq_false_iff_ne.mpr c27
         have c27b1 : (t169 != 2) = true := bne_iff_ne.mpr c27
         have H' := Aside0.mk H
         clear H
         go_wp2
         go_meet
         case rel => exact ⟨_, (true), (by first | rfl | (simp; done) | (simp [*]; done)), H', ⟨by have := HJ2.out; first | omega | exact Nat.le_refl _⟩, ⟨by repeat (first | (with_reducible first | exact HB.out | apply below_alloc | apply pw_below_drewN | apply below_drew1) | exact HB.out)⟩⟩
       ·
        rw [if_neg c26] at H
        have c26b0 : (t165 == 0) = false := beq_eq_false_iff_ne.mpr c26
        have c26b1 : (t165 != 0) = true := bne_iff_ne.mpr c26
        have H' := Aside0.mk H
        clear H
        go_wp2
        go_meet
        case rel => exact ⟨_, (true), (by first | rfl | (simp; done) | (simp [*]; done)), H', ⟨by have := HJ2.out; first | omega | exact Nat.le_refl _⟩, ⟨by repeat (first | (with_reducible first | exact HB.out | apply below_alloc | apply pw_below_drewN | apply below_drew1) | exact HB.out)⟩⟩
      ·
       rw [if_neg c25] at H
       have c25b0 : (t161 == 2) = false := beq_eq_false_iff_ne.mpr c25
       have c25b1 : (t161 != 2) = true := bne_iff_ne.mpr c25
       have H' := Aside0.mk H
       clear H
       go_wp2
       go_meet
       case rel => exact ⟨_, (true), (by first | rfl | (simp; done) | (simp [*]; done)), H', ⟨by have := HJ2.out; first | omega | exact Nat.le_refl _⟩, ⟨by repeat (first | (with_reducible first | exact HB.out | apply below_alloc | apply pw_below_drewN | apply below_drew1) | exact HB.out)⟩⟩
     ·
      rw [if_neg c24] at H
      have c24b0 : (t157 == 2) = false := beq_eq_false_iff_ne.mpr c24
      have c24b1 : (t157 != 2) = true := bne_iff_ne.mpr c24
      (first | rw [c24b0] | (simp only [i64_w, i32_w]; rw [c24b0]) | skip)
      have H' := Aside0.mk H
      clear H
      go_wp2
      go_meet
      case rel => exact ⟨_, (true), (by first | rfl | (simp; done) | (simp [*]; done)), H', ⟨by have := HJ2.out; first | omega | exact Nat.le_refl _⟩, ⟨by repeat (first | (with_reducible first | exact HB.out | apply below_alloc | apply pw_below_drewN | apply below_drew1) | exact HB.out)⟩⟩
    case rest =>
     clear HC19
     try clear c1
     try clear c2
     try clear p2
     try clear c9
     try clear c9b0
     try clear c9b1
     try clear c10
     try clear c10b0
     try clear c10b1
     try clear c11
     try clear c11b0
     try clear c11b1
     try clear c12
     try clear c14
     try clear c24
     try clear c24b0
     try clear c24b1
     try clear c25
     try clear c25b0
     try clear c25b1
     try clear c26
     try clear c26b0
     try clear c26b1
     try clear c27
     try clear c27b0
     try clear c27b1
     try clear p2
     obtain ⟨kq, x73_18, rfl, HA, HJ18, HB⟩ := hcut
     cases kq with
     | zero => exact absurd HA.out (by simp [dancestudiolaw06_awake.j1])
     | succ kj18 =>
      have H := HA.out
      clear HA
      simp only [dancestudiolaw06_awake.j1] at H
      by_cases c29 : x73_18 = true
      ·
       subst c29
       have H1 : (none) = some r := by rw [if_pos rfl] at H; exact H
       clear H
       have H := H1
       clear H1
       exact absurd H (by simp)
      ·
       replace c29 := Bool.eq_false_iff.mpr c29
       subst c29
       have H1 : ((field_Lines.f kj18 (⟨#[97, 32, 98, 10, 10, 37, 32, 99, 10, 100, 10]⟩ : ByteArray)).bind fun bt172 => ((field_Lines.f kj18 (⟨#[97]⟩ : ByteArray)).bind fun bt176 => (if bt172.2 = 0 then (if bt176.2 = 2 then ((dancestudioref06_SameLines.f kj18 bt172.1 (([(([(⟨#[97]⟩ : ByteArray), (⟨#[98]⟩ : ByteArray)] : List ByteArray)), (([(⟨#[100]⟩ : ByteArray)] : List ByteArray))] : List (List ByteArray)))).bind fun t189 => (dancestudiolaw06_awake.j2 kj18 (!t189))) else (dancestudiolaw06_awake.j2 kj18 true)) else (dancestudiolaw06_awake.j2 kj18 true)))) = some r := by rw [if_neg (show ¬ (false = true) by decide)] at H; exact H
       clear H
       have H := H1
       clear H1
       replace H := Option.bind_eq_some_iff.mp H
       obtain ⟨⟨t172, t173⟩, A300, H⟩ := H
       replace H : ((field_Lines.f kj18 (⟨#[97]⟩ : ByteArray)).bind fun bt176 => (if t173 = 0 then (if bt176.2 = 2 then ((dancestudioref06_SameLines.f kj18 t172 (([(([(⟨#[97]⟩ : ByteArray), (⟨#[98]⟩ : ByteArray)] : List ByteArray)), (([(⟨#[100]⟩ : ByteArray)] : List ByteArray))] : List (List ByteArray)))).bind fun t189 => (dancestudiolaw06_awake.j2 kj18 (!t189))) else (dancestudiolaw06_awake.j2 kj18 true)) else (dancestudiolaw06_awake.j2 kj18 true))) = some r := H
       have A30 := Aside0.mk A300
       clear A300
       replace H := Option.bind_eq_some_iff.mp H
       obtain ⟨⟨t176, t177⟩, A310, H⟩ := H
       replace H : (if t173 = 0 then (if t177 = 2 then ((dancestudioref06_SameLines.f kj18 t172 (([(([(⟨#[97]⟩ : ByteArray), (⟨#[98]⟩ : ByteArray)] : List ByteArray)), (([(⟨#[100]⟩ : ByteArray)] : List ByteArray))] : List (List ByteArray)))).bind fun t189 => (dancestudiolaw06_awake.j2 kj18 (!t189))) else (dancestudiolaw06_awake.j2 kj18 true)) else (dancestudiolaw06_awake.j2 kj18 true)) = some r := H
       have A31 := Aside0.mk A310
       clear A310
       have HC32 := Aside0.mk H
       clear H
       go_upto_region 14 with (first | ((with_reducible refine gate_callee (f := 17) rfl ?_); refine goesL_ (some 75) rfl rfl Tryd.func17 (by kernel_rfl) rfl #[.string (⟨#[97, 32, 98, 10, 10, 37, 32, 99, 10, 100, 10]⟩ : ByteArray)] rfl (by (try simp only [List.map_toArray, List.map_cons, List.map_nil]); first | done | rfl | (simp only [List.length_drop, List.length_take]; rfl)) ?_; (with_reducible refine (field_Lines.calls kj18 (⟨#[97, 32, 98, 10, 10, 37, 32, 99, 10, 100, 10]⟩ : ByteArray) t172 t173 _ ?sidem_ A30.out).mono ?_); (case sidem_ => first | ((repeat (first | exact HMX_.out | apply Mx.drewN | apply Mx.drew)); done) | (refine Mx.below HMX_.out ?_; (repeat (first | (with_reducible first | exact HB.out | apply below_alloc | apply pw_below_drewN | apply below_drew1) | exact HB.out)); done)); rintro e w33 ⟨v174, rfl, ho0, hb⟩; refine ⟨_, rfl, ?_⟩; have n0_ := Aside0.mk (Kd.N_lower (Kd.N_mono (ok' := fun k_ => True) (Kd.S_N (Kd.S_bound ho0)) (fun k_ hk_ => trivial)) (below_size (by repeat (first | (with_reducible first | exact HB.out | apply below_alloc | apply pw_below_drewN | apply below_drew1) | exact HB.out)))); have n1_ := Aside0.mk (below_step (by repeat (first | (with_reducible first | exact HB.out | apply below_alloc | apply pw_below_drewN | apply below_drew1) | exact HB.out)) hb); clear HB; have HO175 := n0_; have HB := n1_; clear n0_ n1_; (try clear hb); (try clear hb2); (try clear hk); (try clear hi); (try clear ho0)) | ((with_reducible refine gate_callee (f := 17) rfl ?_); refine goesL_ (some 79) rfl rfl Tryd.func17 (by kernel_rfl) rfl #[.string (⟨#[97]⟩ : ByteArray)] rfl (by (try simp only [List.map_toArray, List.map_cons, List.map_nil]); first | done | rfl | (simp only [List.length_drop, List.length_take]; rfl)) ?_; (with_reducible refine (field_Lines.calls kj18 (⟨#[97]⟩ : ByteArray) t176 t177 _ ?sidem_ A31.out).mono ?_); (case sidem_ => first | ((repeat (first | exact HMX_.out | apply Mx.drewN | apply Mx.drew)); done) | (refine Mx.below HMX_.out ?_; (repeat (first | (with_reducible first | exact HB.out | apply below_alloc | apply pw_below_drewN | apply below_drew1) | exact HB.out)); done)); rintro e w34 ⟨v178, rfl, ho0, hb⟩; refine ⟨_, rfl, ?_⟩; have n0_ := Aside0.mk (Kd.N_elder' (by (with_reducible repeat (first | apply Kd.N_alloc | apply Kd.N_drewN | apply Kd.N_drew)); exact HO175.out) (by first | exact Kd.N_base ho0 | exact Kd.S_base ho0) hb); have n1_ := Aside0.mk (Kd.N_lower (Kd.N_mono (ok' := fun k_ => some k_ ≠ (v174 : Value).ownBlock) (Kd.S_N (Kd.S_bound ho0)) (fun k_ hk_ => (Kd.fresh' (Kd.N_lt (by (with_reducible repeat (first | apply Kd.N_alloc | apply Kd.N_drewN | apply Kd.N_drew)); exact HO175.out)) k_ hk_.2.1))) (below_size (by repeat (first | (with_reducible first | exact HB.out | apply below_alloc | apply pw_below_drewN | apply below_drew1) | exact HB.out)))); have n2_ := Aside0.mk (below_step (by repeat (first | (with_reducible first | exact HB.out | apply below_alloc | apply pw_below_drewN | apply below_drew1) | exact HB.out)) hb); clear HO175; clear HB; have HO175 := n0_; have HO179 := n1_; have HB := n2_; clear n0_ n1_ n2_; (try clear hb); (try clear hb2); (try clear hk); (try clear hi); (try clear ho0)))
       (try simp only [Act.put, List.setIfInBounds_toArray, List.set_cons_zero, List.set_cons_succ])
       go_cut [95] (fun v95 wc => ∃ (kq : Nat) (x95_31 : Bool), v95 = .bool x95_31 ∧ Aside0 (dancestudiolaw06_awake.j2 kq x95_31 = some r) ∧ Aside0 (kq ≤ kj18) ∧ Aside0 (Below w.heap.size w wc))
       case first =>
        have H := HC32.out
        clear HC32
        by_cases c35 : t173 = 0
        ·
         rw [if_pos c35] at H
         have c35b0 : (t173 == 0) = true := beq_iff_eq.mpr c35
         have c35b1 : (t173 != 0) = false := bne_eq_false_iff_eq.mpr c35
         clear c35
         (first | rw [c35b0] | (simp only [i64_w, i32_w]; rw [c35b0]) | skip)
         by_cases c36 : t177 = 2
         ·
          rw [if_pos c36] at H
          have c36b0 : (t177 == 2) = true := beq_iff_eq.mpr c36
          have c36b1 : (t177 != 2) = false := bne_eq_false_iff_eq.mpr c36
          clear c36
          obtain ⟨y180, hy180⟩ : ∃ y_ : List ByteArray, y_ = (([(⟨#[97]⟩ : ByteArray), (⟨#[98]⟩ : ByteArray)] : List ByteArray)) := ⟨_, rfl⟩
          replace H : ((dancestudioref06_SameLines.f kj18 t172 (([y180, (([(⟨#[100]⟩ : ByteArray)] : List ByteArray))] : List (List ByteArray)))).bind fun t189 => (dancestudiolaw06_awake.j2 kj18 (!t189))) = some r := by first | (rw [hy180]; with_reducible exact H) | (have H2_ := (Option.bind_some _ _).symm.trans H; rw [hy180]; with_reducible exact H2_) | (have H2_ := (Option.bind_some _ _).symm.trans H; with_reducible exact H2_) | with_reducible exact H | (rw [hy180]; exact H) | exact H
          have Ny180 := Aside0.mk hy180
          clear hy180
          obtain ⟨y183, hy183⟩ : ∃ y_ : List ByteArray, y_ = (([(⟨#[100]⟩ : ByteArray)] : List ByteArray)) := ⟨_, rfl⟩
          replace H : ((dancestudioref06_SameLines.f kj18 t172 (([y180, y183] : List (List ByteArray)))).bind fun t189 => (dancestudiolaw06_awake.j2 kj18 (!t189))) = some r := by first | (rw [hy183]; with_reducible exact H) | (have H2_ := (Option.bind_some _ _).symm.trans H; rw [hy183]; with_reducible exact H2_) | (have H2_ := (Option.bind_some _ _).symm.trans H; with_reducible exact H2_) | with_reducible exact H | (rw [hy183]; exact H) | exact H
          have Ny183 := Aside0.mk hy183
          clear hy183
          obtain ⟨y186, hy186⟩ : ∃ y_ : List (List ByteArray), y_ = (([y180, y183] : List (List ByteArray))) := ⟨_, rfl⟩
          replace H : ((dancestudioref06_SameLines.f kj18 t172 y186).bind fun t189 => (dancestudiolaw06_awake.j2 kj18 (!t189))) = some r := by first | (rw [hy186]; with_reducible exact H) | (have H2_ := (Option.bind_some _ _).symm.trans H; rw [hy186]; with_reducible exact H2_) | (have H2_ := (Option.bind_some _ _).symm.trans H; with_reducible exact H2_) | with_reducible exact H | (rw [hy186]; exact H) | exact H
          have Ny186 := Aside0.mk hy186
          clear hy186
          replace H := Option.bind_eq_some_iff.mp H
          obtain ⟨t189, A370, H⟩ := H
          replace H : (dancestudiolaw06_awake.j2 kj18 (!t189)) = some r := H
          have A37 := Aside0.mk A370
          clear A370
          have H' := Aside0.mk H
          clear H
          go_wp2_with (first | ((with_reducible refine gate_dst (N := 90) rfl ?_); (try (refine gate_guard (by rfl) ?_; dsimp only)); refine Kd.R_lit Kd.string _ 9 ?hg (N := 90) ?hd (xs := ([(⟨#[97]⟩ : ByteArray), (⟨#[98]⟩ : ByteArray)] : List ByteArray)) (inner := [.string (⟨#[97]⟩ : ByteArray), .string (⟨#[98]⟩ : ByteArray)]) (ok := fun _ => True) (okp := fun _ => True) ?hr ?hp (fun _ hk => hk) trivial (Below.refl _ _) (Nat.le_refl _) (by simp) ?_; (case hd => rfl); (case hg => rfl); (case hr => first | (go_simp; done) | (go_simp; rfl)); (case hp => exact (Reps.one (show Kd.M Kd.string _ _ _ (⟨#[97]⟩ : ByteArray) [.string (⟨#[97]⟩ : ByteArray)] from rfl) (Reps.one (show Kd.M Kd.string _ _ _ (⟨#[98]⟩ : ByteArray) [.string (⟨#[98]⟩ : ByteArray)] from rfl) (Reps.none _ _)))); intro v181 w38 ho39 hb hg_ hnew_; clear hg_ hnew_; (first | rw [← Ny180.out] at ho39 | (simp only [Int.reduceToNat] at ho39; rw [← Ny180.out] at ho39)); have n0_ := Aside0.mk (Kd.N_elder' (by (with_reducible repeat (first | apply Kd.N_alloc | apply Kd.N_drewN | apply Kd.N_drew)); exact HO175.out) (Kd.R_base ho39) hb); have n1_ := Aside0.mk (Kd.N_elder' (by (with_reducible repeat (first | apply Kd.N_alloc | apply Kd.N_drewN | apply Kd.N_drew)); exact HO179.out) (Kd.R_base ho39) hb); have n2_ := Aside0.mk (Kd.R_lower ho39 (below_size (by repeat (first | (with_reducible first | exact HB.out | apply below_alloc | apply pw_below_drewN | apply below_drew1) | exact HB.out)))); have n3_ := Aside0.mk (below_step (by repeat (first | (with_reducible first | exact HB.out | apply below_alloc | apply pw_below_drewN | apply below_drew1) | exact HB.out)) hb); clear HO175; clear HO179; clear HB; have HO175 := n0_; have HO179 := n1_; have HO182 := n2_; have HB := n3_; clear n0_ n1_ n2_ n3_; clear hb ho39) | ((with_reducible refine gate_dst (N := 91) rfl ?_); (try (refine gate_guard (by rfl) ?_; dsimp only)); refine Kd.R_lit Kd.string _ 9 ?hg (N := 91) ?hd (xs := ([(⟨#[100]⟩ : ByteArray)] : List ByteArray)) (inner := [.string (⟨#[100]⟩ : ByteArray)]) (ok := fun _ => True) (okp := fun _ => True) ?hr ?hp (fun _ hk => hk) trivial (Below.refl _ _) (Nat.le_refl _) (by simp) ?_; (case hd => rfl); (case hg => rfl); (case hr => first | (go_simp; done) | (go_simp; rfl)); (case hp => exact (Reps.one (show Kd.M Kd.string _ _ _ (⟨#[100]⟩ : ByteArray) [.string (⟨#[100]⟩ : ByteArray)] from rfl) (Reps.none _ _))); intro v184 w40 ho41 hb hg_ hnew_; clear hg_ hnew_; (first | rw [← Ny183.out] at ho41 | (simp only [Int.reduceToNat] at ho41; rw [← Ny183.out] at ho41)); have n0_ := Aside0.mk (Kd.N_elder' (by (with_reducible repeat (first | apply Kd.N_alloc | apply Kd.N_drewN | apply Kd.N_drew)); exact HO175.out) (Kd.R_base ho41) hb); have n1_ := Aside0.mk (Kd.N_elder' (by (with_reducible repeat (first | apply Kd.N_alloc | apply Kd.N_drewN | apply Kd.N_drew)); exact HO179.out) (Kd.R_base ho41) hb); have n2_ := Aside0.mk (Kd.R_elder' (by (with_reducible repeat (first | apply Kd.R_alloc | apply Kd.R_drewN | apply Kd.R_drew)); exact HO182.out) (Kd.R_base ho41) hb); have n3_ := Aside0.mk (Kd.R_lower (Kd.R_new' ho41 (Kd.R_lt (by (with_reducible repeat (first | apply Kd.R_alloc | apply Kd.R_drewN | apply Kd.R_drew)); exact HO182.out))) (below_size (by repeat (first | (with_reducible first | exact HB.out | apply below_alloc | apply pw_below_drewN | apply below_drew1) | exact HB.out)))); have n4_ := Aside0.mk (below_step (by repeat (first | (with_reducible first | exact HB.out | apply below_alloc | apply pw_below_drewN | apply below_drew1) | exact HB.out)) hb); clear HO175; clear HO179; clear HO182; clear HB; have HO175 := n0_; have HO179 := n1_; have HO182 := n2_; have HO185 := n3_; have HB := n4_; clear n0_ n1_ n2_ n3_ n4_; clear hb ho41; obtain ⟨Ao42, co42, eo42⟩ := Kd.R_slice HO182.out; subst eo42; obtain ⟨Ao43, co43, eo43⟩ := Kd.R_slice HO185.out; subst eo43) | ((with_reducible refine gate_dst (N := 92) rfl ?_); (try (refine gate_guard (by rfl) ?_; dsimp only)); refine Kd.N_lit (Kd.slice 9 Kd.string) _ 22 ?hg (N' := 92) ?hd (xs := ([y180, y183] : List (List ByteArray))) (inner := [.slice Ao42 y180.length co42, .slice Ao43 y183.length co43]) (ok := (fun k_ => some k_ ≠ (v174 : Value).ownBlock ∧ some k_ ≠ (v178 : Value).ownBlock)) (okp := (fun k_ => some k_ ≠ (v174 : Value).ownBlock ∧ some k_ ≠ (v178 : Value).ownBlock)) ?hr ?hp (fun _ hk => hk) ((show ∀ k_, w40.heap.size ≤ k_ → (fun k_ => some k_ ≠ (v174 : Value).ownBlock ∧ some k_ ≠ (v178 : Value).ownBlock) k_ from fun k_ hk => ⟨Kd.fresh' (Kd.N_lt (by (with_reducible repeat (first | apply Kd.N_alloc | apply Kd.N_drewN | apply Kd.N_drew)); exact HO175.out)) k_ hk, Kd.fresh' (Kd.N_lt (by (with_reducible repeat (first | apply Kd.N_alloc | apply Kd.N_drewN | apply Kd.N_drew)); exact HO179.out)) k_ hk⟩) _ (Nat.le_refl _)) (Below.refl _ _) (Nat.le_refl _) (by simp) ?_; (case hd => rfl); (case hg => rfl); (case hr => first | (go_simp; done) | (go_simp; rfl)); (case hp => exact (Reps.one (show Kd.FK (Kd.slice 9 Kd.string) _ _ y180 [.slice Ao42 y180.length co42] from (Kd.FK_slice_mk (Kd.R_reads' (Kd.R_mono (ok' := (fun k_ => some k_ ≠ (v174 : Value).ownBlock ∧ some k_ ≠ (v178 : Value).ownBlock)) (Kd.R_apart' (Kd.R_apart' (HO182.out) (Kd.N_typed HO175.out) (by decide)) (Kd.N_typed HO179.out) (by decide)) (fun k_ hk => ⟨hk.1.2, hk.2⟩))).2.1 (Kd.R_F (Kd.R_mono (ok' := (fun k_ => some k_ ≠ (v174 : Value).ownBlock ∧ some k_ ≠ (v178 : Value).ownBlock)) (Kd.R_apart' (Kd.R_apart' (HO182.out) (Kd.N_typed HO175.out) (by decide)) (Kd.N_typed HO179.out) (by decide)) (fun k_ hk => ⟨hk.1.2, hk.2⟩))))) (Reps.one (show Kd.FK (Kd.slice 9 Kd.string) _ _ y183 [.slice Ao43 y183.length co43] from (Kd.FK_slice_mk (Kd.R_reads' (Kd.R_mono (ok' := (fun k_ => some k_ ≠ (v174 : Value).ownBlock ∧ some k_ ≠ (v178 : Value).ownBlock)) (Kd.R_apart' (Kd.R_apart' (HO185.out) (Kd.N_typed HO175.out) (by decide)) (Kd.N_typed HO179.out) (by decide)) (fun k_ hk => ⟨hk.1.2, hk.2⟩))).2.1 (Kd.R_F (Kd.R_mono (ok' := (fun k_ => some k_ ≠ (v174 : Value).ownBlock ∧ some k_ ≠ (v178 : Value).ownBlock)) (Kd.R_apart' (Kd.R_apart' (HO185.out) (Kd.N_typed HO175.out) (by decide)) (Kd.N_typed HO179.out) (by decide)) (fun k_ hk => ⟨hk.1.2, hk.2⟩))))) (Reps.none _ _)))); intro v187 w44 ho45 hb hg_ hnew_; clear hg_ hnew_; (first | rw [← Ny186.out] at ho45 | (simp only [Int.reduceToNat] at ho45; rw [← Ny186.out] at ho45)); have n0_ := Aside0.mk (Kd.N_elder' (by (with_reducible repeat (first | apply Kd.N_alloc | apply Kd.N_drewN | apply Kd.N_drew)); exact HO175.out) (Kd.N_base ho45) hb); have n1_ := Aside0.mk (Kd.N_elder' (by (with_reducible repeat (first | apply Kd.N_alloc | apply Kd.N_drewN | apply Kd.N_drew)); exact HO179.out) (Kd.N_base ho45) hb); have n2_ := Aside0.mk (Kd.N_lower ho45 (below_size (by repeat (first | (with_reducible first | exact HB.out | apply below_alloc | apply pw_below_drewN | apply below_drew1) | exact HB.out)))); have n3_ := Aside0.mk (below_step (by repeat (first | (with_reducible first | exact HB.out | apply below_alloc | apply pw_below_drewN | apply below_drew1) | exact HB.out)) hb); clear HO175; clear HO179; clear HB; clear HO182; clear HO185; have HO175 := n0_; have HO179 := n1_; have HO188 := n2_; have HB := n3_; clear n0_ n1_ n2_ n3_; clear hb ho45; obtain ⟨Ao46, co46, eo46⟩ := Kd.N_slice HO175.out; subst eo46; obtain ⟨Ao47, co47, eo47⟩ := Kd.N_slice HO188.out; subst eo47) | (go_at_call 19; (with_reducible refine (dancestudioref06_SameLines.calls kj18 _ _ t172 _ _ y186 t189 _ ?side1 ?side2 ?side3 ?side4 A37.out).mono ?_); (case side1 => repeat (first | exact (Kd.N_reads' HO175.out).2.2 | (with_reducible refine Kd.C_alloc ?_ _) | (with_reducible refine Kd.C_drewN ?_ _) | (with_reducible refine Kd.C_drew ?_))); (case side2 => exact (Kd.N_reads' HO175.out).2.1); (case side3 => repeat (first | exact (Kd.N_reads' HO188.out).2.2 | (with_reducible refine Kd.C_alloc ?_ _) | (with_reducible refine Kd.C_drewN ?_ _) | (with_reducible refine Kd.C_drew ?_))); (case side4 => exact (Kd.N_reads' HO188.out).2.1); rintro e w' ⟨rfl, ⟨nd, rfl⟩⟩))
          go_meet
          case rel => exact ⟨_, (!t189), (by first | rfl | (simp; done) | (simp [*]; done)), H', ⟨by have := HJ2.out; have := HJ18.out; first | omega | exact Nat.le_refl _⟩, ⟨by repeat (first | (with_reducible first | exact HB.out | apply below_alloc | apply pw_below_drewN | apply below_drew1) | exact HB.out)⟩⟩
         ·
          rw [if_neg c36] at H
          have c36b0 : (t177 == 2) = false := beq_eq_false_iff_ne.mpr c36
          have c36b1 : (t177 != 2) = true := bne_iff_ne.mpr c36
          have H' := Aside0.mk H
          clear H
          go_wp2
          go_meet
          case rel => exact ⟨_, (true), (by first | rfl | (simp; done) | (simp [*]; done)), H', ⟨by have := HJ2.out; have := HJ18.out; first | omega | exact Nat.le_refl _⟩, ⟨by repeat (first | (with_reducible first | exact HB.out | apply below_alloc | apply pw_below_drewN | apply below_drew1) | exact HB.out)⟩⟩
        ·
         rw [if_neg c35] at H
         have c35b0 : (t173 == 0) = false := beq_eq_false_iff_ne.mpr c35
         have c35b1 : (t173 != 0) = true := bne_iff_ne.mpr c35
         (first | rw [c35b0] | (simp only [i64_w, i32_w]; rw [c35b0]) | skip)
         have H' := Aside0.mk H
         clear H
         go_wp2
         go_meet
         case rel => exact ⟨_, (true), (by first | rfl | (simp; done) | (simp [*]; done)), H', ⟨by have := HJ2.out; have := HJ18.out; first | omega | exact Nat.le_refl _⟩, ⟨by repeat (first | (with_reducible first | exact HB.out | apply below_alloc | apply pw_below_drewN | apply below_drew1) | exact HB.out)⟩⟩
       case rest =>
        clear HC32
        try clear c1
        try clear c2
        try clear p2
        try clear c3
        try clear c9
        try clear c9b0
        try clear c9b1
        try clear c10
        try clear c10b0
        try clear c10b1
        try clear c11
        try clear c11b0
        try clear c11b1
        try clear c12
        try clear c14
        try clear c17
        try clear c24
        try clear c24b0
        try clear c24b1
        try clear c25
        try clear c25b0
        try clear c25b1
        try clear c26
        try clear c26b0
        try clear c26b1
        try clear c27
        try clear c27b0
        try clear c27b1
        try clear c29
        try clear c35
        try clear c35b0
        try clear c35b1
        try clear c36
        try clear c36b0
        try clear c36b1
        try clear p2
        obtain ⟨kq, x95_31, rfl, HA, HJ31, HB⟩ := hcut
        cases kq with
        | zero => exact absurd HA.out (by simp [dancestudiolaw06_awake.j2])
        | succ kj31 =>
         have H := HA.out
         clear HA
         simp only [dancestudiolaw06_awake.j2] at H
         by_cases c48 : x95_31 = true
         ·
          subst c48
          have H1 : (none) = some r := by rw [if_pos rfl] at H; exact H
          clear H
          have H := H1
          clear H1
          exact absurd H (by simp)
         ·
          replace c48 := Bool.eq_false_iff.mpr c48
          subst c48
          have H1 : ((field_Number.f kj31 (⟨#[45, 49, 50]⟩ : ByteArray)).bind fun bt190 => ((field_Number.f kj31 (⟨#[48, 48, 55]⟩ : ByteArray)).bind fun bt192 => ((field_Number.f kj31 (⟨#[45, 48]⟩ : ByteArray)).bind fun bt194 => ((field_Number.f kj31 (⟨#[49, 49, 50, 53, 56, 57, 57, 57, 48, 54, 56, 52, 50, 54, 50, 53]⟩ : ByteArray)).bind fun bt196 => (if bt190.1 = (-12) then (if bt190.2 = 0 then (if bt192.2 = 2 then (if bt194.2 = 2 then (some (bt196.2 == 1)) else (none)) else (none)) else (none)) else (none)))))) = some r := by rw [if_neg (show ¬ (false = true) by decide)] at H; exact H
          clear H
          have H := H1
          clear H1
          replace H := Option.bind_eq_some_iff.mp H
          obtain ⟨⟨t190, t191⟩, A490, H⟩ := H
          replace H : ((field_Number.f kj31 (⟨#[48, 48, 55]⟩ : ByteArray)).bind fun bt192 => ((field_Number.f kj31 (⟨#[45, 48]⟩ : ByteArray)).bind fun bt194 => ((field_Number.f kj31 (⟨#[49, 49, 50, 53, 56, 57, 57, 57, 48, 54, 56, 52, 50, 54, 50, 53]⟩ : ByteArray)).bind fun bt196 => (if t190 = (-12) then (if t191 = 0 then (if bt192.2 = 2 then (if bt194.2 = 2 then (some (bt196.2 == 1)) else (none)) else (none)) else (none)) else (none))))) = some r := H
          have A49 := Aside0.mk A490
          clear A490
          replace H := Option.bind_eq_some_iff.mp H
          obtain ⟨⟨t192, t193⟩, A500, H⟩ := H
          replace H : ((field_Number.f kj31 (⟨#[45, 48]⟩ : ByteArray)).bind fun bt194 => ((field_Number.f kj31 (⟨#[49, 49, 50, 53, 56, 57, 57, 57, 48, 54, 56, 52, 50, 54, 50, 53]⟩ : ByteArray)).bind fun bt196 => (if t190 = (-12) then (if t191 = 0 then (if t193 = 2 then (if bt194.2 = 2 then (some (bt196.2 == 1)) else (none)) else (none)) else (none)) else (none)))) = some r := H
          have A50 := Aside0.mk A500
          clear A500
          replace H := Option.bind_eq_some_iff.mp H
          obtain ⟨⟨t194, t195⟩, A510, H⟩ := H
          replace H : ((field_Number.f kj31 (⟨#[49, 49, 50, 53, 56, 57, 57, 57, 48, 54, 56, 52, 50, 54, 50, 53]⟩ : ByteArray)).bind fun bt196 => (if t190 = (-12) then (if t191 = 0 then (if t193 = 2 then (if t195 = 2 then (some (bt196.2 == 1)) else (none)) else (none)) else (none)) else (none))) = some r := H
          have A51 := Aside0.mk A510
          clear A510
          replace H := Option.bind_eq_some_iff.mp H
          obtain ⟨⟨t196, t197⟩, A520, H⟩ := H
          replace H : (if t190 = (-12) then (if t191 = 0 then (if t193 = 2 then (if t195 = 2 then (some (t197 == 1)) else (none)) else (none)) else (none)) else (none)) = some r := H
          have A52 := Aside0.mk A520
          clear A520
          by_cases c53 : t190 = (-12)
          ·
           rw [if_pos c53] at H
           have c53b0 : (t190 == (-12)) = true := beq_iff_eq.mpr c53
           have c53b1 : (t190 != (-12)) = false := bne_eq_false_iff_eq.mpr c53
           clear c53
           by_cases c54 : t191 = 0
           ·
            rw [if_pos c54] at H
            have c54b0 : (t191 == 0) = true := beq_iff_eq.mpr c54
            have c54b1 : (t191 != 0) = false := bne_eq_false_iff_eq.mpr c54
            clear c54
            by_cases c55 : t193 = 2
            ·
             rw [if_pos c55] at H
             have c55b0 : (t193 == 2) = true := beq_iff_eq.mpr c55
             have c55b1 : (t193 != 2) = false := bne_eq_false_iff_eq.mpr c55
             clear c55
             by_cases c56 : t195 = 2
             ·
              rw [if_pos c56] at H
              have c56b0 : (t195 == 2) = true := beq_iff_eq.mpr c56
              have c56b1 : (t195 != 2) = false := bne_eq_false_iff_eq.mpr c56
              clear c56
              obtain rfl := Option.some.inj H
              go_wp2_with (first | ((with_reducible refine gate_callee (f := 20) rfl ?_); refine goesL_ (some 97) rfl rfl Tryd.func20 (by kernel_rfl) rfl #[.string (⟨#[45, 49, 50]⟩ : ByteArray)] rfl (by (try simp only [List.map_toArray, List.map_cons, List.map_nil]); first | done | rfl | (simp only [List.length_drop, List.length_take]; rfl)) ?_; (with_reducible refine (field_Number.calls kj31 (⟨#[45, 49, 50]⟩ : ByteArray) t190 t191 _ A49.out).mono ?_); rintro e w' ⟨rfl, ⟨nd, rfl⟩⟩; refine ⟨_, rfl, ?_⟩) | ((with_reducible refine gate_callee (f := 20) rfl ?_); refine goesL_ (some 101) rfl rfl Tryd.func20 (by kernel_rfl) rfl #[.string (⟨#[48, 48, 55]⟩ : ByteArray)] rfl (by (try simp only [List.map_toArray, List.map_cons, List.map_nil]); first | done | rfl | (simp only [List.length_drop, List.length_take]; rfl)) ?_; (with_reducible refine (field_Number.calls kj31 (⟨#[48, 48, 55]⟩ : ByteArray) t192 t193 _ A50.out).mono ?_); rintro e w' ⟨rfl, ⟨nd, rfl⟩⟩; refine ⟨_, rfl, ?_⟩) | ((with_reducible refine gate_callee (f := 20) rfl ?_); refine goesL_ (some 105) rfl rfl Tryd.func20 (by kernel_rfl) rfl #[.string (⟨#[45, 48]⟩ : ByteArray)] rfl (by (try simp only [List.map_toArray, List.map_cons, List.map_nil]); first | done | rfl | (simp only [List.length_drop, List.length_take]; rfl)) ?_; (with_reducible refine (field_Number.calls kj31 (⟨#[45, 48]⟩ : ByteArray) t194 t195 _ A51.out).mono ?_); rintro e w' ⟨rfl, ⟨nd, rfl⟩⟩; refine ⟨_, rfl, ?_⟩) | ((with_reducible refine gate_callee (f := 20) rfl ?_); refine goesL_ (some 109) rfl rfl Tryd.func20 (by kernel_rfl) rfl #[.string (⟨#[49, 49, 50, 53, 56, 57, 57, 57, 48, 54, 56, 52, 50, 54, 50, 53]⟩ : ByteArray)] rfl (by (try simp only [List.map_toArray, List.map_cons, List.map_nil]); first | done | rfl | (simp only [List.length_drop, List.length_take]; rfl)) ?_; (with_reducible refine (field_Number.calls kj31 (⟨#[49, 49, 50, 53, 56, 57, 57, 57, 48, 54, 56, 52, 50, 54, 50, 53]⟩ : ByteArray) t196 t197 _ A52.out).mono ?_); rintro e w' ⟨rfl, ⟨nd, rfl⟩⟩; refine ⟨_, rfl, ?_⟩))
              go_ret
              exact ⟨by first | rfl | (simp [errW_none, errW_some] <;> rfl) | (simp [*, errW_none, errW_some] <;> rfl), by repeat (first | (with_reducible first | exact HB.out | apply below_alloc | apply pw_below_drewN | apply below_drew1) | exact HB.out)⟩
             ·
              rw [if_neg c56] at H
              exact absurd H (by simp)
            ·
             rw [if_neg c55] at H
             exact absurd H (by simp)
           ·
            rw [if_neg c54] at H
            exact absurd H (by simp)
          ·
           rw [if_neg c53] at H
           exact absurd H (by simp)
end Go.Proofs.YtkcnfbhmjcbgoaaDoor.PAll
