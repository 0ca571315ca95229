/- Texts of the proof, laid end to end. -/
import Derived.Test.YtjppjppapdflmaaRMi
import Derived.Test.YtjppjppapdflmaaPAllx0
import Derived.Test.YtjppjppapdflmaaPAllx1
namespace Go.Proofs.Ytjppjppapdflmaa.PAll
open Go.RowKit Go.Proofs.YtjppjppapdflmaaW.PrintWords Go.Proofs.YtjppjppapdflmaaW.PrintLast Go.Proofs.YtjppjppapdflmaaW.PrintMore
attribute [local go_sem] max2_int min2_int max_two min_two max_three min_three max_four min_four   -- for this text's walks alone
set_option linter.unusedVariables false
set_option linter.unusedSimpArgs false
def stringslite_HasSuffix.f (a0 : ByteArray) (a1 : ByteArray) : Option (Bool) := if (a0.size : Int) ≥ (a1.size : Int) then (if 0 ≤ (wrap64 ((a0.size : Int) - (a1.size : Int))) then (if (wrap64 ((a0.size : Int) - (a1.size : Int))) ≤ (a0.size : Int) then (some ((a0.extract ((wrap64 ((a0.size : Int) - (a1.size : Int))) : Int).toNat a0.size).toList == a1.toList)) else (none)) else (none)) else (some false)
set_option maxHeartbeats 8000000 in
set_option maxRecDepth 100000 in
theorem stringslite_HasSuffix.calls (a0 : ByteArray) (a1 : ByteArray) (r : Bool) (w : World) (h : stringslite_HasSuffix.f a0 a1 = some r) :
  Calls Try.prog 67 #[.string a0, .string a1] w fun e w' => e = .returned (.bool r) ∧ Drawn0 w w' := by
 have H := h
 unfold stringslite_HasSuffix.f at H
 clear h
 by_cases c3 : (a0.size : Int) ≥ (a1.size : Int)
 rotate_left
 ·
  rw [if_neg c3] at H
  have c3b0 := decide_eq_false c3
  have c3b1 : decide (a1.size ≤ a0.size) = false := decide_eq_false (fun h => c3 (Int.ofNat_le.mpr h))
  clear c3
  obtain rfl := Option.some.inj H
  go_enter Try.func67, Try.ntmps67
  go_wp2
  go_ret
  exact ⟨by first | rfl | (simp; done) | (simp [*]; done), by repeat (first | exact Drawn0.refl _ | apply Drawn0.step)⟩
 rw [if_pos c3] at H
 have c3b0 := decide_eq_true c3
 have c3b1 : decide (a1.size ≤ a0.size) = true := decide_eq_true (Int.ofNat_le.mp c3)
 clear c3
 obtain ⟨ji4, hji4⟩ : ∃ j_ : Int, (wrap64 ((a0.size : Int) - (a1.size : Int))) = j_ := ⟨_, rfl⟩
 replace H : (if 0 ≤ (ji4) then (if (ji4) ≤ (a0.size : Int) then (some ((a0.extract ((ji4) : Int).toNat a0.size).toList == a1.toList)) else (none)) else (none)) = some r := by first | (rw [hji4] at H; exact H) | (simp only [hji4] at H ⊢; exact H)
 have hji4w : (IntKind.i64.wrap ((a0.size : Int) - (a1.size : Int))) = ji4 := (i64_w _).trans hji4
 obtain ⟨c5, H⟩ : (0 ≤ (ji4)) ∧ _ := mIf H
 have c5b0 := eq_true c5
 have c5b1 := decide_eq_true c5
 clear c5
 obtain ⟨c6, H⟩ : ((ji4) ≤ (a0.size : Int)) ∧ _ := mIf H
 have c6b0 := eq_true c6
 have c6b1 := decide_eq_true c6
 clear c6
 obtain rfl := Option.some.inj H
 go_enter Try.func67, Try.ntmps67
 go_wp2
 go_ret
 exact ⟨by first | rfl | (simp; done) | (simp only [← hji4] <;> (first | rfl | simp)) | (simp [*]; done), by repeat (first | exact Drawn0.refl _ | apply Drawn0.step)⟩
def ident_small.f (a0 : Int) : Option (Bool) := if 97 ≤ a0 then (some (decide (a0 ≤ 122))) else (some false)
set_option maxHeartbeats 8000000 in
set_option maxRecDepth 100000 in
theorem ident_small.calls (a0 : Int) (r : Bool) (w : World) (h : ident_small.f a0 = some r) :
  Calls Try.prog 59 #[.int .u8 a0] w fun e w' => e = .returned (.bool r) ∧ Drawn0 w w' := by
 have H := h
 unfold ident_small.f at H
 clear h
 by_cases c2 : 97 ≤ a0
 rotate_left
 ·
  rw [if_neg c2] at H
  have c2b0 := decide_eq_false c2
  clear c2
  obtain rfl := Option.some.inj H
  go_enter Try.func59, Try.ntmps59
  go_wp2
  go_ret
  exact ⟨by first | rfl | (simp; done) | (simp [*]; done), by repeat (first | exact Drawn0.refl _ | apply Drawn0.step)⟩
 rw [if_pos c2] at H
 have c2b0 := decide_eq_true c2
 clear c2
 obtain rfl := Option.some.inj H
 go_enter Try.func59, Try.ntmps59
 go_wp2
 go_ret
 exact ⟨by first | rfl | (simp; done) | (simp [*]; done), by repeat (first | exact Drawn0.refl _ | apply Drawn0.step)⟩
def strings_HasSuffix.f (a0 : ByteArray) (a1 : ByteArray) : Option (Bool) := (stringslite_HasSuffix.f a0 a1).bind fun t101 => (some t101)
set_option maxHeartbeats 8000000 in
set_option maxRecDepth 100000 in
theorem strings_HasSuffix.calls (a0 : ByteArray) (a1 : ByteArray) (r : Bool) (w : World) (h : strings_HasSuffix.f a0 a1 = some r) :
  Calls Try.prog 60 #[.string a0, .string a1] w fun e w' => e = .returned (.bool r) ∧ Drawn0 w w' := by
 have H := h
 unfold strings_HasSuffix.f at H
 clear h
 replace H := Option.bind_eq_some_iff.mp H
 obtain ⟨t101, A30, H⟩ := H
 try dsimp only at H
 have A3 := Aside0.mk A30
 clear A30
 obtain rfl := Option.some.inj H
 go_enter Try.func60, Try.ntmps60
 go_wp2_with (first | ((with_reducible refine gate_callee (f := 67) rfl ?_); refine goesL_ (some 7) rfl rfl Try.func67 (by kernel_rfl) rfl #[.string a0, .string a1] rfl (mA2 rfl rfl) ?_; (with_reducible refine (stringslite_HasSuffix.calls a0 a1 t101 _ A3.out).mono ?_); rintro e w' ⟨rfl, ⟨nd, rfl⟩⟩; refine ⟨_, rfl, ?_⟩))
 go_ret
 exact ⟨by first | rfl | (simp; done) | (simp [*]; done), by repeat (first | exact Drawn0.refl _ | apply Drawn0.step)⟩
def strings_Contains.f (a0 : ByteArray) (a1 : ByteArray) : Option (Bool) := if a0.size < 4294967281 then (some (Lib.contains a0.data.toList a1.data.toList)) else none
theorem strings_Contains.calls (a0 : ByteArray) (a1 : ByteArray) (r : Bool) (w : World) (hmx : Mx w) (h : strings_Contains.f a0 a1 = some r) :
    Calls Try.prog 61 #[.string a0, .string a1] w fun e w' => e = .returned (.bool r) ∧ Drawn0 w w' := by
  unfold strings_Contains.f at h
  by_cases h0 : a0.size < 4294967281
  case neg => rw [if_neg h0] at h; exact absurd h (by simp)
  rw [if_pos h0] at h
  injection h with h
  subst h
  obtain ⟨m_, hm_⟩ := hmx
  exact (Try.strings_Contains a0 a1 m_ w h0 hm_).mono fun e w' ⟨h1, h2⟩ => ⟨h1, by subst h2; exact Drawn0.refl _⟩
def ident_digit.f (a0 : Int) : Option (Bool) := if 48 ≤ a0 then (some (decide (a0 ≤ 57))) else (some false)
set_option maxHeartbeats 8000000 in
set_option maxRecDepth 100000 in
theorem ident_digit.calls (a0 : Int) (r : Bool) (w : World) (h : ident_digit.f a0 = some r) :
  Calls Try.prog 62 #[.int .u8 a0] w fun e w' => e = .returned (.bool r) ∧ Drawn0 w w' := by
 have H := h
 unfold ident_digit.f at H
 clear h
 by_cases c2 : 48 ≤ a0
 rotate_left
 ·
  rw [if_neg c2] at H
  have c2b0 := decide_eq_false c2
  clear c2
  obtain rfl := Option.some.inj H
  go_enter Try.func62, Try.ntmps62
  go_wp2
  go_ret
  exact ⟨by first | rfl | (simp; done) | (simp [*]; done), by repeat (first | exact Drawn0.refl _ | apply Drawn0.step)⟩
 rw [if_pos c2] at H
 have c2b0 := decide_eq_true c2
 clear c2
 obtain rfl := Option.some.inj H
 go_enter Try.func62, Try.ntmps62
 go_wp2
 go_ret
 exact ⟨by first | rfl | (simp; done) | (simp [*]; done), by repeat (first | exact Drawn0.refl _ | apply Drawn0.step)⟩
mutual
def ident_Valid.j0 : Nat → ByteArray → Bool → Option (Bool)
 | 0, _, _ => none
 | k + 1, x0, x24 => if x24 = true then (some false) else (ident_Valid.l0 k x0 (x0.size : Int) 0)
def ident_Valid.l0 : Nat → ByteArray → Int → Int → Option (Bool)
 | 0, _, _, _ => none
 | k + 1, x0, x26, x27 => if x27 < x26 then (if 0 ≤ x27 then (if x27 < (x0.size : Int) then ((ident_small.f (bt x0 x27)).bind fun t105 => (if t105 = true then (ident_Valid.l0 k x0 x26 (wrap64 (x27 + 1))) else ((ident_digit.f (bt x0 x27)).bind fun t106 => (if t106 = true then (ident_Valid.l0 k x0 x26 (wrap64 (x27 + 1))) else (if (bt x0 x27) = 45 then (ident_Valid.l0 k x0 x26 (wrap64 (x27 + 1))) else (some false)))))) else (none)) else (none)) else (some true)
end
def ident_Valid.f (k : Nat) (a0 : ByteArray) : Option (Bool) := if a0.toList = ([] : List UInt8) then (ident_Valid.j0 k a0 true) else (if (a0.size : Int) > 24 then (ident_Valid.j0 k a0 true) else (if 0 < (a0.size : Int) then ((ident_small.f (bt a0 0)).bind fun t102 => (if t102 = true then ((strings_HasSuffix.f a0 (⟨#[45]⟩ : ByteArray)).bind fun t103 => (if t103 = true then (ident_Valid.j0 k a0 true) else ((strings_Contains.f a0 (⟨#[45, 45]⟩ : ByteArray)).bind fun t104 => (ident_Valid.j0 k a0 t104)))) else (ident_Valid.j0 k a0 true))) else (none)))
set_option maxHeartbeats 8000000 in
set_option maxRecDepth 100000 in
theorem ident_Valid.calls (k : Nat) (a0 : ByteArray) (r : Bool) (w : World) (hmx : Mx w) (h : ident_Valid.f k a0 = some r) :
  Calls Try.prog 45 #[.string a0] w fun e w' => e = .returned (.bool r) ∧ Drawn0 w w' := by
 have HMX_ := Aside0.mk hmx
 clear hmx
 have H := h
 unfold ident_Valid.f at H
 clear h
 have HC2 := Aside0.mk H
 clear H
 go_enter Try.func45, Try.ntmps45
 go_upto_region 1 with (fail)
 go_cut [24] (fun v24 wc => ∃ (kq : Nat) (x24_1 : Bool), v24 = .bool x24_1 ∧ Aside0 (ident_Valid.j0 kq a0 x24_1 = some r) ∧ Aside0 (kq ≤ k) ∧ Drawn0 w wc)
 case first =>
  have H := HC2.out
  clear HC2
  by_cases c3 : a0.toList = ([] : List UInt8)
  ·
   rw [if_pos c3] at H
   have c3b0 := beq_iff_eq.mpr c3
   have c3b1 := bne_eq_false_iff_eq.mpr c3
   clear c3
   (first | rw [c3b0] | (simp only [i64_w, i32_w]; rw [c3b0]) | skip)
   have H' := Aside0.mk H
   clear H
   go_wp2
   go_meet
   case rel => exact ⟨_, (true), rfl, H', ⟨by first | omega | exact Nat.le_refl _⟩, by repeat (first | exact Drawn0.refl _ | apply Drawn0.step)⟩
  rw [if_neg c3] at H
  have c3b0 := beq_eq_false_iff_ne.mpr c3
  have c3b1 := bne_iff_ne.mpr c3
  (first | rw [c3b0] | (simp only [i64_w, i32_w]; rw [c3b0]) | skip)
  by_cases c4 : (a0.size : Int) > 24
  ·
   rw [if_pos c4] at H
   have c4b0 := decide_eq_true c4
   have c4b1 : decide (24 < a0.size) = true := decide_eq_true (by omega)
   clear c4
   have H' := Aside0.mk H
   clear H
   go_wp2
   go_meet
   case rel => exact ⟨_, (true), rfl, H', ⟨by first | omega | exact Nat.le_refl _⟩, by repeat (first | exact Drawn0.refl _ | apply Drawn0.step)⟩
  rw [if_neg c4] at H
  have c4b0 := decide_eq_false c4
  have c4b1 : decide (24 < a0.size) = false := decide_eq_false (by omega)
  clear c4
  obtain ⟨c5, H⟩ : (0 < (a0.size : Int)) ∧ _ := mIf H
  have c5b0 := decide_eq_true c5
  have c5b1 : decide (0 < a0.size) = true := decide_eq_true (by omega)
  clear c5
  replace H := Option.bind_eq_some_iff.mp H
  obtain ⟨t102, A70, H⟩ := H
  try dsimp only at H
  have A7 := Aside0.mk A70
  clear A70
  by_cases c8 : t102 = true
  rotate_left
  ·
   replace c8 := Bool.eq_false_iff.mpr c8
   subst c8
   rw [if_neg (show ¬ (false = true) by decide)] at H
   have H' := Aside0.mk H
   clear H
   have p6 : 0 ≤ (0 : Int) := (by omega)
   have q6 : 0 < a0.size := (by have : (0 : Int) < (a0.size : Int) := of_decide_eq_true (by assumption); omega)
   have hx6 : ∀ h : 0 < a0.size, ((a0[0]'h).toNat : Int) = bt a0 0 := bt_at a0 0
   clear p6
   have qi6 : (0 < (a0.size : Int)) = True := eq_true (of_decide_eq_true (by assumption))
   replace q6 := eq_true q6
   go_wp2_with (first | (go_at_call 59; (with_reducible refine (ident_small.calls (bt a0 0) false _ A7.out).mono ?_); rintro e w' ⟨rfl, ⟨nd, rfl⟩⟩))
   go_meet
   case rel => exact ⟨_, (true), rfl, H', ⟨by first | omega | exact Nat.le_refl _⟩, by repeat (first | exact Drawn0.refl _ | apply Drawn0.step)⟩
  subst c8
  rw [if_pos rfl] at H
  replace H := Option.bind_eq_some_iff.mp H
  obtain ⟨t103, A90, H⟩ := H
  try dsimp only at H
  have A9 := Aside0.mk A90
  clear A90
  by_cases c10 : t103 = true
  ·
   subst c10
   rw [if_pos rfl] at H
   have H' := Aside0.mk H
   clear H
   have p6 : 0 ≤ (0 : Int) := (by omega)
   have q6 : 0 < a0.size := (by have : (0 : Int) < (a0.size : Int) := of_decide_eq_true (by assumption); omega)
   have hx6 : ∀ h : 0 < a0.size, ((a0[0]'h).toNat : Int) = bt a0 0 := bt_at a0 0
   clear p6
   have qi6 : (0 < (a0.size : Int)) = True := eq_true (of_decide_eq_true (by assumption))
   replace q6 := eq_true q6
   go_wp2_with (first | (go_at_call 59; (with_reducible refine (ident_small.calls (bt a0 0) true _ A7.out).mono ?_); rintro e w' ⟨rfl, ⟨nd, rfl⟩⟩) | (go_at_call 60; (with_reducible refine (strings_HasSuffix.calls a0 (⟨#[45]⟩ : ByteArray) true _ A9.out).mono ?_); rintro e w' ⟨rfl, ⟨nd, rfl⟩⟩))
   go_meet
   case rel => exact ⟨_, (true), rfl, H', ⟨by first | omega | exact Nat.le_refl _⟩, by repeat (first | exact Drawn0.refl _ | apply Drawn0.step)⟩
  replace c10 := Bool.eq_false_iff.mpr c10
  subst c10
  rw [if_neg (show ¬ (false = true) by decide)] at H
  replace H := Option.bind_eq_some_iff.mp H
  obtain ⟨t104, A110, H⟩ := H
  try dsimp only at H
  have A11 := Aside0.mk A110
  clear A110
  have H' := Aside0.mk H
  clear H
  have p6 : 0 ≤ (0 : Int) := (by omega)
  have q6 : 0 < a0.size := (by have : (0 : Int) < (a0.size : Int) := of_decide_eq_true (by assumption); omega)
  have hx6 : ∀ h : 0 < a0.size, ((a0[0]'h).toNat : Int) = bt a0 0 := bt_at a0 0
  clear p6
  have qi6 : (0 < (a0.size : Int)) = True := eq_true (of_decide_eq_true (by assumption))
  replace q6 := eq_true q6
  go_wp2_with (first | (go_at_call 59; (with_reducible refine (ident_small.calls (bt a0 0) true _ A7.out).mono ?_); rintro e w' ⟨rfl, ⟨nd, rfl⟩⟩) | (go_at_call 60; (with_reducible refine (strings_HasSuffix.calls a0 (⟨#[45]⟩ : ByteArray) false _ A9.out).mono ?_); rintro e w' ⟨rfl, ⟨nd, rfl⟩⟩) | (go_at_call 61; (with_reducible refine (strings_Contains.calls a0 (⟨#[45, 45]⟩ : ByteArray) t104 _ ?sidem_ A11.out).mono ?_); (case sidem_ => first | ((repeat (first | exact HMX_.out | apply Mx.drewN | apply Mx.drew)); done) | (refine Mx.below HMX_.out ?_; (repeat (first | (with_reducible first | exact HB.out | apply below_alloc | apply pw_below_drewN | apply below_drew1 | refine below_set ?_ (Aside0.out (by assumption))) | exact HB.out)); done)); rintro e w' ⟨rfl, ⟨nd, rfl⟩⟩))
  go_meet
  case rel => exact ⟨_, (t104), rfl, H', ⟨by first | omega | exact Nat.le_refl _⟩, by repeat (first | exact Drawn0.refl _ | apply Drawn0.step)⟩
 case rest =>
  clear HC2; try clear c1; try clear p2; try clear c3; try clear c3b0; try clear c3b1; try clear c4; try clear c4b0; try clear c4b1; try clear c5; try clear c5b0; try clear c5b1; try clear p6; try clear q6; try clear hx6; try clear qi6; try clear c8; try clear c10
  obtain ⟨kq, x24_1, rfl, HA, HJ1, ⟨mc1, rfl⟩⟩ := hcut
  cases kq with
  | zero => exact absurd HA.out (by simp [ident_Valid.j0])
  | succ kj1 =>
   have H := HA.out
   clear HA
   simp only [ident_Valid.j0] at H
   by_cases c12 : x24_1 = true
   ·
    subst c12
    rw [if_pos rfl] at H
    obtain rfl := Option.some.inj H
    go_wp2
    go_ret
    exact ⟨by first | rfl | (simp; done) | (simp [*]; done), by repeat (first | exact Drawn0.refl _ | apply Drawn0.step)⟩
   replace c12 := Bool.eq_false_iff.mpr c12
   subst c12
   rw [if_neg (show ¬ (false = true) by decide)] at H
   have H' := Aside0.mk H
   clear H
   go_wp2
   go_loopg [27] kj1 (fun kq v27 w' => ∃ (x27_2 : Int), v27 = .int .i64 x27_2 ∧ Aside0 (ident_Valid.l0 kq a0 (a0.size : Int) x27_2 = some r) ∧ Aside0 (kq ≤ kj1) ∧ Drawn0 w w')
   case atStart => exact ⟨(0), rfl, H', ⟨Nat.le_refl _⟩, by repeat (first | exact Drawn0.refl _ | apply Drawn0.step)⟩
   case round =>
    clear H'
    try clear c1; try clear p2; try clear c3; try clear c3b0; try clear c3b1; try clear c4; try clear c4b0; try clear c4b1; try clear c5; try clear c5b0; try clear c5b1; try clear p6; try clear q6; try clear hx6; try clear qi6; try clear c8; try clear c10; try clear c12
    obtain ⟨x27_2, rfl, HA, HK2, ⟨m2, rfl⟩⟩ := hrel
    cases gk with
    | zero => exact absurd HA.out (by simp [ident_Valid.l0])
    | succ k2 =>
     have H := HA.out
     clear HA
     simp only [ident_Valid.l0] at H
     by_cases c13 : x27_2 < (a0.size : Int)
     rotate_left
     ·
      rw [if_neg c13] at H
      have c13b0 := decide_eq_false c13
      clear c13
      obtain rfl := Option.some.inj H
      go_wp2
      go_ret
      exact ⟨by first | rfl | (simp; done) | (simp [*]; done), by repeat (first | exact Drawn0.refl _ | apply Drawn0.step)⟩
     rw [if_pos c13] at H
     have c13b0 := decide_eq_true c13
     clear c13
     obtain ⟨c14, H⟩ : (0 ≤ x27_2) ∧ _ := mIf H
     have c14b0 := decide_eq_true c14
     clear c14
     obtain ⟨c15, H⟩ : (x27_2 < (a0.size : Int)) ∧ _ := mIf H
     have c15b0 := decide_eq_true c15
     clear c15
     replace H := Option.bind_eq_some_iff.mp H
     obtain ⟨t105, A170, H⟩ := H
     try dsimp only at H
     have A17 := Aside0.mk A170
     clear A170
     by_cases c18 : t105 = true
     ·
      subst c18
      rw [if_pos rfl] at H
      have H' := Aside0.mk H
      clear H
      have p16 : 0 ≤ (x27_2 : Int) := of_decide_eq_true (by assumption)
      have q16 : x27_2 < (a0.size : Int) := of_decide_eq_true (by assumption)
      have hx16 := bt_at a0 x27_2
      replace p16 := eq_true p16
      replace q16 := eq_true q16
      go_wp2_with (first | ((with_reducible refine gate_callee (f := 59) rfl ?_); refine goesL_ (some 33) rfl rfl Try.func59 (by kernel_rfl) rfl #[.int .u8 (bt a0 x27_2)] rfl (mA1 rfl) ?_; (with_reducible refine (ident_small.calls (bt a0 x27_2) true _ A17.out).mono ?_); rintro e w' ⟨rfl, ⟨nd, rfl⟩⟩; refine ⟨_, rfl, ?_⟩))
      go_roundg k2
      case measure => have := HJ1.out; have := HK2.out; omega
      case rel => exact ⟨(wrap64 (x27_2 + 1)), rfl, H', ⟨by have := HJ1.out; have := HK2.out; omega⟩, by repeat (first | exact Drawn0.refl _ | apply Drawn0.step)⟩
     replace c18 := Bool.eq_false_iff.mpr c18
     subst c18
     rw [if_neg (show ¬ (false = true) by decide)] at H
     replace H := Option.bind_eq_some_iff.mp H
     obtain ⟨t106, A200, H⟩ := H
     try dsimp only at H
     have A20 := Aside0.mk A200
     clear A200
     by_cases c21 : t106 = true
     ·
      subst c21
      rw [if_pos rfl] at H
      have H' := Aside0.mk H
      clear H
      have p16 : 0 ≤ (x27_2 : Int) := of_decide_eq_true (by assumption)
      have q16 : x27_2 < (a0.size : Int) := of_decide_eq_true (by assumption)
      have hx16 := bt_at a0 x27_2
      replace p16 := eq_true p16
      replace q16 := eq_true q16
      go_wp2_with (first | ((with_reducible refine gate_callee (f := 59) rfl ?_); refine goesL_ (some 33) rfl rfl Try.func59 (by kernel_rfl) rfl #[.int .u8 (bt a0 x27_2)] rfl (mA1 rfl) ?_; (with_reducible refine (ident_small.calls (bt a0 x27_2) false _ A17.out).mono ?_); rintro e w' ⟨rfl, ⟨nd, rfl⟩⟩; refine ⟨_, rfl, ?_⟩; have p19 : 0 ≤ (x27_2 : Int) := of_decide_eq_true (by assumption); have q19 : x27_2 < (a0.size : Int) := of_decide_eq_true (by assumption); have hx19 := bt_at a0 x27_2; replace p19 := eq_true p19; replace q19 := eq_true q19) | (go_at_call 62; (with_reducible refine (ident_digit.calls (bt a0 x27_2) true _ A20.out).mono ?_); rintro e w' ⟨rfl, ⟨nd, rfl⟩⟩))
      go_roundg k2
      case measure => have := HJ1.out; have := HK2.out; omega
      case rel => exact ⟨(wrap64 (x27_2 + 1)), rfl, H', ⟨by have := HJ1.out; have := HK2.out; omega⟩, by repeat (first | exact Drawn0.refl _ | apply Drawn0.step)⟩
     replace c21 := Bool.eq_false_iff.mpr c21
     subst c21
     rw [if_neg (show ¬ (false = true) by decide)] at H
     by_cases c23 : (bt a0 x27_2) = 45
     rotate_left
     ·
      rw [if_neg c23] at H
      have c23b0 := beq_eq_false_iff_ne.mpr c23
      have c23b1 := bne_iff_ne.mpr c23
      obtain rfl := Option.some.inj H
      have p16 : 0 ≤ (x27_2 : Int) := of_decide_eq_true (by assumption)
      have q16 : x27_2 < (a0.size : Int) := of_decide_eq_true (by assumption)
      have hx16 := bt_at a0 x27_2
      replace p16 := eq_true p16
      replace q16 := eq_true q16
      go_wp2_with (first | ((with_reducible refine gate_callee (f := 59) rfl ?_); refine goesL_ (some 33) rfl rfl Try.func59 (by kernel_rfl) rfl #[.int .u8 (bt a0 x27_2)] rfl (mA1 rfl) ?_; (with_reducible refine (ident_small.calls (bt a0 x27_2) false _ A17.out).mono ?_); rintro e w' ⟨rfl, ⟨nd, rfl⟩⟩; refine ⟨_, rfl, ?_⟩; have p19 : 0 ≤ (x27_2 : Int) := of_decide_eq_true (by assumption); have q19 : x27_2 < (a0.size : Int) := of_decide_eq_true (by assumption); have hx19 := bt_at a0 x27_2; replace p19 := eq_true p19; replace q19 := eq_true q19) | (go_at_call 62; (with_reducible refine (ident_digit.calls (bt a0 x27_2) false _ A20.out).mono ?_); rintro e w' ⟨rfl, ⟨nd, rfl⟩⟩; have p22 : 0 ≤ (x27_2 : Int) := of_decide_eq_true (by assumption); have q22 : x27_2 < (a0.size : Int) := of_decide_eq_true (by assumption); have hx22 := bt_at a0 x27_2; replace p22 := eq_true p22; replace q22 := eq_true q22))
      go_ret
      exact ⟨by first | rfl | (simp; done) | (simp [*]; done), by repeat (first | exact Drawn0.refl _ | apply Drawn0.step)⟩
     rw [if_pos c23] at H
     have c23b0 := beq_iff_eq.mpr c23
     have c23b1 := bne_eq_false_iff_eq.mpr c23
     clear c23
     have H' := Aside0.mk H
     clear H
     have p16 : 0 ≤ (x27_2 : Int) := of_decide_eq_true (by assumption)
     have q16 : x27_2 < (a0.size : Int) := of_decide_eq_true (by assumption)
     have hx16 := bt_at a0 x27_2
     replace p16 := eq_true p16
     replace q16 := eq_true q16
     go_wp2_with (first | ((with_reducible refine gate_callee (f := 59) rfl ?_); refine goesL_ (some 33) rfl rfl Try.func59 (by kernel_rfl) rfl #[.int .u8 (bt a0 x27_2)] rfl (mA1 rfl) ?_; (with_reducible refine (ident_small.calls (bt a0 x27_2) false _ A17.out).mono ?_); rintro e w' ⟨rfl, ⟨nd, rfl⟩⟩; refine ⟨_, rfl, ?_⟩; have p19 : 0 ≤ (x27_2 : Int) := of_decide_eq_true (by assumption); have q19 : x27_2 < (a0.size : Int) := of_decide_eq_true (by assumption); have hx19 := bt_at a0 x27_2; replace p19 := eq_true p19; replace q19 := eq_true q19) | (go_at_call 62; (with_reducible refine (ident_digit.calls (bt a0 x27_2) false _ A20.out).mono ?_); rintro e w' ⟨rfl, ⟨nd, rfl⟩⟩; have p22 : 0 ≤ (x27_2 : Int) := of_decide_eq_true (by assumption); have q22 : x27_2 < (a0.size : Int) := of_decide_eq_true (by assumption); have hx22 := bt_at a0 x27_2; replace p22 := eq_true p22; replace q22 := eq_true q22))
     go_roundg k2
     case measure => have := HJ1.out; have := HK2.out; omega
     case rel => exact ⟨(wrap64 (x27_2 + 1)), rfl, H', ⟨by have := HJ1.out; have := HK2.out; omega⟩, by repeat (first | exact Drawn0.refl _ | apply Drawn0.step)⟩
def slices_Index_int_int.l0 : Nat → List Int → Int → Int → Int → Option (Int)
 | 0, _, _, _, _ => none
 | k + 1, x0, x1, x7, x8 => if x8 < x7 then (if 0 ≤ x8 then (if x8 < (x0.length : Int) then (if x1 = (rd x0 x8) then (some x8) else (slices_Index_int_int.l0 k x0 x1 x7 (wrap64 (x8 + 1)))) else (none)) else (none)) else (some (-1))
def slices_Index_int_int.f (k : Nat) (l0 : List Int) (a1 : Int) : Option (Int) := slices_Index_int_int.l0 k l0 a1 (l0.length : Int) 0
set_option maxHeartbeats 8000000 in
set_option maxRecDepth 100000 in
theorem slices_Index_int_int.calls (k : Nat) (A0 : Option Addr) (c0 : Nat) (l0 : List Int) (a1 : Int) (r : Int) (w : World) (hr0 : Kd.C (Kd.int .i64) w A0 l0.length l0) (hc0 : l0.length ≤ c0) (h : slices_Index_int_int.f k l0 a1 = some r) :
  Calls Try.prog 63 #[.slice A0 l0.length c0, .int .i64 a1] w fun e w' => e = .returned (.int .i64 r) ∧ Drawn0 w w' := by
 have HR0 := Aside0.mk hr0
 have HC0 := Aside0.mk hc0
 clear hr0 hc0
 have H := h
 unfold slices_Index_int_int.f at H
 clear h
 have H' := Aside0.mk H
 clear H
 go_enter Try.func63, Try.ntmps63
 go_wp2
 go_loopg [8] k (fun kq v8 w' => ∃ (x8_1 : Int), v8 = .int .i64 x8_1 ∧ Aside0 (slices_Index_int_int.l0 kq l0 a1 (l0.length : Int) x8_1 = some r) ∧ Aside0 (kq ≤ k) ∧ Drawn0 w w')
 case atStart => exact ⟨(0), rfl, H', ⟨Nat.le_refl _⟩, by repeat (first | exact Drawn0.refl _ | apply Drawn0.step)⟩
 case round =>
  clear H'
  skip
  obtain ⟨x8_1, rfl, HA, HK1, ⟨m1, rfl⟩⟩ := hrel
  cases gk with
  | zero => exact absurd HA.out (by simp [slices_Index_int_int.l0])
  | succ k1 =>
   have H := HA.out
   clear HA
   simp only [slices_Index_int_int.l0] at H
   by_cases c3 : x8_1 < (l0.length : Int)
   rotate_left
   ·
    rw [if_neg c3] at H
    have c3b0 := decide_eq_false c3
    clear c3
    obtain rfl := Option.some.inj H
    go_wp2
    go_ret
    exact ⟨by first | rfl | (simp; done) | (simp [*]; done), by repeat (first | exact Drawn0.refl _ | apply Drawn0.step)⟩
   rw [if_pos c3] at H
   have c3b0 := decide_eq_true c3
   clear c3
   obtain ⟨c4, H⟩ : (0 ≤ x8_1) ∧ _ := mIf H
   have c4b0 := decide_eq_true c4
   clear c4
   obtain ⟨c5, H⟩ : (x8_1 < (l0.length : Int)) ∧ _ := mIf H
   have c5b0 := decide_eq_true c5
   clear c5
   by_cases c6 : a1 = (rd l0 x8_1)
   ·
    rw [if_pos c6] at H
    have c6b0 := beq_iff_eq.mpr c6
    have c6b1 := bne_eq_false_iff_eq.mpr c6
    clear c6
    obtain rfl := Option.some.inj H
    have p107 : 0 ≤ (x8_1 : Int) := of_decide_eq_true (by assumption)
    have q107 : x8_1 < (l0.length : Int) := of_decide_eq_true (by assumption)
    obtain ⟨ad107, e107, hx107_0⟩ := Kd.at_int HR0.out x8_1 p107 q107
    cases e107
    replace p107 := eq_true p107
    replace q107 := eq_true q107
    go_wp2
    go_ret
    exact ⟨by first | rfl | (simp; done) | (simp [*]; done), by repeat (first | exact Drawn0.refl _ | apply Drawn0.step)⟩
   rw [if_neg c6] at H
   have c6b0 := beq_eq_false_iff_ne.mpr c6
   have c6b1 := bne_iff_ne.mpr c6
   have H' := Aside0.mk H
   clear H
   have p107 : 0 ≤ (x8_1 : Int) := of_decide_eq_true (by assumption)
   have q107 : x8_1 < (l0.length : Int) := of_decide_eq_true (by assumption)
   obtain ⟨ad107, e107, hx107_0⟩ := Kd.at_int HR0.out x8_1 p107 q107
   cases e107
   replace p107 := eq_true p107
   replace q107 := eq_true q107
   go_wp2
   go_roundg k1
   case measure => have := HK1.out; omega
   case rel => exact ⟨(wrap64 (x8_1 + 1)), rfl, H', ⟨by have := HK1.out; omega⟩, by repeat (first | exact Drawn0.refl _ | apply Drawn0.step)⟩
def slices_Contains_int_int.f (k : Nat) (l0 : List Int) (a1 : Int) : Option (Bool) := (slices_Index_int_int.f k l0 a1).bind fun t108 => (some (decide (t108 ≥ 0)))
set_option maxHeartbeats 8000000 in
set_option maxRecDepth 100000 in
theorem slices_Contains_int_int.calls (k : Nat) (A0 : Option Addr) (c0 : Nat) (l0 : List Int) (a1 : Int) (r : Bool) (w : World) (hr0 : Kd.C (Kd.int .i64) w A0 l0.length l0) (hc0 : l0.length ≤ c0) (h : slices_Contains_int_int.f k l0 a1 = some r) :
  Calls Try.prog 46 #[.slice A0 l0.length c0, .int .i64 a1] w fun e w' => e = .returned (.bool r) ∧ Drawn0 w w' := by
 have HR0 := Aside0.mk hr0
 have HC0 := Aside0.mk hc0
 clear hr0 hc0
 have H := h
 unfold slices_Contains_int_int.f at H
 clear h
 replace H := Option.bind_eq_some_iff.mp H
 obtain ⟨t108, A30, H⟩ := H
 try dsimp only at H
 have A3 := Aside0.mk A30
 clear A30
 obtain rfl := Option.some.inj H
 go_enter Try.func46, Try.ntmps46
 go_wp2_with (first | ((with_reducible refine gate_callee (f := 63) rfl ?_); refine goesL_ (some 7) rfl rfl Try.func63 (by kernel_rfl) rfl #[.slice A0 l0.length c0, .int .i64 a1] rfl (mA2 rfl rfl) ?_; (with_reducible refine (slices_Index_int_int.calls k _ _ l0 a1 t108 _ HR0.out HC0.out A3.out).mono ?_); rintro e w' ⟨rfl, ⟨nd, rfl⟩⟩; refine ⟨_, rfl, ?_⟩))
 go_ret
 exact ⟨by first | rfl | (simp; done) | (simp [*]; done), by repeat (first | exact Drawn0.refl _ | apply Drawn0.step)⟩
mutual
def rehearse_scene.j0 : Nat → Bool → ByteArray → Int → List Int → Option (Int)
 | 0, _, _, _, _ => none
 | k + 1, x21, x110000, x110001, x110002 => if x21 = true then (some 1) else (if (x110002.length : Int) = 0 then (some 4) else (rehearse_scene.l0 k x110002 (x110002.length : Int) 0 x110000 x110001 x110002))
def rehearse_scene.l0 : Nat → List Int → Int → Int → ByteArray → Int → List Int → Option (Int)
 | 0, _, _, _, _, _, _ => none
 | k + 1, x27, x28, x29, x110000, x110001, x110002 => if x29 < x28 then (if 0 ≤ x29 then (if x29 < (x27.length : Int) then (if (rd x27 x29) < 0 then (some 40) else (if (rd x27 x29) ≥ 24 then (some 40) else (rehearse_scene.l0 k x27 x28 (wrap64 (x29 + 1)) x110000 x110001 x110002))) else (none)) else (none)) else (rehearse_scene.l1 k x110002 (x110002.length : Int) 0 x110000 x110001 x110002)
def rehearse_scene.l1 : Nat → List Int → Int → Int → ByteArray → Int → List Int → Option (Int)
 | 0, _, _, _, _, _, _ => none
 | k + 1, x41, x42, x43, x110000, x110001, x110002 => if x43 < x42 then (if 0 ≤ x43 then (if x43 < (x41.length : Int) then (if x43 ≤ (x110002.length : Int) then ((slices_Contains_int_int.f k (x110002.take (x43 : Int).toNat) (rd x41 x43)).bind fun t114 => (if t114 = true then (some 7) else (rehearse_scene.l1 k x41 x42 (wrap64 (x43 + 1)) x110000 x110001 x110002))) else (none)) else (none)) else (none)) else (some 0)
end
def rehearse_scene.f (k : Nat) (a0_0 : ByteArray) (a0_1 : Int) (l0_2 : List Int) (a1 : Int) : Option (Int) := (ident_Valid.f k a0_0).bind fun t110 => (if t110 = true then (if a0_1 < 1 then (rehearse_scene.j0 k true a0_0 a0_1 l0_2) else (rehearse_scene.j0 k (decide (a0_1 > a1)) a0_0 a0_1 l0_2)) else (some 8))
set_option maxHeartbeats 8000000 in
set_option maxRecDepth 100000 in
theorem rehearse_scene.calls (k : Nat) (a0_0 : ByteArray) (a0_1 : Int) (A0_2 : Option Addr) (c0_2 : Nat) (l0_2 : List Int) (a1 : Int) (r : Int) (w : World) (hr0_2 : Kd.C (Kd.int .i64) w A0_2 l0_2.length l0_2) (hc0_2 : l0_2.length ≤ c0_2) (hmx : Mx w) (h : rehearse_scene.f k a0_0 a0_1 l0_2 a1 = some r) :
  Calls Try.prog 28 #[.agg #[.string a0_0, .int .i64 a0_1, .slice A0_2 l0_2.length c0_2], .int .i64 a1] w fun e w' => e = .returned (.int .i64 r) ∧ Below w.heap.size w w' := by
 have HMX_ := Aside0.mk hmx
 clear hmx
 have hu53 := Try.underlying53
 have HR0_2 := Aside0.mk hr0_2
 have HC0_2 := Aside0.mk hc0_2
 clear hr0_2 hc0_2
 have HB := Aside0.mk (Below.refl w.heap.size w)
 have H := h
 unfold rehearse_scene.f at H
 clear h
 replace H := Option.bind_eq_some_iff.mp H
 obtain ⟨t110, A30, H⟩ := H
 try dsimp only at H
 have A3 := Aside0.mk A30
 clear A30
 by_cases c4 : t110 = true
 rotate_left
 ·
  replace c4 := Bool.eq_false_iff.mpr c4
  subst c4
  rw [if_neg (show ¬ (false = true) by decide)] at H
  obtain rfl := Option.some.inj H
  go_enter Try.func28, Try.ntmps28
  go_wp2_with (first | ((with_reducible refine gate_dst (N := 2) rfl ?_); refine box_event rfl (N := 2) rfl (cs := #[.string a0_0, .int .i64 a0_1, .slice A0_2 l0_2.length c0_2]) (t := 53) (by first | (go_simp; done) | (go_simp; rfl)) ?_; intro gb1 hg w32 hbox hb; have BK1 := Aside0.mk hbox; have GW1 := mGw HB hg; have GE1 := GW1; replace HB := mSt HB hb; clear hb hbox hg; have hcz33 := blk_cell BK1.out; have hfz33 := blk_frozen BK1.out) | ((with_reducible refine gate_callee (f := 45) rfl ?_); refine goesL_ (some 11) rfl rfl Try.func45 (by kernel_rfl) rfl #[.string a0_0] rfl (mA1 rfl) ?_; (with_reducible refine (ident_Valid.calls k a0_0 false _ (Mx.below HMX_.out HB.out) A3.out).mono ?_); rintro e w' ⟨rfl, ⟨nd, rfl⟩⟩; refine ⟨_, rfl, ?_⟩))
  go_ret
  exact ⟨rfl, hO HB⟩
 subst c4
 rw [if_pos rfl] at H
 have HC5 := Aside0.mk H
 clear H
 go_enter Try.func28, Try.ntmps28
 go_upto_region 3 with (first | ((with_reducible refine gate_dst (N := 2) rfl ?_); refine box_event rfl (N := 2) rfl (cs := #[.string a0_0, .int .i64 a0_1, .slice A0_2 l0_2.length c0_2]) (t := 53) (by first | (go_simp; done) | (go_simp; rfl)) ?_; intro gb1 hg w6 hbox hb; have BK1 := Aside0.mk hbox; have GW1 := mGw HB hg; have GE1 := GW1; replace HB := mSt HB hb; clear hb hbox hg; have hcz7 := blk_cell BK1.out; have hfz7 := blk_frozen BK1.out) | ((with_reducible refine gate_callee (f := 45) rfl ?_); refine goesL_ (some 11) rfl rfl Try.func45 (by kernel_rfl) rfl #[.string a0_0] rfl (mA1 rfl) ?_; (with_reducible refine (ident_Valid.calls k a0_0 true _ (Mx.below HMX_.out HB.out) A3.out).mono ?_); rintro e w' ⟨rfl, ⟨nd, rfl⟩⟩; refine ⟨_, rfl, ?_⟩))
 (try simp only [Act.put, List.setIfInBounds_toArray, List.set_cons_zero, List.set_cons_succ])
 go_cut [21] (fun v21 wc => ∃ (kq : Nat) (x21_4 : Bool), v21 = .bool x21_4 ∧ Aside0 (rehearse_scene.j0 kq x21_4 a0_0 a0_1 l0_2 = some r) ∧ Aside0 (kq ≤ k) ∧ Aside0 (wc.heap[gb1]? = some (.cells #[.string a0_0, .int .i64 a0_1, (.slice A0_2 l0_2.length c0_2)] 53 (0, 0))) ∧ Aside0 (Below w.heap.size w wc))
 case first =>
  have H := HC5.out
  clear HC5
  by_cases c8 : a0_1 < 1
  rotate_left
  ·
   rw [if_neg c8] at H
   have c8b0 := decide_eq_false c8
   clear c8
   (first | rw [c8b0] | (simp only [i64_w, i32_w]; rw [c8b0]) | skip)
   have H' := Aside0.mk H
   clear H
   have hcz10 := blk_cell BK1.out; have hfz10 := blk_frozen BK1.out
   go_wp2
   go_meet
   case rel => exact ⟨_, (decide (a0_1 > a1)), rfl, H', ⟨by first | omega | exact Nat.le_refl _⟩, ⟨BK1.out⟩, ⟨hO HB⟩⟩
  rw [if_pos c8] at H
  have c8b0 := decide_eq_true c8
  clear c8
  (first | rw [c8b0] | (simp only [i64_w, i32_w]; rw [c8b0]) | skip)
  have H' := Aside0.mk H
  clear H
  have hcz9 := blk_cell BK1.out; have hfz9 := blk_frozen BK1.out
  go_wp2
  go_meet
  case rel => exact ⟨_, (true), rfl, H', ⟨by first | omega | exact Nat.le_refl _⟩, ⟨BK1.out⟩, ⟨hO HB⟩⟩
 case rest =>
  clear HC5; try clear c2; try clear p2; try clear c4; try clear c8; try clear c8b0; try clear hcz10_0; try clear hcz10_1; try clear hcz10_2; try clear hcz7_0; try clear hcz7_1; try clear hcz7_2; try clear hcz9_0; try clear hcz9_1; try clear hcz9_2; try clear hfz10_0; try clear hfz10_1; try clear hfz10_2; try clear hfz7_0; try clear hfz7_1; try clear hfz7_2; try clear hfz9_0; try clear hfz9_1; try clear hfz9_2
  obtain ⟨kq, x21_4, rfl, HA, HJ4, BK1, HB⟩ := hcut
  cases kq with
  | zero => exact absurd HA.out (by simp [rehearse_scene.j0])
  | succ kj4 =>
   have H := HA.out
   clear HA
   simp only [rehearse_scene.j0] at H
   by_cases c11 : x21_4 = true
   ·
    subst c11
    rw [if_pos rfl] at H
    obtain rfl := Option.some.inj H
    go_wp2
    go_ret
    exact ⟨rfl, HB.out⟩
   replace c11 := Bool.eq_false_iff.mpr c11
   subst c11
   rw [if_neg (show ¬ (false = true) by decide)] at H
   by_cases c12 : (l0_2.length : Int) = 0
   ·
    rw [if_pos c12] at H
    have c12b0 := beq_iff_eq.mpr c12
    have c12b1 := bne_eq_false_iff_eq.mpr c12
    clear c12
    obtain rfl := Option.some.inj H
    have hcz13 := blk_cell BK1.out; have hfz13 := blk_frozen BK1.out
    go_wp2
    go_ret
    exact ⟨rfl, HB.out⟩
   rw [if_neg c12] at H
   have c12b0 := beq_eq_false_iff_ne.mpr c12
   have c12b1 := bne_iff_ne.mpr c12
   have c12b2 : ¬ (l0_2 = []) := fun h_ => c12 (by rw [h_]; rfl)
   have H' := Aside0.mk H
   clear H
   have hcz14 := blk_cell BK1.out; have hfz14 := blk_frozen BK1.out
   go_wp2
   go_loopg [29] kj4 (fun kq v29 w' => ∃ (x29_2 : Int), v29 = .int .i64 x29_2 ∧ Aside0 (rehearse_scene.l0 kq l0_2 (l0_2.length : Int) x29_2 a0_0 a0_1 l0_2 = some r) ∧ Aside0 (kq ≤ kj4) ∧ Aside0 (w'.heap[gb1]? = some (.cells #[.string a0_0, .int .i64 a0_1, (.slice A0_2 l0_2.length c0_2)] 53 (0, 0))) ∧ Aside0 (Below w.heap.size w w'))
   case atStart => exact ⟨(0), rfl, H', ⟨Nat.le_refl _⟩, ⟨BK1.out⟩, ⟨HB.out⟩⟩
   case round =>
    clear H'
    try clear c1; try clear c2; try clear p2; try clear c4; try clear c8; try clear c8b0; try clear c11; try clear c12; try clear c12b0; try clear c12b1; try clear c12b2; try clear hcz10_0; try clear hcz10_1; try clear hcz10_2; try clear hcz13_0; try clear hcz13_1; try clear hcz13_2; try clear hcz14_0; try clear hcz14_1; try clear hcz14_2; try clear hcz7_0; try clear hcz7_1; try clear hcz7_2; try clear hcz9_0; try clear hcz9_1; try clear hcz9_2; try clear hfz10_0; try clear hfz10_1; try clear hfz10_2; try clear hfz13_0; try clear hfz13_1; try clear hfz13_2; try clear hfz14_0; try clear hfz14_1; try clear hfz14_2; try clear hfz7_0; try clear hfz7_1; try clear hfz7_2; try clear hfz9_0; try clear hfz9_1; try clear hfz9_2
    obtain ⟨x29_2, rfl, HA, HK2, BK1, HB⟩ := hrel
    cases gk with
    | zero => exact absurd HA.out (by simp [rehearse_scene.l0])
    | succ k2 =>
     have H := HA.out
     clear HA
     simp only [rehearse_scene.l0] at H
     by_cases c15 : x29_2 < (l0_2.length : Int)
     ·
      rw [if_pos c15] at H
      have c15b0 := decide_eq_true c15
      clear c15
      obtain ⟨c16, H⟩ : (0 ≤ x29_2) ∧ _ := mIf H
      have c16b0 := decide_eq_true c16
      clear c16
      obtain ⟨c17, H⟩ : (x29_2 < (l0_2.length : Int)) ∧ _ := mIf H
      have c17b0 := decide_eq_true c17
      clear c17
      by_cases c18 : (rd l0_2 x29_2) < 0
      ·
       rw [if_pos c18] at H
       have c18b0 := decide_eq_true c18
       clear c18
       obtain rfl := Option.some.inj H
       have p111 : 0 ≤ (x29_2 : Int) := of_decide_eq_true (by assumption)
       have q111 : x29_2 < (l0_2.length : Int) := of_decide_eq_true (by assumption)
       obtain ⟨ad111, e111, hx111_0⟩ := Kd.at_int HR0_2.out x29_2 p111 q111
       cases e111
       replace hx111_0 := mHx HB hx111_0
       replace p111 := eq_true p111
       replace q111 := eq_true q111
       go_wp2
       go_ret
       exact ⟨rfl, HB.out⟩
      rw [if_neg c18] at H
      have c18b0 := decide_eq_false c18
      clear c18
      by_cases c19 : (rd l0_2 x29_2) ≥ 24
      ·
       rw [if_pos c19] at H
       have c19b0 := decide_eq_true c19
       clear c19
       obtain rfl := Option.some.inj H
       have p111 : 0 ≤ (x29_2 : Int) := of_decide_eq_true (by assumption)
       have q111 : x29_2 < (l0_2.length : Int) := of_decide_eq_true (by assumption)
       obtain ⟨ad111, e111, hx111_0⟩ := Kd.at_int HR0_2.out x29_2 p111 q111
       cases e111
       replace hx111_0 := mHx HB hx111_0
       replace p111 := eq_true p111
       replace q111 := eq_true q111
       go_wp2
       go_ret
       exact ⟨rfl, HB.out⟩
      rw [if_neg c19] at H
      have c19b0 := decide_eq_false c19
      clear c19
      have H' := Aside0.mk H
      clear H
      have p111 : 0 ≤ (x29_2 : Int) := of_decide_eq_true (by assumption)
      have q111 : x29_2 < (l0_2.length : Int) := of_decide_eq_true (by assumption)
      obtain ⟨ad111, e111, hx111_0⟩ := Kd.at_int HR0_2.out x29_2 p111 q111
      cases e111
      replace hx111_0 := mHx HB hx111_0
      replace p111 := eq_true p111
      replace q111 := eq_true q111
      go_wp2
      go_roundg k2
      case measure => have := HJ4.out; have := HK2.out; omega
      case rel => exact ⟨(wrap64 (x29_2 + 1)), rfl, H', ⟨by have := HJ4.out; have := HK2.out; omega⟩, ⟨BK1.out⟩, ⟨HB.out⟩⟩
     rw [if_neg c15] at H
     have c15b0 := decide_eq_false c15
     clear c15
     have H' := Aside0.mk H
     clear H
     have hcz20 := blk_cell BK1.out; have hfz20 := blk_frozen BK1.out
     go_wp2
     go_loopg [43] k2 (fun kq v43 w' => ∃ (x43_3 : Int), v43 = .int .i64 x43_3 ∧ Aside0 (rehearse_scene.l1 kq l0_2 (l0_2.length : Int) x43_3 a0_0 a0_1 l0_2 = some r) ∧ Aside0 (kq ≤ k2) ∧ Aside0 (w'.heap[gb1]? = some (.cells #[.string a0_0, .int .i64 a0_1, (.slice A0_2 l0_2.length c0_2)] 53 (0, 0))) ∧ Aside0 (Below w.heap.size w w'))
     case atStart => exact ⟨(0), rfl, H', ⟨Nat.le_refl _⟩, ⟨BK1.out⟩, ⟨HB.out⟩⟩
     case round =>
      clear H'
      clear c15b0
      obtain ⟨x43_3, rfl, HA, HK3, BK1, HB⟩ := hrel
      cases gk with
      | zero => exact absurd HA.out (by simp [rehearse_scene.l1])
      | succ k3 =>
       have H := HA.out
       clear HA
       simp only [rehearse_scene.l1] at H
       by_cases c21 : x43_3 < (l0_2.length : Int)
       rotate_left
       ·
        rw [if_neg c21] at H
        have c21b0 := decide_eq_false c21
        clear c21
        obtain rfl := Option.some.inj H
        go_wp2
        go_ret
        exact ⟨rfl, HB.out⟩
       rw [if_pos c21] at H
       have c21b0 := decide_eq_true c21
       clear c21
       obtain ⟨c22, H⟩ : (0 ≤ x43_3) ∧ _ := mIf H
       have c22b0 := decide_eq_true c22
       clear c22
       obtain ⟨c23, H⟩ : (x43_3 < (l0_2.length : Int)) ∧ _ := mIf H
       have c23b0 := decide_eq_true c23
       clear c23
       have c24b0 := eq_true (of_decide_eq_true (by assumption) : 0 ≤ x43_3)
       obtain ⟨c25, H⟩ : (x43_3 ≤ (l0_2.length : Int)) ∧ _ := mIf H
       have c25b0 := eq_true c25
       have c25b1 := decide_eq_true c25
       clear c25
       replace H := Option.bind_eq_some_iff.mp H
       obtain ⟨t114, A260, H⟩ := H
       try dsimp only at H
       have A26 := Aside0.mk A260
       clear A260
       by_cases c27 : t114 = true
       ·
        subst c27
        rw [if_pos rfl] at H
        obtain rfl := Option.some.inj H
        have p112 : 0 ≤ (x43_3 : Int) := of_decide_eq_true (by assumption)
        have q112 : x43_3 < (l0_2.length : Int) := of_decide_eq_true (by assumption)
        obtain ⟨ad112, e112, hx112_0⟩ := Kd.at_int HR0_2.out x43_3 p112 q112
        cases e112
        replace hx112_0 := mHx HB hx112_0
        replace p112 := eq_true p112
        replace q112 := eq_true q112
        have hcz28 := blk_cell BK1.out; have hfz28 := blk_frozen BK1.out
        obtain ⟨i029, hi029, _, hsz29, _⟩ := info_parts info3
        obtain ⟨hcut29, hA29, hC29⟩ := print_take_of (P := Try.prog) (Value.int .i64) 0 51 3 .i64 Try.underlying51 hi029 hsz29 (some ad112) c0_2 l0_2 x43_3 (of_decide_eq_true (by assumption)) (of_decide_eq_true (by assumption)) HC0_2.out
        have HR113 := Aside0.mk (Kd.C_of_reads (h1 := fun _ => rfl) (hA29 _ (Kd.reads_of_C HR0_2.out)))
        have HC113 := Aside0.mk hC29
        clear hA29 hC29 hi029 hsz29
        go_wp2_with (first | ((with_reducible refine gate_callee (f := 46) rfl ?_); refine goesL_ (some 53) rfl rfl Try.func46 (by kernel_rfl) rfl #[.slice (some ad112) (l0_2.take (x43_3 : Int).toNat).length c0_2, .int .i64 (rd l0_2 x43_3)] rfl (by (try simp only [List.map_toArray, List.map_cons, List.map_nil]); first | done | (rw [show (l0_2.take (x43_3 : Int).toNat).length = x43_3.toNat from (by rw [List.length_take]; have h_ : (x43_3 : Int) ≤ (l0_2.length : Int) := of_decide_eq_true (by assumption); omega)] <;> rfl) | rfl | (simp only [List.length_drop, List.length_take]; rfl)) ?_; (with_reducible refine (slices_Contains_int_int.calls k3 _ _ (l0_2.take (x43_3 : Int).toNat) (rd l0_2 x43_3) true _ ?side1 ?side2 A26.out).mono ?_); (case side1 => exact Kd.C_below HR113.out HB.out); (case side2 => exact HC113.out); rintro e w' ⟨rfl, ⟨nd, rfl⟩⟩; refine ⟨_, rfl, ?_⟩))
        go_ret
        exact ⟨rfl, hO HB⟩
       replace c27 := Bool.eq_false_iff.mpr c27
       subst c27
       rw [if_neg (show ¬ (false = true) by decide)] at H
       have H' := Aside0.mk H
       clear H
       have p112 : 0 ≤ (x43_3 : Int) := of_decide_eq_true (by assumption)
       have q112 : x43_3 < (l0_2.length : Int) := of_decide_eq_true (by assumption)
       obtain ⟨ad112, e112, hx112_0⟩ := Kd.at_int HR0_2.out x43_3 p112 q112
       cases e112
       replace hx112_0 := mHx HB hx112_0
       replace p112 := eq_true p112
       replace q112 := eq_true q112
       have hcz30 := blk_cell BK1.out; have hfz30 := blk_frozen BK1.out
       obtain ⟨i031, hi031, _, hsz31, _⟩ := info_parts info3
       obtain ⟨hcut31, hA31, hC31⟩ := print_take_of (P := Try.prog) (Value.int .i64) 0 51 3 .i64 Try.underlying51 hi031 hsz31 (some ad112) c0_2 l0_2 x43_3 (of_decide_eq_true (by assumption)) (of_decide_eq_true (by assumption)) HC0_2.out
       have HR113 := Aside0.mk (Kd.C_of_reads (h1 := fun _ => rfl) (hA31 _ (Kd.reads_of_C HR0_2.out)))
       have HC113 := Aside0.mk hC31
       clear hA31 hC31 hi031 hsz31
       go_wp2_with (first | ((with_reducible refine gate_callee (f := 46) rfl ?_); refine goesL_ (some 53) rfl rfl Try.func46 (by kernel_rfl) rfl #[.slice (some ad112) (l0_2.take (x43_3 : Int).toNat).length c0_2, .int .i64 (rd l0_2 x43_3)] rfl (by (try simp only [List.map_toArray, List.map_cons, List.map_nil]); first | done | (rw [show (l0_2.take (x43_3 : Int).toNat).length = x43_3.toNat from (by rw [List.length_take]; have h_ : (x43_3 : Int) ≤ (l0_2.length : Int) := of_decide_eq_true (by assumption); omega)] <;> rfl) | rfl | (simp only [List.length_drop, List.length_take]; rfl)) ?_; (with_reducible refine (slices_Contains_int_int.calls k3 _ _ (l0_2.take (x43_3 : Int).toNat) (rd l0_2 x43_3) false _ ?side1 ?side2 A26.out).mono ?_); (case side1 => exact Kd.C_below HR113.out HB.out); (case side2 => exact HC113.out); rintro e w' ⟨rfl, ⟨nd, rfl⟩⟩; refine ⟨_, rfl, ?_⟩))
       go_roundg k3
       case measure => have := HJ4.out; have := HK2.out; have := HK3.out; omega
       case rel => exact ⟨(wrap64 (x43_3 + 1)), rfl, H', ⟨by have := HJ4.out; have := HK2.out; have := HK3.out; omega⟩, ⟨BK1.out⟩, ⟨hO HB⟩⟩
mutual
def rehearse_Check.j0 : Nat → Bool → List (S53) → List (S55) → List (S59) → Int → Option (Int)
 | 0, _, _, _, _, _ => none
 | k + 1, x17, x116000, x116001, x116002, x116003 => if x17 = true then (some 1) else (if (x116000.length : Int) > 10 then (some 3) else (rehearse_Check.l0 k x116000 (x116000.length : Int) 0 x116000 x116001 x116002 x116003))
def rehearse_Check.l0 : Nat → List (S53) → Int → Int → List (S53) → List (S55) → List (S59) → Int → Option (Int)
 | 0, _, _, _, _, _, _, _ => none
 | k + 1, x23, x24, x25, x116000, x116001, x116002, x116003 => if x25 < x24 then (if 0 ≤ x25 then (if x25 < (x23.length : Int) then ((rehearse_scene.f k ((rd_T53 x23 x25).f0) ((rd_T53 x23 x25).f1) ((rd_T53 x23 x25).f2) x116003).bind fun t118 => (if t118 = 0 then (rehearse_Check.l0 k x23 x24 (wrap64 (x25 + 1)) x116000 x116001 x116002 x116003) else (some t118))) else (none)) else (none)) else (if (x116001.length : Int) < 1 then (rehearse_Check.j2 k true x116000 x116001 x116002 x116003) else (rehearse_Check.j2 k (decide ((x116001.length : Int) > 4)) x116000 x116001 x116002 x116003))
def rehearse_Check.j2 : Nat → Bool → List (S53) → List (S55) → List (S59) → Int → Option (Int)
 | 0, _, _, _, _, _ => none
 | k + 1, x46, x116000, x116001, x116002, x116003 => if x46 = true then (some 41) else (rehearse_Check.l1 k x116001 (x116001.length : Int) 0 x116000 x116001 x116002 x116003)
def rehearse_Check.l1 : Nat → List (S55) → Int → Int → List (S53) → List (S55) → List (S59) → Int → Option (Int)
 | 0, _, _, _, _, _, _, _ => none
 | k + 1, x48, x49, x50, x116000, x116001, x116002, x116003 => if x50 < x49 then (if 0 ≤ x50 then (if x50 < (x48.length : Int) then (if ((rd_T55 x48 x50).f0) < 1 then (some 41) else (if ((rd_T55 x48 x50).f0) > 24 then (some 41) else (rehearse_Check.l1 k x48 x49 (wrap64 (x50 + 1)) x116000 x116001 x116002 x116003))) else (none)) else (none)) else (if (x116002.length : Int) > 512 then (some 3) else (rehearse_Check.l2 k x116002 (x116002.length : Int) 0 x116000 x116001 x116002 x116003))
def rehearse_Check.l2 : Nat → List (S59) → Int → Int → List (S53) → List (S55) → List (S59) → Int → Option (Int)
 | 0, _, _, _, _, _, _, _ => none
 | k + 1, x68, x69, x70, x116000, x116001, x116002, x116003 => if x70 < x69 then (if 0 ≤ x70 then (if x70 < (x68.length : Int) then (if ((rd_T59 x68 x70).f0) < 0 then (some 42) else (if ((rd_T59 x68 x70).f0) ≥ 24 then (some 42) else (if ((rd_T59 x68 x70).f1.f0) < 0 then (some 42) else (if ((rd_T59 x68 x70).f1.f0) > ((rd_T59 x68 x70).f1.f1) then (some 42) else (if ((rd_T59 x68 x70).f1.f1) > x116003 then (some 42) else (rehearse_Check.l2 k x68 x69 (wrap64 (x70 + 1)) x116000 x116001 x116002 x116003)))))) else (none)) else (none)) else (some 0)
end
def rehearse_Check.f (k : Nat) (l0_0 : List (S53)) (l0_1 : List (S55)) (l0_2 : List (S59)) (a0_3 : Int) : Option (Int) := if a0_3 < 1 then (rehearse_Check.j0 k true l0_0 l0_1 l0_2 a0_3) else (rehearse_Check.j0 k (decide (a0_3 > 32)) l0_0 l0_1 l0_2 a0_3)
set_option maxHeartbeats 8000000 in
set_option maxRecDepth 100000 in
theorem rehearse_Check.calls (k : Nat) (A0_0 : Option Addr) (c0_0 : Nat) (l0_0 : List (S53)) (A0_1 : Option Addr) (c0_1 : Nat) (l0_1 : List (S55)) (A0_2 : Option Addr) (c0_2 : Nat) (l0_2 : List (S59)) (a0_3 : Int) (r : Int) (w : World) (hr0_0 : Kd.C k53 w A0_0 l0_0.length l0_0) (hc0_0 : l0_0.length ≤ c0_0) (hr0_1 : Kd.C k55 w A0_1 l0_1.length l0_1) (hc0_1 : l0_1.length ≤ c0_1) (hr0_2 : Kd.C k59 w A0_2 l0_2.length l0_2) (hc0_2 : l0_2.length ≤ c0_2) (hmx : Mx w) (h : rehearse_Check.f k l0_0 l0_1 l0_2 a0_3 = some r) :
  Calls Try.prog 13 #[.agg #[.slice A0_0 l0_0.length c0_0, .slice A0_1 l0_1.length c0_1, .slice A0_2 l0_2.length c0_2, .int .i64 a0_3]] w fun e w' => e = .returned (.int .i64 r) ∧ Below w.heap.size w w' := by
 have HMX_ := Aside0.mk hmx
 clear hmx
 have hu30 := Try.underlying30
 have hu53 := Try.underlying53
 have hu55 := Try.underlying55
 have hu59 := Try.underlying59
 have HR0_0 := Aside0.mk hr0_0
 have HC0_0 := Aside0.mk hc0_0
 clear hr0_0 hc0_0
 have HR0_1 := Aside0.mk hr0_1
 have HC0_1 := Aside0.mk hc0_1
 clear hr0_1 hc0_1
 have HR0_2 := Aside0.mk hr0_2
 have HC0_2 := Aside0.mk hc0_2
 clear hr0_2 hc0_2
 have HB := Aside0.mk (Below.refl w.heap.size w)
 have H := h
 unfold rehearse_Check.f at H
 clear h
 have HC2 := Aside0.mk H
 clear H
 go_enter Try.func13, Try.ntmps13
 go_upto_region 1 with (first | ((with_reducible refine gate_dst (N := 1) rfl ?_); (try (refine gate_guard (by rfl) ?_; dsimp only)); refine box_event rfl (N := 1) rfl (cs := #[.slice A0_0 l0_0.length c0_0, .slice A0_1 l0_1.length c0_1, .slice A0_2 l0_2.length c0_2, .int .i64 a0_3]) (t := 30) (by first | (go_simp; done) | (go_simp; rfl)) ?_; intro gb1 hg w3 hbox hb; have BK1 := Aside0.mk hbox; have GW1 := mGw HB hg; have GE1 := GW1; replace HB := mSt HB hb; clear hb hbox hg))
 (try simp only [Act.put, List.setIfInBounds_toArray, List.set_cons_zero, List.set_cons_succ])
 go_cut [17] (fun v17 wc => ∃ (kq : Nat) (x17_1 : Bool), v17 = .bool x17_1 ∧ Aside0 (rehearse_Check.j0 kq x17_1 l0_0 l0_1 l0_2 a0_3 = some r) ∧ Aside0 (kq ≤ k) ∧ Aside0 (wc.heap[gb1]? = some (.cells #[(.slice A0_0 l0_0.length c0_0), (.slice A0_1 l0_1.length c0_1), (.slice A0_2 l0_2.length c0_2), .int .i64 a0_3] 30 (0, 0))) ∧ Aside0 (Below w.heap.size w wc))
 case first =>
  have H := HC2.out
  clear HC2
  by_cases c4 : a0_3 < 1
  rotate_left
  ·
   rw [if_neg c4] at H
   have c4b0 := decide_eq_false c4
   clear c4
   (first | rw [c4b0] | (simp only [i64_w, i32_w]; rw [c4b0]) | skip)
   have H' := Aside0.mk H
   clear H
   have hcz6 := blk_cell BK1.out; have hfz6 := blk_frozen BK1.out
   go_wp2
   go_meet
   case rel => exact ⟨_, (decide (a0_3 > 32)), rfl, H', ⟨by first | omega | exact Nat.le_refl _⟩, ⟨BK1.out⟩, ⟨HB.out⟩⟩
  rw [if_pos c4] at H
  have c4b0 := decide_eq_true c4
  clear c4
  (first | rw [c4b0] | (simp only [i64_w, i32_w]; rw [c4b0]) | skip)
  have H' := Aside0.mk H
  clear H
  have hcz5 := blk_cell BK1.out; have hfz5 := blk_frozen BK1.out
  go_wp2
  go_meet
  case rel => exact ⟨_, (true), rfl, H', ⟨by first | omega | exact Nat.le_refl _⟩, ⟨BK1.out⟩, ⟨HB.out⟩⟩
 case rest =>
  clear HC2; try clear c1; try clear p2; try clear c4; try clear c4b0; try clear hcz5_0; try clear hcz5_1; try clear hcz5_2; try clear hcz5_3; try clear hcz6_0; try clear hcz6_1; try clear hcz6_2; try clear hcz6_3; try clear hfz5_0; try clear hfz5_1; try clear hfz5_2; try clear hfz5_3; try clear hfz6_0; try clear hfz6_1; try clear hfz6_2; try clear hfz6_3
  obtain ⟨kq, x17_1, rfl, HA, HJ1, BK1, HB⟩ := hcut
  cases kq with
  | zero => exact absurd HA.out (by simp [rehearse_Check.j0])
  | succ kj1 =>
   have H := HA.out
   clear HA
   simp only [rehearse_Check.j0] at H
   by_cases c7 : x17_1 = true
   ·
    subst c7
    rw [if_pos rfl] at H
    obtain rfl := Option.some.inj H
    go_wp2
    go_ret
    exact ⟨rfl, HB.out⟩
   replace c7 := Bool.eq_false_iff.mpr c7
   subst c7
   rw [if_neg (show ¬ (false = true) by decide)] at H
   by_cases c8 : (l0_0.length : Int) > 10
   ·
    rw [if_pos c8] at H
    have c8b0 := decide_eq_true c8
    have c8b1 : decide (10 < l0_0.length) = true := decide_eq_true (by omega)
    clear c8
    obtain rfl := Option.some.inj H
    have hcz9 := blk_cell BK1.out; have hfz9 := blk_frozen BK1.out
    go_wp2
    go_ret
    exact ⟨rfl, HB.out⟩
   rw [if_neg c8] at H
   have c8b0 := decide_eq_false c8
   have c8b1 : decide (10 < l0_0.length) = false := decide_eq_false (by omega)
   clear c8
   have H' := Aside0.mk H
   clear H
   have hcz10 := blk_cell BK1.out; have hfz10 := blk_frozen BK1.out
   go_wp2
   go_loopg [25] kj1 (fun kq v25 w' => ∃ (x25_2 : Int), v25 = .int .i64 x25_2 ∧ Aside0 (rehearse_Check.l0 kq l0_0 (l0_0.length : Int) x25_2 l0_0 l0_1 l0_2 a0_3 = some r) ∧ Aside0 (kq ≤ kj1) ∧ Aside0 (w'.heap[gb1]? = some (.cells #[(.slice A0_0 l0_0.length c0_0), (.slice A0_1 l0_1.length c0_1), (.slice A0_2 l0_2.length c0_2), .int .i64 a0_3] 30 (0, 0))) ∧ Aside0 (Below w.heap.size w w'))
   case atStart => exact ⟨(0), rfl, H', ⟨Nat.le_refl _⟩, ⟨BK1.out⟩, ⟨HB.out⟩⟩
   case round =>
    clear H'
    try clear c1; try clear p2; try clear c4; try clear c4b0; try clear c7; try clear c8; try clear c8b0; try clear c8b1; try clear hcz10_0; try clear hcz10_1; try clear hcz10_2; try clear hcz10_3; try clear hcz5_0; try clear hcz5_1; try clear hcz5_2; try clear hcz5_3; try clear hcz6_0; try clear hcz6_1; try clear hcz6_2; try clear hcz6_3; try clear hcz9_0; try clear hcz9_1; try clear hcz9_2; try clear hcz9_3; try clear hfz10_0; try clear hfz10_1; try clear hfz10_2; try clear hfz10_3; try clear hfz5_0; try clear hfz5_1; try clear hfz5_2; try clear hfz5_3; try clear hfz6_0; try clear hfz6_1; try clear hfz6_2; try clear hfz6_3; try clear hfz9_0; try clear hfz9_1; try clear hfz9_2; try clear hfz9_3
    obtain ⟨x25_2, rfl, HA, HK2, BK1, HB⟩ := hrel
    cases gk with
    | zero => exact absurd HA.out (by simp [rehearse_Check.l0])
    | succ k2 =>
     have H := HA.out
     clear HA
     simp only [rehearse_Check.l0] at H
     by_cases c11 : x25_2 < (l0_0.length : Int)
     ·
      rw [if_pos c11] at H
      have c11b0 := decide_eq_true c11
      clear c11
      obtain ⟨c12, H⟩ : (0 ≤ x25_2) ∧ _ := mIf H
      have c12b0 := decide_eq_true c12
      clear c12
      obtain ⟨c13, H⟩ : (x25_2 < (l0_0.length : Int)) ∧ _ := mIf H
      have c13b0 := decide_eq_true c13
      clear c13
      replace H := Option.bind_eq_some_iff.mp H
      obtain ⟨t118, A140, H⟩ := H
      try dsimp only at H
      have A14 := Aside0.mk A140
      clear A140
      by_cases c15 : t118 = 0
      rotate_left
      ·
       rw [if_neg c15] at H
       have c15b0 := beq_eq_false_iff_ne.mpr c15
       have c15b1 := bne_iff_ne.mpr c15
       obtain rfl := Option.some.inj H
       have p116 : 0 ≤ (x25_2 : Int) := of_decide_eq_true (by assumption)
       have q116 : x25_2 < (l0_0.length : Int) := of_decide_eq_true (by assumption)
       obtain ⟨ad116, A116_2, c116_2, e116, hx116_0, hx116_1, hx116_2, hl116_2, hi116_2⟩ := at_T53 HR0_0.out x25_2 p116 q116
       cases e116
       replace hx116_0 := mHx HB hx116_0
       replace hx116_1 := mHx HB hx116_1
       replace hx116_2 := mHx HB hx116_2
       have HR116_2 := Aside0.mk hi116_2
       have HC116_2 := Aside0.mk hl116_2
       clear hi116_2 hl116_2
       replace p116 := eq_true p116
       replace q116 := eq_true q116
       go_wp2_with (first | ((with_reducible refine gate_dst (N := 4) rfl ?_); (try (refine gate_guard (by rfl) ?_; dsimp only)); refine box_event rfl (N := 4) rfl (cs := #[.string (⟨#[]⟩ : ByteArray), .int .i64 0, .slice none 0 0]) (t := 53) (by first | (go_simp; done) | (go_simp; rfl)) ?_; intro gb2 hg w21 hbox hb; have BK2 := Aside0.mk hbox; have GW2 := Aside0.mk ((by rw [hg]; exact (below_size (hO HB)) : w.heap.size ≤ gb2)); have GE2 := GW2; replace HB := mSx HB hb; have NB1_2 := mNe BK1 hg; have NB2_1 := mSy NB1_2; replace BK1 := mBb BK1 hb; clear hb hbox hg; have hnb22 := NB2_1.out; have hnc22 := NB1_2.out; have hcz23 := blk_cell BK2.out; have hfz23 := blk_frozen BK2.out; have hcz24 := blk_cell BK1.out; have hfz24 := blk_frozen BK1.out) | ((with_reducible refine gate_callee (f := 28) rfl ?_); refine goesL_ (some 32) rfl rfl Try.func28 (by kernel_rfl) rfl #[.agg #[.string ((rd_T53 l0_0 x25_2).f0), .int .i64 ((rd_T53 l0_0 x25_2).f1), .slice A116_2 ((rd_T53 l0_0 x25_2).f2).length c116_2], .int .i64 a0_3] rfl (mA2 rfl rfl) ?_; (with_reducible refine (rehearse_scene.calls k2 ((rd_T53 l0_0 x25_2).f0) ((rd_T53 l0_0 x25_2).f1) _ _ ((rd_T53 l0_0 x25_2).f2) a0_3 t118 _ ?side1 ?side2 ?sidem_ A14.out).mono ?_); (case sidem_ => first | ((repeat (first | exact HMX_.out | apply Mx.drewN | apply Mx.drew)); done) | (refine Mx.below HMX_.out ?_; (repeat (first | (with_reducible first | exact HB.out | apply below_alloc | apply pw_below_drewN | apply below_drew1 | refine below_set ?_ (Aside0.out (by assumption))) | exact HB.out)); done)); (case side1 => exact Kd.C_below HR116_2.out (hO HB)); (case side2 => exact HC116_2.out); rintro e w25 ⟨rfl, hb⟩; refine ⟨_, rfl, ?_⟩; replace BK1 := Aside0.mk (blk_below (g := gb1) (o := .cells #[.slice (some ad116) l0_0.length c0_0, .slice A0_1 l0_1.length c0_1, .slice A0_2 l0_2.length c0_2, .int .i64 a0_3] 30 (0, 0)) (by refine blk_far ?_ NB1_2.out _; refine blk_far ?_ NB1_2.out _; refine blk_far ?_ NB1_2.out _; exact BK1.out) hb); replace BK2 := Aside0.mk (blk_below (g := gb2) (o := .cells #[.string ((rd_T53 l0_0 x25_2).f0), .int .i64 ((rd_T53 l0_0 x25_2).f1), .slice A116_2 ((rd_T53 l0_0 x25_2).f2).length c116_2] 53 (0, 0)) (by refine blk_put (cs := #[.string ((rd_T53 l0_0 x25_2).f0), .int .i64 ((rd_T53 l0_0 x25_2).f1), .slice none 0 0]) ?_ 2 _ rfl; refine blk_put (cs := #[.string ((rd_T53 l0_0 x25_2).f0), .int .i64 0, .slice none 0 0]) ?_ 1 _ rfl; refine blk_put (cs := #[.string (⟨#[]⟩ : ByteArray), .int .i64 0, .slice none 0 0]) ?_ 0 _ rfl; exact BK2.out) hb); replace HB := mSx HB hb; (try clear hb)))
       go_ret
       exact ⟨rfl, HB.out⟩
      rw [if_pos c15] at H
      have c15b0 := beq_iff_eq.mpr c15
      have c15b1 := bne_eq_false_iff_eq.mpr c15
      clear c15
      have H' := Aside0.mk H
      clear H
      have p116 : 0 ≤ (x25_2 : Int) := of_decide_eq_true (by assumption)
      have q116 : x25_2 < (l0_0.length : Int) := of_decide_eq_true (by assumption)
      obtain ⟨ad116, A116_2, c116_2, e116, hx116_0, hx116_1, hx116_2, hl116_2, hi116_2⟩ := at_T53 HR0_0.out x25_2 p116 q116
      cases e116
      replace hx116_0 := mHx HB hx116_0
      replace hx116_1 := mHx HB hx116_1
      replace hx116_2 := mHx HB hx116_2
      have HR116_2 := Aside0.mk hi116_2
      have HC116_2 := Aside0.mk hl116_2
      clear hi116_2 hl116_2
      replace p116 := eq_true p116
      replace q116 := eq_true q116
      go_wp2_with (first | ((with_reducible refine gate_dst (N := 4) rfl ?_); (try (refine gate_guard (by rfl) ?_; dsimp only)); refine box_event rfl (N := 4) rfl (cs := #[.string (⟨#[]⟩ : ByteArray), .int .i64 0, .slice none 0 0]) (t := 53) (by first | (go_simp; done) | (go_simp; rfl)) ?_; intro gb2 hg w16 hbox hb; have BK2 := Aside0.mk hbox; have GW2 := Aside0.mk ((by rw [hg]; exact (below_size (hO HB)) : w.heap.size ≤ gb2)); have GE2 := GW2; replace HB := mSx HB hb; have NB1_2 := mNe BK1 hg; have NB2_1 := mSy NB1_2; replace BK1 := mBb BK1 hb; clear hb hbox hg; have hnb17 := NB2_1.out; have hnc17 := NB1_2.out; have hcz18 := blk_cell BK2.out; have hfz18 := blk_frozen BK2.out; have hcz19 := blk_cell BK1.out; have hfz19 := blk_frozen BK1.out) | ((with_reducible refine gate_callee (f := 28) rfl ?_); refine goesL_ (some 32) rfl rfl Try.func28 (by kernel_rfl) rfl #[.agg #[.string ((rd_T53 l0_0 x25_2).f0), .int .i64 ((rd_T53 l0_0 x25_2).f1), .slice A116_2 ((rd_T53 l0_0 x25_2).f2).length c116_2], .int .i64 a0_3] rfl (mA2 rfl rfl) ?_; (with_reducible refine (rehearse_scene.calls k2 ((rd_T53 l0_0 x25_2).f0) ((rd_T53 l0_0 x25_2).f1) _ _ ((rd_T53 l0_0 x25_2).f2) a0_3 t118 _ ?side1 ?side2 ?sidem_ A14.out).mono ?_); (case sidem_ => first | ((repeat (first | exact HMX_.out | apply Mx.drewN | apply Mx.drew)); done) | (refine Mx.below HMX_.out ?_; (repeat (first | (with_reducible first | exact HB.out | apply below_alloc | apply pw_below_drewN | apply below_drew1 | refine below_set ?_ (Aside0.out (by assumption))) | exact HB.out)); done)); (case side1 => exact Kd.C_below HR116_2.out (hO HB)); (case side2 => exact HC116_2.out); rintro e w20 ⟨rfl, hb⟩; refine ⟨_, rfl, ?_⟩; replace BK1 := Aside0.mk (blk_below (g := gb1) (o := .cells #[.slice (some ad116) l0_0.length c0_0, .slice A0_1 l0_1.length c0_1, .slice A0_2 l0_2.length c0_2, .int .i64 a0_3] 30 (0, 0)) (by refine blk_far ?_ NB1_2.out _; refine blk_far ?_ NB1_2.out _; refine blk_far ?_ NB1_2.out _; exact BK1.out) hb); replace BK2 := Aside0.mk (blk_below (g := gb2) (o := .cells #[.string ((rd_T53 l0_0 x25_2).f0), .int .i64 ((rd_T53 l0_0 x25_2).f1), .slice A116_2 ((rd_T53 l0_0 x25_2).f2).length c116_2] 53 (0, 0)) (by refine blk_put (cs := #[.string ((rd_T53 l0_0 x25_2).f0), .int .i64 ((rd_T53 l0_0 x25_2).f1), .slice none 0 0]) ?_ 2 _ rfl; refine blk_put (cs := #[.string ((rd_T53 l0_0 x25_2).f0), .int .i64 0, .slice none 0 0]) ?_ 1 _ rfl; refine blk_put (cs := #[.string (⟨#[]⟩ : ByteArray), .int .i64 0, .slice none 0 0]) ?_ 0 _ rfl; exact BK2.out) hb); replace HB := mSx HB hb; (try clear hb)))
      go_roundg k2
      case measure => have := HJ1.out; have := HK2.out; omega
      case rel => exact ⟨(wrap64 (x25_2 + 1)), rfl, H', ⟨by have := HJ1.out; have := HK2.out; omega⟩, ⟨BK1.out⟩, ⟨HB.out⟩⟩
     rw [if_neg c11] at H
     have c11b0 := decide_eq_false c11
     clear c11
     have HC26 := Aside0.mk H
     clear H
     go_upto_region 12 with (fail)
     go_cut [46] (fun v46 wc => ∃ (kq : Nat) (x46_25 : Bool), v46 = .bool x46_25 ∧ Aside0 (rehearse_Check.j2 kq x46_25 l0_0 l0_1 l0_2 a0_3 = some r) ∧ Aside0 (kq ≤ k2) ∧ Aside0 (wc.heap[gb1]? = some (.cells #[(.slice A0_0 l0_0.length c0_0), (.slice A0_1 l0_1.length c0_1), (.slice A0_2 l0_2.length c0_2), .int .i64 a0_3] 30 (0, 0))) ∧ Aside0 (Below w.heap.size w wc))
     case first =>
      have H := HC26.out
      clear HC26
      by_cases c27 : (l0_1.length : Int) < 1
      rotate_left
      ·
       rw [if_neg c27] at H
       have c27b0 := decide_eq_false c27
       have c27b1 : decide (l0_1.length < 1) = false := decide_eq_false (by omega)
       clear c27
       (first | rw [c27b0] | (simp only [i64_w, i32_w]; rw [c27b0]) | skip)
       have H' := Aside0.mk H
       clear H
       have hcz29 := blk_cell BK1.out; have hfz29 := blk_frozen BK1.out
       go_wp2
       go_meet
       case rel => exact ⟨_, (decide ((l0_1.length : Int) > 4)), rfl, H', ⟨by have := HJ1.out; have := HK2.out; first | omega | exact Nat.le_refl _⟩, ⟨BK1.out⟩, ⟨HB.out⟩⟩
      rw [if_pos c27] at H
      have c27b0 := decide_eq_true c27
      have c27b1 : decide (l0_1.length < 1) = true := decide_eq_true (by omega)
      clear c27
      (first | rw [c27b0] | (simp only [i64_w, i32_w]; rw [c27b0]) | skip)
      have H' := Aside0.mk H
      clear H
      have hcz28 := blk_cell BK1.out; have hfz28 := blk_frozen BK1.out
      go_wp2
      go_meet
      case rel => exact ⟨_, (true), rfl, H', ⟨by have := HJ1.out; have := HK2.out; first | omega | exact Nat.le_refl _⟩, ⟨BK1.out⟩, ⟨HB.out⟩⟩
     case rest =>
      clear HC26; try clear c1; try clear p1; try clear q1; try clear hx1; try clear c2; try clear p2; try clear c4; try clear c4b0; try clear p6; try clear c7; try clear c8; try clear c8b0; try clear c8b1; try clear c11; try clear c11b0; try clear p11; try clear q11; try clear hx11; try clear c12; try clear c12b0; try clear c13; try clear c13b0; try clear c15; try clear c15b0; try clear c15b1; try clear c17; try clear c22; try clear c27; try clear c27b0; try clear c27b1; try clear c28; try clear hcz10_0; try clear hcz10_1; try clear hcz10_2; try clear hcz10_3; try clear hcz18_0; try clear hcz18_1; try clear hcz18_2; try clear hcz19_0; try clear hcz19_1; try clear hcz19_2; try clear hcz19_3; try clear hcz23_0; try clear hcz23_1; try clear hcz23_2; try clear hcz24_0; try clear hcz24_1; try clear hcz24_2; try clear hcz24_3; try clear hcz28_0; try clear hcz28_1; try clear hcz28_2; try clear hcz28_3; try clear hcz29_0; try clear hcz29_1; try clear hcz29_2; try clear hcz29_3; try clear hcz5_0; try clear hcz5_1; try clear hcz5_2; try clear hcz5_3; try clear hcz6_0; try clear hcz6_1; try clear hcz6_2; try clear hcz6_3; try clear hcz9_0; try clear hcz9_1; try clear hcz9_2; try clear hcz9_3; try clear hfz10_0; try clear hfz10_1; try clear hfz10_2; try clear hfz10_3; try clear hfz18_0; try clear hfz18_1; try clear hfz18_2; try clear hfz19_0; try clear hfz19_1; try clear hfz19_2; try clear hfz19_3; try clear hfz23_0; try clear hfz23_1; try clear hfz23_2; try clear hfz24_0; try clear hfz24_1; try clear hfz24_2; try clear hfz24_3; try clear hfz28_0; try clear hfz28_1; try clear hfz28_2; try clear hfz28_3; try clear hfz29_0; try clear hfz29_1; try clear hfz29_2; try clear hfz29_3; try clear hfz5_0; try clear hfz5_1; try clear hfz5_2; try clear hfz5_3; try clear hfz6_0; try clear hfz6_1; try clear hfz6_2; try clear hfz6_3; try clear hfz9_0; try clear hfz9_1; try clear hfz9_2; try clear hfz9_3; try clear hx116_0; try clear hx116_1; try clear hx116_2; try clear p116; try clear q116
      obtain ⟨kq, x46_25, rfl, HA, HJ25, BK1, HB⟩ := hcut
      cases kq with
      | zero => exact absurd HA.out (by simp [rehearse_Check.j2])
      | succ kj25 =>
       have H := HA.out
       clear HA
       simp only [rehearse_Check.j2] at H
       by_cases c30 : x46_25 = true
       ·
        subst c30
        rw [if_pos rfl] at H
        obtain rfl := Option.some.inj H
        go_wp2
        go_ret
        exact ⟨rfl, HB.out⟩
       replace c30 := Bool.eq_false_iff.mpr c30
       subst c30
       rw [if_neg (show ¬ (false = true) by decide)] at H
       have H' := Aside0.mk H
       clear H
       have hcz31 := blk_cell BK1.out; have hfz31 := blk_frozen BK1.out
       go_wp2
       go_loopg [50] kj25 (fun kq v50 w' => ∃ (x50_4 : Int), v50 = .int .i64 x50_4 ∧ Aside0 (rehearse_Check.l1 kq l0_1 (l0_1.length : Int) x50_4 l0_0 l0_1 l0_2 a0_3 = some r) ∧ Aside0 (kq ≤ kj25) ∧ Aside0 (w'.heap[gb1]? = some (.cells #[(.slice A0_0 l0_0.length c0_0), (.slice A0_1 l0_1.length c0_1), (.slice A0_2 l0_2.length c0_2), .int .i64 a0_3] 30 (0, 0))) ∧ Aside0 (Below w.heap.size w w'))
       case atStart => exact ⟨(0), rfl, H', ⟨Nat.le_refl _⟩, ⟨BK1.out⟩, ⟨HB.out⟩⟩
       case round =>
        clear H'
        try clear c1; try clear p1; try clear q1; try clear hx1; try clear c2; try clear p2; try clear c3; try clear c4; try clear c4b0; try clear p6; try clear c7; try clear c8; try clear c8b0; try clear c8b1; try clear c11; try clear c11b0; try clear p11; try clear q11; try clear hx11; try clear c12; try clear c12b0; try clear c13; try clear c13b0; try clear c15; try clear c15b0; try clear c15b1; try clear c17; try clear c22; try clear c27; try clear c27b0; try clear c27b1; try clear c28; try clear c30; try clear hcz10_0; try clear hcz10_1; try clear hcz10_2; try clear hcz10_3; try clear hcz18_0; try clear hcz18_1; try clear hcz18_2; try clear hcz19_0; try clear hcz19_1; try clear hcz19_2; try clear hcz19_3; try clear hcz23_0; try clear hcz23_1; try clear hcz23_2; try clear hcz24_0; try clear hcz24_1; try clear hcz24_2; try clear hcz24_3; try clear hcz28_0; try clear hcz28_1; try clear hcz28_2; try clear hcz28_3; try clear hcz29_0; try clear hcz29_1; try clear hcz29_2; try clear hcz29_3; try clear hcz31_0; try clear hcz31_1; try clear hcz31_2; try clear hcz31_3; try clear hcz5_0; try clear hcz5_1; try clear hcz5_2; try clear hcz5_3; try clear hcz6_0; try clear hcz6_1; try clear hcz6_2; try clear hcz6_3; try clear hcz9_0; try clear hcz9_1; try clear hcz9_2; try clear hcz9_3; try clear hfz10_0; try clear hfz10_1; try clear hfz10_2; try clear hfz10_3; try clear hfz18_0; try clear hfz18_1; try clear hfz18_2; try clear hfz19_0; try clear hfz19_1; try clear hfz19_2; try clear hfz19_3; try clear hfz23_0; try clear hfz23_1; try clear hfz23_2; try clear hfz24_0; try clear hfz24_1; try clear hfz24_2; try clear hfz24_3; try clear hfz28_0; try clear hfz28_1; try clear hfz28_2; try clear hfz28_3; try clear hfz29_0; try clear hfz29_1; try clear hfz29_2; try clear hfz29_3; try clear hfz31_0; try clear hfz31_1; try clear hfz31_2; try clear hfz31_3; try clear hfz5_0; try clear hfz5_1; try clear hfz5_2; try clear hfz5_3; try clear hfz6_0; try clear hfz6_1; try clear hfz6_2; try clear hfz6_3; try clear hfz9_0; try clear hfz9_1; try clear hfz9_2; try clear hfz9_3; try clear hx116_0; try clear hx116_1; try clear hx116_2; try clear p116; try clear q116
        obtain ⟨x50_4, rfl, HA, HK4, BK1, HB⟩ := hrel
        cases gk with
        | zero => exact absurd HA.out (by simp [rehearse_Check.l1])
        | succ k4 =>
         have H := HA.out
         clear HA
         simp only [rehearse_Check.l1] at H
         by_cases c32 : x50_4 < (l0_1.length : Int)
         ·
          rw [if_pos c32] at H
          have c32b0 := decide_eq_true c32
          clear c32
          obtain ⟨c33, H⟩ : (0 ≤ x50_4) ∧ _ := mIf H
          have c33b0 := decide_eq_true c33
          clear c33
          obtain ⟨c34, H⟩ : (x50_4 < (l0_1.length : Int)) ∧ _ := mIf H
          have c34b0 := decide_eq_true c34
          clear c34
          by_cases c35 : ((rd_T55 l0_1 x50_4).f0) < 1
          ·
           rw [if_pos c35] at H
           have c35b0 := decide_eq_true c35
           clear c35
           obtain rfl := Option.some.inj H
           have p119 : 0 ≤ (x50_4 : Int) := of_decide_eq_true (by assumption)
           have q119 : x50_4 < (l0_1.length : Int) := of_decide_eq_true (by assumption)
           obtain ⟨ad119, e119, hx119_0⟩ := at_T55 HR0_1.out x50_4 p119 q119
           cases e119
           replace hx119_0 := mHx HB hx119_0
           replace p119 := eq_true p119
           replace q119 := eq_true q119
           go_wp2_with (first | ((with_reducible refine gate_dst (N := 7) rfl ?_); (try (refine gate_guard (by rfl) ?_; dsimp only)); refine box_event rfl (N := 7) rfl (cs := #[.int .i64 0]) (t := 55) (by first | (go_simp; done) | (go_simp; rfl)) ?_; intro gb3 hg w36 hbox hb; have BK3 := Aside0.mk hbox; have GW3 := mGw HB hg; have GE3 := GW3; replace HB := mSt HB hb; have NB1_3 := mNe BK1 hg; have NB3_1 := mSy NB1_3; replace BK1 := mBb BK1 hb; clear hb hbox hg; have hnb37 := NB3_1.out; have hnc37 := NB1_3.out; have hcz38 := blk_cell BK3.out; have hfz38 := blk_frozen BK3.out))
           go_ret
           exact ⟨rfl, hO HB⟩
          rw [if_neg c35] at H
          have c35b0 := decide_eq_false c35
          clear c35
          by_cases c39 : ((rd_T55 l0_1 x50_4).f0) > 24
          ·
           rw [if_pos c39] at H
           have c39b0 := decide_eq_true c39
           clear c39
           obtain rfl := Option.some.inj H
           have p119 : 0 ≤ (x50_4 : Int) := of_decide_eq_true (by assumption)
           have q119 : x50_4 < (l0_1.length : Int) := of_decide_eq_true (by assumption)
           obtain ⟨ad119, e119, hx119_0⟩ := at_T55 HR0_1.out x50_4 p119 q119
           cases e119
           replace hx119_0 := mHx HB hx119_0
           replace p119 := eq_true p119
           replace q119 := eq_true q119
           go_wp2_with (first | ((with_reducible refine gate_dst (N := 7) rfl ?_); (try (refine gate_guard (by rfl) ?_; dsimp only)); refine box_event rfl (N := 7) rfl (cs := #[.int .i64 0]) (t := 55) (by first | (go_simp; done) | (go_simp; rfl)) ?_; intro gb3 hg w40 hbox hb; have BK3 := Aside0.mk hbox; have GW3 := mGw HB hg; have GE3 := GW3; replace HB := mSt HB hb; have NB1_3 := mNe BK1 hg; have NB3_1 := mSy NB1_3; replace BK1 := mBb BK1 hb; clear hb hbox hg; have hnb41 := NB3_1.out; have hnc41 := NB1_3.out; have hcz42 := blk_cell BK3.out; have hfz42 := blk_frozen BK3.out))
           go_ret
           exact ⟨rfl, hO HB⟩
          rw [if_neg c39] at H
          have c39b0 := decide_eq_false c39
          clear c39
          have H' := Aside0.mk H
          clear H
          have p119 : 0 ≤ (x50_4 : Int) := of_decide_eq_true (by assumption)
          have q119 : x50_4 < (l0_1.length : Int) := of_decide_eq_true (by assumption)
          obtain ⟨ad119, e119, hx119_0⟩ := at_T55 HR0_1.out x50_4 p119 q119
          cases e119
          replace hx119_0 := mHx HB hx119_0
          replace p119 := eq_true p119
          replace q119 := eq_true q119
          go_wp2_with (first | ((with_reducible refine gate_dst (N := 7) rfl ?_); (try (refine gate_guard (by rfl) ?_; dsimp only)); refine box_event rfl (N := 7) rfl (cs := #[.int .i64 0]) (t := 55) (by first | (go_simp; done) | (go_simp; rfl)) ?_; intro gb3 hg w43 hbox hb; have BK3 := Aside0.mk hbox; have GW3 := mGw HB hg; have GE3 := GW3; replace HB := mSt HB hb; have NB1_3 := mNe BK1 hg; have NB3_1 := mSy NB1_3; replace BK1 := mBb BK1 hb; clear hb hbox hg; have hnb44 := NB3_1.out; have hnc44 := NB1_3.out; have hcz45 := blk_cell BK3.out; have hfz45 := blk_frozen BK3.out))
          go_roundg k4
          case measure => have := HJ1.out; have := HK2.out; have := HJ25.out; have := HK4.out; omega
          case rel => exact ⟨(wrap64 (x50_4 + 1)), rfl, H', ⟨by have := HJ1.out; have := HK2.out; have := HJ25.out; have := HK4.out; omega⟩, ⟨by refine blk_far ?_ NB1_3.out _; exact BK1.out⟩, ⟨hO HB⟩⟩
         rw [if_neg c32] at H
         have c32b0 := decide_eq_false c32
         clear c32
         by_cases c46 : (l0_2.length : Int) > 512
         ·
          rw [if_pos c46] at H
          have c46b0 := decide_eq_true c46
          have c46b1 : decide (512 < l0_2.length) = true := decide_eq_true (by omega)
          clear c46
          obtain rfl := Option.some.inj H
          have hcz47 := blk_cell BK1.out; have hfz47 := blk_frozen BK1.out
          go_wp2
          go_ret
          exact ⟨rfl, HB.out⟩
         rw [if_neg c46] at H
         have c46b0 := decide_eq_false c46
         have c46b1 : decide (512 < l0_2.length) = false := decide_eq_false (by omega)
         clear c46
         have H' := Aside0.mk H
         clear H
         have hcz48 := blk_cell BK1.out; have hfz48 := blk_frozen BK1.out
         go_wp2
         go_loopg [70] k4 (fun kq v70 w' => ∃ (x70_5 : Int), v70 = .int .i64 x70_5 ∧ Aside0 (rehearse_Check.l2 kq l0_2 (l0_2.length : Int) x70_5 l0_0 l0_1 l0_2 a0_3 = some r) ∧ Aside0 (kq ≤ k4) ∧ Aside0 (w'.heap[gb1]? = some (.cells #[(.slice A0_0 l0_0.length c0_0), (.slice A0_1 l0_1.length c0_1), (.slice A0_2 l0_2.length c0_2), .int .i64 a0_3] 30 (0, 0))) ∧ Aside0 (Below w.heap.size w w'))
         case atStart => exact ⟨(0), rfl, H', ⟨Nat.le_refl _⟩, ⟨BK1.out⟩, ⟨HB.out⟩⟩
         case round =>
          clear H'
          clear c32b0 c46b0 c46b1
          obtain ⟨x70_5, rfl, HA, HK5, BK1, HB⟩ := hrel
          cases gk with
          | zero => exact absurd HA.out (by simp [rehearse_Check.l2])
          | succ k5 =>
           have H := HA.out
           clear HA
           simp only [rehearse_Check.l2] at H
           by_cases c49 : x70_5 < (l0_2.length : Int)
           rotate_left
           ·
            rw [if_neg c49] at H
            have c49b0 := decide_eq_false c49
            clear c49
            obtain rfl := Option.some.inj H
            go_wp2
            go_ret
            exact ⟨rfl, HB.out⟩
           rw [if_pos c49] at H
           have c49b0 := decide_eq_true c49
           clear c49
           obtain ⟨c50, H⟩ : (0 ≤ x70_5) ∧ _ := mIf H
           have c50b0 := decide_eq_true c50
           clear c50
           obtain ⟨c51, H⟩ : (x70_5 < (l0_2.length : Int)) ∧ _ := mIf H
           have c51b0 := decide_eq_true c51
           clear c51
           by_cases c52 : ((rd_T59 l0_2 x70_5).f0) < 0
           ·
            rw [if_pos c52] at H
            have c52b0 := decide_eq_true c52
            clear c52
            obtain rfl := Option.some.inj H
            have p121 : 0 ≤ (x70_5 : Int) := of_decide_eq_true (by assumption)
            have q121 : x70_5 < (l0_2.length : Int) := of_decide_eq_true (by assumption)
            obtain ⟨ad121, e121, hx121_0, hx121_1, hx121_2⟩ := at_T59 HR0_2.out x70_5 p121 q121
            cases e121
            replace hx121_0 := mHx HB hx121_0
            replace hx121_1 := mHx HB hx121_1
            replace hx121_2 := mHx HB hx121_2
            replace p121 := eq_true p121
            replace q121 := eq_true q121
            go_wp2_with (first | ((with_reducible refine gate_dst (N := 9) rfl ?_); (try (refine gate_guard (by rfl) ?_; dsimp only)); refine box_event rfl (N := 9) rfl (cs := #[.int .i64 0, .int .i64 0, .int .i64 0]) (t := 59) (by first | (go_simp; done) | (go_simp; rfl)) ?_; intro gb4 hg w53 hbox hb; have BK4 := Aside0.mk hbox; have GW4 := mGw HB hg; have GE4 := GW4; replace HB := mSt HB hb; have NB1_4 := mNe BK1 hg; have NB4_1 := mSy NB1_4; replace BK1 := mBb BK1 hb; clear hb hbox hg; have hnb54 := NB4_1.out; have hnc54 := NB1_4.out; have hcz55 := blk_cell BK4.out; have hfz55 := blk_frozen BK4.out))
            go_ret
            exact ⟨rfl, hO HB⟩
           rw [if_neg c52] at H
           have c52b0 := decide_eq_false c52
           clear c52
           by_cases c56 : ((rd_T59 l0_2 x70_5).f0) ≥ 24
           ·
            rw [if_pos c56] at H
            have c56b0 := decide_eq_true c56
            clear c56
            obtain rfl := Option.some.inj H
            have p121 : 0 ≤ (x70_5 : Int) := of_decide_eq_true (by assumption)
            have q121 : x70_5 < (l0_2.length : Int) := of_decide_eq_true (by assumption)
            obtain ⟨ad121, e121, hx121_0, hx121_1, hx121_2⟩ := at_T59 HR0_2.out x70_5 p121 q121
            cases e121
            replace hx121_0 := mHx HB hx121_0
            replace hx121_1 := mHx HB hx121_1
            replace hx121_2 := mHx HB hx121_2
            replace p121 := eq_true p121
            replace q121 := eq_true q121
            go_wp2_with (first | ((with_reducible refine gate_dst (N := 9) rfl ?_); (try (refine gate_guard (by rfl) ?_; dsimp only)); refine box_event rfl (N := 9) rfl (cs := #[.int .i64 0, .int .i64 0, .int .i64 0]) (t := 59) (by first | (go_simp; done) | (go_simp; rfl)) ?_; intro gb4 hg w57 hbox hb; have BK4 := Aside0.mk hbox; have GW4 := mGw HB hg; have GE4 := GW4; replace HB := mSt HB hb; have NB1_4 := mNe BK1 hg; have NB4_1 := mSy NB1_4; replace BK1 := mBb BK1 hb; clear hb hbox hg; have hnb58 := NB4_1.out; have hnc58 := NB1_4.out; have hcz59 := blk_cell BK4.out; have hfz59 := blk_frozen BK4.out))
            go_ret
            exact ⟨rfl, hO HB⟩
           rw [if_neg c56] at H
           have c56b0 := decide_eq_false c56
           clear c56
           by_cases c60 : ((rd_T59 l0_2 x70_5).f1.f0) < 0
           ·
            rw [if_pos c60] at H
            have c60b0 := decide_eq_true c60
            clear c60
            obtain rfl := Option.some.inj H
            have p121 : 0 ≤ (x70_5 : Int) := of_decide_eq_true (by assumption)
            have q121 : x70_5 < (l0_2.length : Int) := of_decide_eq_true (by assumption)
            obtain ⟨ad121, e121, hx121_0, hx121_1, hx121_2⟩ := at_T59 HR0_2.out x70_5 p121 q121
            cases e121
            replace hx121_0 := mHx HB hx121_0
            replace hx121_1 := mHx HB hx121_1
            replace hx121_2 := mHx HB hx121_2
            replace p121 := eq_true p121
            replace q121 := eq_true q121
            go_wp2_with (first | ((with_reducible refine gate_dst (N := 9) rfl ?_); (try (refine gate_guard (by rfl) ?_; dsimp only)); refine box_event rfl (N := 9) rfl (cs := #[.int .i64 0, .int .i64 0, .int .i64 0]) (t := 59) (by first | (go_simp; done) | (go_simp; rfl)) ?_; intro gb4 hg w61 hbox hb; have BK4 := Aside0.mk hbox; have GW4 := mGw HB hg; have GE4 := GW4; replace HB := mSt HB hb; have NB1_4 := mNe BK1 hg; have NB4_1 := mSy NB1_4; replace BK1 := mBb BK1 hb; clear hb hbox hg; have hnb62 := NB4_1.out; have hnc62 := NB1_4.out; have hcz63 := blk_cell BK4.out; have hfz63 := blk_frozen BK4.out))
            go_ret
            exact ⟨rfl, hO HB⟩
           rw [if_neg c60] at H
           have c60b0 := decide_eq_false c60
           clear c60
           by_cases c64 : ((rd_T59 l0_2 x70_5).f1.f0) > ((rd_T59 l0_2 x70_5).f1.f1)
           ·
            rw [if_pos c64] at H
            have c64b0 := decide_eq_true c64
            clear c64
            obtain rfl := Option.some.inj H
            have p121 : 0 ≤ (x70_5 : Int) := of_decide_eq_true (by assumption)
            have q121 : x70_5 < (l0_2.length : Int) := of_decide_eq_true (by assumption)
            obtain ⟨ad121, e121, hx121_0, hx121_1, hx121_2⟩ := at_T59 HR0_2.out x70_5 p121 q121
            cases e121
            replace hx121_0 := mHx HB hx121_0
            replace hx121_1 := mHx HB hx121_1
            replace hx121_2 := mHx HB hx121_2
            replace p121 := eq_true p121
            replace q121 := eq_true q121
            go_wp2_with (first | ((with_reducible refine gate_dst (N := 9) rfl ?_); (try (refine gate_guard (by rfl) ?_; dsimp only)); refine box_event rfl (N := 9) rfl (cs := #[.int .i64 0, .int .i64 0, .int .i64 0]) (t := 59) (by first | (go_simp; done) | (go_simp; rfl)) ?_; intro gb4 hg w65 hbox hb; have BK4 := Aside0.mk hbox; have GW4 := mGw HB hg; have GE4 := GW4; replace HB := mSt HB hb; have NB1_4 := mNe BK1 hg; have NB4_1 := mSy NB1_4; replace BK1 := mBb BK1 hb; clear hb hbox hg; have hnb66 := NB4_1.out; have hnc66 := NB1_4.out; have hcz67 := blk_cell BK4.out; have hfz67 := blk_frozen BK4.out))
            go_ret
            exact ⟨rfl, hO HB⟩
           rw [if_neg c64] at H
           have c64b0 := decide_eq_false c64
           clear c64
           by_cases c68 : ((rd_T59 l0_2 x70_5).f1.f1) > a0_3
           ·
            rw [if_pos c68] at H
            have c68b0 := decide_eq_true c68
            clear c68
            obtain rfl := Option.some.inj H
            have p121 : 0 ≤ (x70_5 : Int) := of_decide_eq_true (by assumption)
            have q121 : x70_5 < (l0_2.length : Int) := of_decide_eq_true (by assumption)
            obtain ⟨ad121, e121, hx121_0, hx121_1, hx121_2⟩ := at_T59 HR0_2.out x70_5 p121 q121
            cases e121
            replace hx121_0 := mHx HB hx121_0
            replace hx121_1 := mHx HB hx121_1
            replace hx121_2 := mHx HB hx121_2
            replace p121 := eq_true p121
            replace q121 := eq_true q121
            go_wp2_with (first | ((with_reducible refine gate_dst (N := 9) rfl ?_); (try (refine gate_guard (by rfl) ?_; dsimp only)); refine box_event rfl (N := 9) rfl (cs := #[.int .i64 0, .int .i64 0, .int .i64 0]) (t := 59) (by first | (go_simp; done) | (go_simp; rfl)) ?_; intro gb4 hg w69 hbox hb; have BK4 := Aside0.mk hbox; have GW4 := mGw HB hg; have GE4 := GW4; replace HB := mSt HB hb; have NB1_4 := mNe BK1 hg; have NB4_1 := mSy NB1_4; replace BK1 := mBb BK1 hb; clear hb hbox hg; have hnb70 := NB4_1.out; have hnc70 := NB1_4.out; have hcz71 := blk_cell BK4.out; have hfz71 := blk_frozen BK4.out; have hcz72 := blk_cell BK1.out; have hfz72 := blk_frozen BK1.out))
            go_ret
            exact ⟨rfl, hO HB⟩
           rw [if_neg c68] at H
           have c68b0 := decide_eq_false c68
           clear c68
           have H' := Aside0.mk H
           clear H
           have p121 : 0 ≤ (x70_5 : Int) := of_decide_eq_true (by assumption)
           have q121 : x70_5 < (l0_2.length : Int) := of_decide_eq_true (by assumption)
           obtain ⟨ad121, e121, hx121_0, hx121_1, hx121_2⟩ := at_T59 HR0_2.out x70_5 p121 q121
           cases e121
           replace hx121_0 := mHx HB hx121_0
           replace hx121_1 := mHx HB hx121_1
           replace hx121_2 := mHx HB hx121_2
           replace p121 := eq_true p121
           replace q121 := eq_true q121
           go_wp2_with (first | ((with_reducible refine gate_dst (N := 9) rfl ?_); (try (refine gate_guard (by rfl) ?_; dsimp only)); refine box_event rfl (N := 9) rfl (cs := #[.int .i64 0, .int .i64 0, .int .i64 0]) (t := 59) (by first | (go_simp; done) | (go_simp; rfl)) ?_; intro gb4 hg w73 hbox hb; have BK4 := Aside0.mk hbox; have GW4 := mGw HB hg; have GE4 := GW4; replace HB := mSt HB hb; have NB1_4 := mNe BK1 hg; have NB4_1 := mSy NB1_4; replace BK1 := mBb BK1 hb; clear hb hbox hg; have hnb74 := NB4_1.out; have hnc74 := NB1_4.out; have hcz75 := blk_cell BK4.out; have hfz75 := blk_frozen BK4.out; have hcz76 := blk_cell BK1.out; have hfz76 := blk_frozen BK1.out))
           go_roundg k5
           case measure => have := HJ1.out; have := HK2.out; have := HJ25.out; have := HK4.out; have := HK5.out; omega
           case rel => exact ⟨(wrap64 (x70_5 + 1)), rfl, H', ⟨by have := HJ1.out; have := HK2.out; have := HJ25.out; have := HK4.out; have := HK5.out; omega⟩, ⟨by refine blk_far ?_ NB1_4.out _; refine blk_far ?_ NB1_4.out _; refine blk_far ?_ NB1_4.out _; exact BK1.out⟩, ⟨hO HB⟩⟩
mutual
def rehearse_Task_least.l0 : Nat → List Int → Int → Int → List (S53) → Int → Int → List (S53) → List (S55) → List (S59) → Int → Option (Int)
 | 0, _, _, _, _, _, _, _, _, _, _ => none
 | k + 1, x3, x4, x5, x11, x12, x13, x124000, x124001, x124002, x124003 => if x13 < x12 then (if 0 ≤ x13 then (if x13 < (x11.length : Int) then (rehearse_Task_least.l1 k x3 (wrap64 (x4 + ((rd_T53 x11 x13).f1))) x5 x11 x12 x13 ((rd_T53 x11 x13).f2) (((rd_T53 x11 x13).f2).length : Int) 0 x124000 x124001 x124002 x124003 ((rd_T53 x11 x13).f0) ((rd_T53 x11 x13).f1) ((rd_T53 x11 x13).f2)) else (none)) else (none)) else (if (x124001.length : Int) = 0 then (none) else (some (mx x5 (wrap64 (Int.tdiv (wrap64 ((wrap64 (x4 + (x124001.length : Int))) - 1)) (x124001.length : Int))))))
def rehearse_Task_least.l1 : Nat → List Int → Int → Int → List (S53) → Int → Int → List Int → Int → Int → List (S53) → List (S55) → List (S59) → Int → ByteArray → Int → List Int → Option (Int)
 | 0, _, _, _, _, _, _, _, _, _, _, _, _, _, _, _, _ => none
 | k + 1, x3, x4, x5, x11, x12, x13, x22, x23, x24, x124000, x124001, x124002, x124003, x129000, x129001, x129002 => if x24 < x23 then (if 0 ≤ x24 then (if x24 < (x22.length : Int) then (if 0 ≤ (rd x22 x24) then (if (rd x22 x24) < (x3.length : Int) then (rehearse_Task_least.l1 k (x3.set ((rd x22 x24) : Int).toNat (wrap64 ((rd x3 (rd x22 x24)) + x129001))) x4 (mx x5 (wrap64 ((rd x3 (rd x22 x24)) + x129001))) x11 x12 x13 x22 x23 (wrap64 (x24 + 1)) x124000 x124001 x124002 x124003 x129000 x129001 x129002) else (none)) else (none)) else (none)) else (none)) else (rehearse_Task_least.l0 k x3 x4 x5 x11 x12 (wrap64 (x13 + 1)) x124000 x124001 x124002 x124003)
end
def rehearse_Task_least.f (k : Nat) (l0_0 : List (S53)) (l0_1 : List (S55)) (l0_2 : List (S59)) (a0_3 : Int) : Option (Int) := if 24 ≤ 35184372088832 then (rehearse_Task_least.l0 k (List.replicate 24 0) 0 0 l0_0 (l0_0.length : Int) 0 l0_0 l0_1 l0_2 a0_3) else (none)
def rehearse_Task_least.T10 : Bool × List (List Nat × List Nat) := (true, [([], []), ([0], [0]), ([1], [1]), ([], []), ([3], [3]), ([2, 4], [2, 4]), ([0, 0, 1, 2, 3, 4, 5], [0]), ([6, 5, 0, 1, 2, 3, 4, 5], [5, 6])])
def rehearse_Task_least.B10 : List Nat := [0, 1, 3, 0, 8, 31, 63, 127]
theorem rehearse_Task_least.tab10 : rtab .any (opsOf Try.f26 10) = rehearse_Task_least.T10 := by kernel_rfl
theorem rehearse_Task_least.bits10 : waitsOk rehearse_Task_least.T10.2 rehearse_Task_least.B10 = true := by kernel_rfl
set_option maxHeartbeats 8000000 in
set_option maxRecDepth 100000 in
theorem rehearse_Task_least.calls (k : Nat) (A0_0 : Option Addr) (c0_0 : Nat) (l0_0 : List (S53)) (A0_1 : Option Addr) (c0_1 : Nat) (l0_1 : List (S55)) (A0_2 : Option Addr) (c0_2 : Nat) (l0_2 : List (S59)) (a0_3 : Int) (r : Int) (w : World) (hr0_0 : Kd.C k53 w A0_0 l0_0.length l0_0) (hc0_0 : l0_0.length ≤ c0_0) (hr0_1 : Kd.C k55 w A0_1 l0_1.length l0_1) (hc0_1 : l0_1.length ≤ c0_1) (hr0_2 : Kd.C k59 w A0_2 l0_2.length l0_2) (hc0_2 : l0_2.length ≤ c0_2) (h : rehearse_Task_least.f k l0_0 l0_1 l0_2 a0_3 = some r) :
  Calls Try.prog 26 #[.agg #[.slice A0_0 l0_0.length c0_0, .slice A0_1 l0_1.length c0_1, .slice A0_2 l0_2.length c0_2, .int .i64 a0_3]] w fun e w' => e = .returned (.int .i64 r) ∧ Below w.heap.size w w' := by
 have hu30 := Try.underlying30
 have hu53 := Try.underlying53
 have HR0_0 := Aside0.mk hr0_0
 have HC0_0 := Aside0.mk hc0_0
 clear hr0_0 hc0_0
 have HR0_1 := Aside0.mk hr0_1
 have HC0_1 := Aside0.mk hc0_1
 clear hr0_1 hc0_1
 have HR0_2 := Aside0.mk hr0_2
 have HC0_2 := Aside0.mk hc0_2
 clear hr0_2 hc0_2
 have HB := Aside0.mk (Below.refl w.heap.size w)
 have H := h
 unfold rehearse_Task_least.f at H
 clear h
 obtain ⟨c2, H⟩ : (24 ≤ 35184372088832) ∧ _ := mIf H
 have c2b0 := eq_true c2
 have c2b1 := decide_eq_true c2
 clear c2
 obtain ⟨y124, hy124⟩ : ∃ y_ : List Int, y_ = (List.replicate 24 0) := ⟨_, rfl⟩
 rw [← hy124] at H
 have Ny124 := Aside0.mk hy124
 clear hy124
 have H' := Aside0.mk H
 clear H
 go_enter Try.func26, Try.ntmps26
 go_upto_region 2 with (first | ((with_reducible refine gate_dst (N := 1) rfl ?_); refine box_event rfl (N := 1) rfl (cs := #[.slice A0_0 l0_0.length c0_0, .slice A0_1 l0_1.length c0_1, .slice A0_2 l0_2.length c0_2, .int .i64 a0_3]) (t := 30) (by first | (go_simp; done) | (go_simp; rfl)) ?_; intro gb2 hg w3 hbox hb; have BK2 := Aside0.mk hbox; have GW2 := mGw HB hg; have GE2 := GW2; replace HB := mSt HB hb; clear hb hbox hg))
 obtain ⟨gb3, hg⟩ : ∃ g, g = w3.heap.size := ⟨_, rfl⟩
 have hbox := blk_new w3 (.cells #[.int .i64 0, .int .i64 0, .int .i64 0, .int .i64 0, .int .i64 0, .int .i64 0, .int .i64 0, .int .i64 0, .int .i64 0, .int .i64 0, .int .i64 0, .int .i64 0, .int .i64 0, .int .i64 0, .int .i64 0, .int .i64 0, .int .i64 0, .int .i64 0, .int .i64 0, .int .i64 0, .int .i64 0, .int .i64 0, .int .i64 0, .int .i64 0] 49 (0, 0))
 have hb := below_alloc (Below.refl w3.heap.size w3) (.cells #[.int .i64 0, .int .i64 0, .int .i64 0, .int .i64 0, .int .i64 0, .int .i64 0, .int .i64 0, .int .i64 0, .int .i64 0, .int .i64 0, .int .i64 0, .int .i64 0, .int .i64 0, .int .i64 0, .int .i64 0, .int .i64 0, .int .i64 0, .int .i64 0, .int .i64 0, .int .i64 0, .int .i64 0, .int .i64 0, .int .i64 0, .int .i64 0] 49 (0, 0))
 rw [← hg] at hbox ⊢
 generalize w3.alloc (.cells #[.int .i64 0, .int .i64 0, .int .i64 0, .int .i64 0, .int .i64 0, .int .i64 0, .int .i64 0, .int .i64 0, .int .i64 0, .int .i64 0, .int .i64 0, .int .i64 0, .int .i64 0, .int .i64 0, .int .i64 0, .int .i64 0, .int .i64 0, .int .i64 0, .int .i64 0, .int .i64 0, .int .i64 0, .int .i64 0, .int .i64 0, .int .i64 0] 49 (0, 0)) = w4 at hbox hb ⊢
 have ho5 := arr_R (n := 24) hbox (Nat.le_of_eq hg.symm) (by decide)
 clear hbox hg
 (first | rw [← Ny124.out] at ho5 | (simp only [Int.reduceToNat] at ho5; rw [← Ny124.out] at ho5))
 have HO126 := Aside0.mk (Kd.R_lower ho5 (below_size HB.out)); replace BK2 := mBb BK2 hb; replace HB := mSt HB hb
 clear hb ho5
 have hcz6 := blk_cell BK2.out; have hfz6 := blk_frozen BK2.out
 go_wp2
 go_loopg [4, 5, 13] k (fun kq v4 v5 v13 w' => ∃ (x3_1 : List Int) (x4_1 : Int) (x5_1 : Int) (x13_1 : Int), v4 = .int .i64 x4_1 ∧ v5 = .int .i64 x5_1 ∧ v13 = .int .i64 x13_1 ∧ Aside0 (rehearse_Task_least.l0 kq x3_1 x4_1 x5_1 l0_0 (l0_0.length : Int) x13_1 l0_0 l0_1 l0_2 a0_3 = some r) ∧ Aside0 (kq ≤ k) ∧ Aside0 (Kd.R (Kd.int .i64) 49 w' w.heap.size (fun _ => True) (.slice (some ⟨gb3, 0, none⟩) 24 24) x3_1) ∧ Aside0 (w'.heap[gb2]? = some (.cells #[(.slice A0_0 l0_0.length c0_0), (.slice A0_1 l0_1.length c0_1), (.slice A0_2 l0_2.length c0_2), .int .i64 a0_3] 30 (0, 0))) ∧ Aside0 (Below w.heap.size w w'))
 case atStart => exact ⟨(y124), (0), (0), (0), rfl, rfl, rfl, H', ⟨Nat.le_refl _⟩, HO126, ⟨BK2.out⟩, ⟨HB.out⟩⟩
 case round =>
  clear H'
  clear c2b0 c2b1
  obtain ⟨x3_1, x4_1, x5_1, x13_1, rfl, rfl, rfl, HA, HK1, HO_3, BK2, HB⟩ := hrel
  cases gk with
  | zero => exact absurd HA.out (by simp [rehearse_Task_least.l0])
  | succ k1 =>
   have H := HA.out
   clear HA
   simp only [rehearse_Task_least.l0] at H
   by_cases c7 : x13_1 < (l0_0.length : Int)
   rotate_left
   ·
    rw [if_neg c7] at H
    have c7b0 := decide_eq_false c7
    clear c7
    obtain ⟨c24, H⟩ : (¬ ((l0_1.length : Int) = 0)) ∧ _ := mIfn H
    have c24b0 := beq_eq_false_iff_ne.mpr c24
    have c24b1 := bne_iff_ne.mpr c24
    have c24b2 : ¬ (l0_1 = []) := fun h_ => c24 (by rw [h_]; rfl)
    obtain ⟨ji25, hji25⟩ : ∃ j_ : Int, (mx x5_1 (wrap64 (Int.tdiv (wrap64 ((wrap64 (x4_1 + (l0_1.length : Int))) - 1)) (l0_1.length : Int)))) = j_ := ⟨_, rfl⟩
    replace H : (some ji25) = some r := by first | (rw [hji25] at H; exact H) | (simp only [hji25] at H ⊢; exact H)
    have hji25_ : (if x5_1 < (wrap64 (Int.tdiv (wrap64 ((wrap64 (x4_1 + (l0_1.length : Int))) - 1)) (l0_1.length : Int))) then (wrap64 (Int.tdiv (wrap64 ((wrap64 (x4_1 + (l0_1.length : Int))) - 1)) (l0_1.length : Int))) else x5_1) = ji25 := hji25
    obtain rfl := Option.some.inj H
    have hcz26 := blk_cell BK2.out; have hfz26 := blk_frozen BK2.out
    go_wp2
    go_ret
    exact ⟨by first | rfl | (simp [errW_none, errW_some] <;> rfl) | (simp only [← hji25]; first | rfl | (simp [errW_none, errW_some] <;> rfl)) | (simp [*, errW_none, errW_some] <;> rfl), HB.out⟩
   rw [if_pos c7] at H
   have c7b0 := decide_eq_true c7
   clear c7
   obtain ⟨c8, H⟩ : (0 ≤ x13_1) ∧ _ := mIf H
   have c8b0 := decide_eq_true c8
   clear c8
   obtain ⟨c9, H⟩ : (x13_1 < (l0_0.length : Int)) ∧ _ := mIf H
   have c9b0 := decide_eq_true c9
   clear c9
   have H' := Aside0.mk H
   clear H
   have p127 : 0 ≤ (x13_1 : Int) := of_decide_eq_true (by assumption)
   have q127 : x13_1 < (l0_0.length : Int) := of_decide_eq_true (by assumption)
   obtain ⟨ad127, A127_2, c127_2, e127, hx127_0, hx127_1, hx127_2, hl127_2, hi127_2⟩ := at_T53 HR0_0.out x13_1 p127 q127
   cases e127
   replace hx127_0 := mHx HB hx127_0
   replace hx127_1 := mHx HB hx127_1
   replace hx127_2 := mHx HB hx127_2
   have HR127_2 := Aside0.mk hi127_2
   have HC127_2 := Aside0.mk hl127_2
   clear hi127_2 hl127_2
   replace p127 := eq_true p127
   replace q127 := eq_true q127
   go_wp2_with (first | ((with_reducible refine gate_dst (N := 7) rfl ?_); refine box_event rfl (N := 7) rfl (cs := #[.string (⟨#[]⟩ : ByteArray), .int .i64 0, .slice none 0 0]) (t := 53) (by first | (go_simp; done) | (go_simp; rfl)) ?_; intro gb4 hg w10 hbox hb; replace HO_3 := Aside0.mk (Kd.R_below HO_3.out hb); have BK4 := Aside0.mk hbox; have GW4 := mGw HB hg; have GE4 := GW4; replace HB := mSt HB hb; have NB2_4 := mNe BK2 hg; have NB4_2 := mSy NB2_4; replace BK2 := mBb BK2 hb; clear hb hbox hg; have hnb11 := NB4_2.out; have hnc11 := NB2_4.out; have hcz12 := blk_cell BK4.out; have hfz12 := blk_frozen BK4.out))
   go_loopg [5, 24] k1 (fun kq v5 v24 w' => ∃ (x3_2 : List Int) (x5_2 : Int) (x24_2 : Int), v5 = .int .i64 x5_2 ∧ v24 = .int .i64 x24_2 ∧ Aside0 (rehearse_Task_least.l1 kq x3_2 (wrap64 (x4_1 + ((rd_T53 l0_0 x13_1).f1))) x5_2 l0_0 (l0_0.length : Int) x13_1 ((rd_T53 l0_0 x13_1).f2) (((rd_T53 l0_0 x13_1).f2).length : Int) x24_2 l0_0 l0_1 l0_2 a0_3 ((rd_T53 l0_0 x13_1).f0) ((rd_T53 l0_0 x13_1).f1) ((rd_T53 l0_0 x13_1).f2) = some r) ∧ Aside0 (kq ≤ k1) ∧ Aside0 (Kd.R (Kd.int .i64) 49 w' w.heap.size (fun _ => True) (.slice (some ⟨gb3, 0, none⟩) 24 24) x3_2) ∧ Aside0 (w'.heap[gb2]? = some (.cells #[(.slice (some ad127) l0_0.length c0_0), (.slice A0_1 l0_1.length c0_1), (.slice A0_2 l0_2.length c0_2), .int .i64 a0_3] 30 (0, 0))) ∧ Aside0 (w'.heap[gb4]? = some (.cells #[.string ((rd_T53 l0_0 x13_1).f0), .int .i64 ((rd_T53 l0_0 x13_1).f1), (.slice A127_2 ((rd_T53 l0_0 x13_1).f2).length c127_2)] 53 (0, 0))) ∧ Aside0 (Below w.heap.size w w'))
   case atStart => exact ⟨(x3_1), (x5_1), (0), rfl, rfl, H', ⟨Nat.le_refl _⟩, ⟨Kd.R_mono (Kd.R_far (p := ⟨gb4, 2, none⟩) (Kd.R_far (p := ⟨gb4, 1, none⟩) (Kd.R_far (p := ⟨gb4, 0, none⟩) (Kd.R_types HO_3.out BK4.out (by decide)) (fun _ hk => hk.2) (.string ((rd_T53 l0_0 x13_1).f0))) (fun _ hk => hk.2) (.int .i64 ((rd_T53 l0_0 x13_1).f1))) (fun _ hk => hk.2) (.slice A127_2 ((rd_T53 l0_0 x13_1).f2).length c127_2)) (fun _ hk => trivial)⟩, ⟨by refine blk_far ?_ NB2_4.out _; refine blk_far ?_ NB2_4.out _; refine blk_far ?_ NB2_4.out _; exact BK2.out⟩, ⟨by refine blk_put (cs := #[.string ((rd_T53 l0_0 x13_1).f0), .int .i64 ((rd_T53 l0_0 x13_1).f1), .slice none 0 0]) ?_ 2 _ rfl; refine blk_put (cs := #[.string ((rd_T53 l0_0 x13_1).f0), .int .i64 0, .slice none 0 0]) ?_ 1 _ rfl; refine blk_put (cs := #[.string (⟨#[]⟩ : ByteArray), .int .i64 0, .slice none 0 0]) ?_ 0 _ rfl; exact BK4.out⟩, ⟨hO HB⟩⟩
   case round =>
    clear H'
    clear c7b0 c8b0 c9b0 hx127_0 hx127_1 hx127_2 p127 q127
    obtain ⟨x3_2, x5_2, x24_2, rfl, rfl, HA, HK2, HO_3, BK2, BK4, HB⟩ := hrel
    cases gk with
    | zero => exact absurd HA.out (by simp [rehearse_Task_least.l1])
    | succ k2 =>
     have H := HA.out
     clear HA
     simp only [rehearse_Task_least.l1] at H
     by_cases c13 : x24_2 < (((rd_T53 l0_0 x13_1).f2).length : Int)
     rotate_left
     ·
      rw [if_neg c13] at H
      have c13b0 := decide_eq_false c13
      clear c13
      have H' := Aside0.mk H
      clear H
      go_wp2
      go_roundg k2
      case measure => have := HK1.out; have := HK2.out; omega
      case rel => exact ⟨(x3_2), ((wrap64 (x4_1 + ((rd_T53 l0_0 x13_1).f1)))), (x5_2), (wrap64 (x13_1 + 1)), rfl, rfl, rfl, H', ⟨by have := HK1.out; have := HK2.out; omega⟩, HO_3, ⟨BK2.out⟩, ⟨HB.out⟩⟩
     rw [if_pos c13] at H
     have c13b0 := decide_eq_true c13
     clear c13
     obtain ⟨c14, H⟩ : (0 ≤ x24_2) ∧ _ := mIf H
     have c14b0 := decide_eq_true c14
     clear c14
     obtain ⟨c15, H⟩ : (x24_2 < (((rd_T53 l0_0 x13_1).f2).length : Int)) ∧ _ := mIf H
     have c15b0 := decide_eq_true c15
     clear c15
     obtain ⟨c16, H⟩ : (0 ≤ (rd ((rd_T53 l0_0 x13_1).f2) x24_2)) ∧ _ := mIf H
     have c16b0 := decide_eq_true c16
     clear c16
     obtain ⟨c17, H⟩ : ((rd ((rd_T53 l0_0 x13_1).f2) x24_2) < (x3_2.length : Int)) ∧ _ := mIf H
     have c17b0 := decide_eq_true c17
     clear c17
     obtain ⟨y131, hy131⟩ : ∃ y_ : List Int, y_ = (x3_2.set ((rd ((rd_T53 l0_0 x13_1).f2) x24_2) : Int).toNat (wrap64 ((rd x3_2 (rd ((rd_T53 l0_0 x13_1).f2) x24_2)) + ((rd_T53 l0_0 x13_1).f1)))) := ⟨_, rfl⟩
     rw [← hy131] at H
     have Ny131 := Aside0.mk hy131
     clear hy131
     obtain ⟨ji20, hji20⟩ : ∃ j_ : Int, (mx x5_2 (wrap64 ((rd x3_2 (rd ((rd_T53 l0_0 x13_1).f2) x24_2)) + ((rd_T53 l0_0 x13_1).f1)))) = j_ := ⟨_, rfl⟩
     replace H : (rehearse_Task_least.l1 k2 y131 (wrap64 (x4_1 + ((rd_T53 l0_0 x13_1).f1))) ji20 l0_0 (l0_0.length : Int) x13_1 ((rd_T53 l0_0 x13_1).f2) (((rd_T53 l0_0 x13_1).f2).length : Int) (wrap64 (x24_2 + 1)) l0_0 l0_1 l0_2 a0_3 ((rd_T53 l0_0 x13_1).f0) ((rd_T53 l0_0 x13_1).f1) ((rd_T53 l0_0 x13_1).f2)) = some r := by first | (rw [hji20] at H; exact H) | (simp only [hji20] at H ⊢; exact H)
     have hji20_ : (if x5_2 < (wrap64 ((rd x3_2 (rd ((rd_T53 l0_0 x13_1).f2) x24_2)) + ((rd_T53 l0_0 x13_1).f1))) then (wrap64 ((rd x3_2 (rd ((rd_T53 l0_0 x13_1).f2) x24_2)) + ((rd_T53 l0_0 x13_1).f1))) else x5_2) = ji20 := hji20
     have H' := Aside0.mk H
     clear H
     have p129 : 0 ≤ (x24_2 : Int) := of_decide_eq_true (by assumption)
     have q129 : x24_2 < (((rd_T53 l0_0 x13_1).f2).length : Int) := of_decide_eq_true (by assumption)
     obtain ⟨ad129, e129, hx129_0⟩ := Kd.at_int HR127_2.out x24_2 p129 q129
     cases e129
     replace hx129_0 := mHx HB hx129_0
     replace p129 := eq_true p129
     replace q129 := eq_true q129
     try go_wp2
     replace HO_3 := Aside0.mk (Kd.R_drew HO_3.out); replace BK2 := Aside0.mk (blk_drew BK2.out); replace BK4 := Aside0.mk (blk_drew BK4.out); replace HB := Aside0.mk (below_drew1 HB.out)
     obtain ⟨Ao22, co22, eo22⟩ := Kd.R_slice HO_3.out
     (first | subst eo22 | (injection eo22 with f1_ f2_ f3_; have f4_ := f1_.symm; have f5_ := f3_.symm; clear f1_ f2_ f3_; subst f4_; subst f5_))
     have p130 : 0 ≤ ((rd ((rd_T53 l0_0 x13_1).f2) x24_2) : Int) := of_decide_eq_true (by assumption)
     have q130 : (rd ((rd_T53 l0_0 x13_1).f2) x24_2) < (x3_2.length : Int) := of_decide_eq_true (by assumption)
     obtain ⟨ad130, e130, hx130_0⟩ := Kd.at_int (Kd.R_reads' HO_3.out).2.2 (rd ((rd_T53 l0_0 x13_1).f2) x24_2) p130 q130
     cases e130
     replace p130 := eq_true p130
     replace q130 := eq_true q130
     have p18 : 0 ≤ ((rd ((rd_T53 l0_0 x13_1).f2) x24_2) : Int) := of_decide_eq_true (by assumption)
     have q18 : ((rd ((rd_T53 l0_0 x13_1).f2) x24_2) : Int) < ((x3_2.length : Int) : Int) := of_decide_eq_true (by assumption)
     obtain ⟨go18, co18, eo18, gb1, gl18, cl18, HG18⟩ := Kd.R_form HO_3.out (by omega)
     obtain ⟨rfl, rfl⟩ : gb3 = go18 ∧ 24 = co18 := by injection eo18 with ea_ en_ ec_; injection ea_ with ea_; injection ea_ with ea_; exact ⟨ea_, ec_⟩
     have qn18 := arr_len HO_3.out q18
     have GB18 := Aside0.mk gb1
     have GG18 := Aside0.mk HG18
     clear gb1 gl18 HG18
     (first | simp only [add_plain] at hx130_0 | skip)
     obtain ⟨hx18_0, hf18_0⟩ := Kd.R_celln 0 HO_3.out ((rd ((rd_T53 l0_0 x13_1).f2) x24_2) : Int) p18 qn18
     have qm18 := eq_true (show _ < (24 : Int) from qn18)
     replace p18 := eq_true p18
     replace q18 := eq_true q18
     have HP23 := Kd.R_putn HO_3.out ((rd ((rd_T53 l0_0 x13_1).f2) x24_2) : Int) (wrap64 ((rd x3_2 (rd ((rd_T53 l0_0 x13_1).f2) x24_2)) + ((rd_T53 l0_0 x13_1).f1)))
     rw [← Ny131.out] at HP23
     have HQ23 := Aside0.mk HP23
     clear HP23
     refine start_ (n := 8) (S := fun w' => w'.cell? ⟨gb4, 0, none⟩ = some (.string ((rd_T53 l0_0 x13_1).f0)) ∧ w'.cell? ⟨gb4, 1, none⟩ = some (.int .i64 ((rd_T53 l0_0 x13_1).f1)) ∧ w'.cell? ⟨gb4, 2, none⟩ = some (.slice (some ad129) ((rd_T53 l0_0 x13_1).f2).length c127_2) ∧ w'.cell? ⟨gb3, ((rd ((rd_T53 l0_0 x13_1).f2) x24_2)).toNat, none⟩ = some (.int .i64 (rd x3_2 (rd ((rd_T53 l0_0 x13_1).f2) x24_2)))) (ds := [7]) #[false, false, false, false, false, false, false, false] (by kernel_rfl) rfl rfl ⟨(blk_cell BK4.out 0).trans rfl, (blk_cell BK4.out 1).trans rfl, (blk_cell BK4.out 2).trans rfl, hx130_0⟩ (fun hHeld => ?_); refine with_tabW rehearse_Task_least.tab10 rehearse_Task_least.bits10 (fun HT_ HW_ => ?_)
     generalize wr.drew = w21 at HO_3 BK2 BK4 HB GG18 HQ23 hf18_0 hx130_0 hx18_0 hHeld ⊢
     refine pM 0 28 HT_ ?_
     refine pM 1 29 HT_ ?_
     refine pM 3 31 HT_ ?_
     refine tM 2 30 rfl HT_ HW_ (by rintro w' ⟨s0, s1, s2, s3⟩; go_simp; with_reducible rfl) hHeld ?_
     refine tM 4 32 rfl HT_ HW_ (by rintro w' ⟨s0, s1, s2, s3⟩; go_simp; with_reducible rfl) hHeld ?_
     refine pM 5 33 HT_ ?_
     refine pM 6 34 HT_ ?_
     refine last_ (i := 7) (N := none) #[true, true, true, true, true, true, true, true] rfl rfl (one_of HT_.out (by kernel_rfl)) (by decide) (fun K hK => ?_)
     refine skip_ (w1 := ?_) (by rfl) rfl ?_ ?_
     rotate_left
     ·
      go_simp
      rfl
     refine hK.out _ _ ?_
     clear hK K
     refine done_ (done_of HT_.out (by kernel_rfl)) ?_
     have p19 : 0 ≤ ((rd ((rd_T53 l0_0 x13_1).f2) x24_2) : Int) := of_decide_eq_true (by assumption)
     have q19 : ((rd ((rd_T53 l0_0 x13_1).f2) x24_2) : Int) < ((x3_2.length : Int) : Int) := of_decide_eq_true (by assumption)
     replace p19 := eq_true p19
     replace q19 := eq_true q19
     try go_wp2
     go_roundg k2
     case measure => have := HK1.out; have := HK2.out; omega
     case rel => exact ⟨(y131), (ji20), (wrap64 (x24_2 + 1)), (by first | rfl | (simp; done) | (simp only [← hji20] <;> (first | rfl | simp)) | (simp [*]; done)), rfl, H', ⟨by have := HK1.out; have := HK2.out; omega⟩, HQ23, ⟨by refine blk_far ?_ (by have h_ := Kd.R_ne HO_3.out BK2.out (by decide); intro e_; exact h_ (by rw [e_]; rfl)) _; exact BK2.out⟩, ⟨by refine blk_far ?_ (by have h_ := Kd.R_ne HO_3.out BK4.out (by decide); intro e_; exact h_ (by rw [e_]; rfl)) _; exact BK4.out⟩, ⟨hO HB⟩⟩
def rehearse_Least.f (k : Nat) (l0_0 : List (S53)) (l0_1 : List (S55)) (l0_2 : List (S59)) (a0_3 : Int) : Option (Int × Int) := (rehearse_Check.f k l0_0 l0_1 l0_2 a0_3).bind fun t134 => (if t134 = 0 then ((rehearse_Task_least.f k l0_0 l0_1 l0_2 a0_3).bind fun t135 => (some (t135, 0))) else (some (0, t134)))
set_option maxHeartbeats 8000000 in
set_option maxRecDepth 100000 in
theorem rehearse_Least.calls (k : Nat) (A0_0 : Option Addr) (c0_0 : Nat) (l0_0 : List (S53)) (A0_1 : Option Addr) (c0_1 : Nat) (l0_1 : List (S55)) (A0_2 : Option Addr) (c0_2 : Nat) (l0_2 : List (S59)) (a0_3 : Int) (r1 : Int) (r2 : Int) (w : World) (hr0_0 : Kd.C k53 w A0_0 l0_0.length l0_0) (hc0_0 : l0_0.length ≤ c0_0) (hr0_1 : Kd.C k55 w A0_1 l0_1.length l0_1) (hc0_1 : l0_1.length ≤ c0_1) (hr0_2 : Kd.C k59 w A0_2 l0_2.length l0_2) (hc0_2 : l0_2.length ≤ c0_2) (hmx : Mx w) (h : rehearse_Least.f k l0_0 l0_1 l0_2 a0_3 = some (r1, r2)) :
  Calls Try.prog 10 #[.agg #[.slice A0_0 l0_0.length c0_0, .slice A0_1 l0_1.length c0_1, .slice A0_2 l0_2.length c0_2, .int .i64 a0_3]] w fun e w' => e = .returned (.tuple #[.int .i64 r1, .int .i64 r2]) ∧ Below w.heap.size w w' := by
 have HMX_ := Aside0.mk hmx
 clear hmx
 have hu30 := Try.underlying30
 have HR0_0 := Aside0.mk hr0_0
 have HC0_0 := Aside0.mk hc0_0
 clear hr0_0 hc0_0
 have HR0_1 := Aside0.mk hr0_1
 have HC0_1 := Aside0.mk hc0_1
 clear hr0_1 hc0_1
 have HR0_2 := Aside0.mk hr0_2
 have HC0_2 := Aside0.mk hc0_2
 clear hr0_2 hc0_2
 have HB := Aside0.mk (Below.refl w.heap.size w)
 have H := h
 unfold rehearse_Least.f at H
 clear h
 replace H := Option.bind_eq_some_iff.mp H
 obtain ⟨t134, A20, H⟩ := H
 try dsimp only at H
 have A2 := Aside0.mk A20
 clear A20
 by_cases c3 : t134 = 0
 rotate_left
 ·
  rw [if_neg c3] at H
  have c3b0 := beq_eq_false_iff_ne.mpr c3
  have c3b1 := bne_iff_ne.mpr c3
  simp only [Option.some.injEq, Prod.mk.injEq] at H
  obtain ⟨rfl, rfl⟩ := H
  go_enter Try.func10, Try.ntmps10
  go_wp2_with (first | ((with_reducible refine gate_dst (N := 1) rfl ?_); refine box_event rfl (N := 1) rfl (cs := #[.slice A0_0 l0_0.length c0_0, .slice A0_1 l0_1.length c0_1, .slice A0_2 l0_2.length c0_2, .int .i64 a0_3]) (t := 30) (by first | (go_simp; done) | (go_simp; rfl)) ?_; intro gb1 hg w10 hbox hb; have BK1 := Aside0.mk hbox; have GW1 := mGw HB hg; have GE1 := GW1; replace HB := mSt HB hb; clear hb hbox hg; have hcz11 := blk_cell BK1.out; have hfz11 := blk_frozen BK1.out) | ((with_reducible refine gate_callee (f := 13) rfl ?_); refine goesL_ (some 6) rfl rfl Try.func13 (by kernel_rfl) rfl #[.agg #[.slice A0_0 l0_0.length c0_0, .slice A0_1 l0_1.length c0_1, .slice A0_2 l0_2.length c0_2, .int .i64 a0_3]] rfl (mA1 rfl) ?_; (with_reducible refine (rehearse_Check.calls k _ _ l0_0 _ _ l0_1 _ _ l0_2 a0_3 t134 _ (Kd.C_below HR0_0.out HB.out) HC0_0.out (Kd.C_below HR0_1.out HB.out) HC0_1.out (Kd.C_below HR0_2.out HB.out) HC0_2.out (Mx.below HMX_.out HB.out) A2.out).mono ?_); rintro e w12 ⟨rfl, hb⟩; refine ⟨_, rfl, ?_⟩; replace BK1 := mBb BK1 hb; replace HB := mSt HB hb; (try clear hb)))
  go_ret2
  exact ⟨rfl, HB.out⟩
 rw [if_pos c3] at H
 have c3b0 := beq_iff_eq.mpr c3
 have c3b1 := bne_eq_false_iff_eq.mpr c3
 clear c3
 replace H := Option.bind_eq_some_iff.mp H
 obtain ⟨t135, A40, H⟩ := H
 try dsimp only at H
 have A4 := Aside0.mk A40
 clear A40
 simp only [Option.some.injEq, Prod.mk.injEq] at H
 obtain ⟨rfl, rfl⟩ := H
 go_enter Try.func10, Try.ntmps10
 go_wp2_with (first | ((with_reducible refine gate_dst (N := 1) rfl ?_); refine box_event rfl (N := 1) rfl (cs := #[.slice A0_0 l0_0.length c0_0, .slice A0_1 l0_1.length c0_1, .slice A0_2 l0_2.length c0_2, .int .i64 a0_3]) (t := 30) (by first | (go_simp; done) | (go_simp; rfl)) ?_; intro gb1 hg w5 hbox hb; have BK1 := Aside0.mk hbox; have GW1 := mGw HB hg; have GE1 := GW1; replace HB := mSt HB hb; clear hb hbox hg; have hcz6 := blk_cell BK1.out; have hfz6 := blk_frozen BK1.out) | ((with_reducible refine gate_callee (f := 13) rfl ?_); refine goesL_ (some 6) rfl rfl Try.func13 (by kernel_rfl) rfl #[.agg #[.slice A0_0 l0_0.length c0_0, .slice A0_1 l0_1.length c0_1, .slice A0_2 l0_2.length c0_2, .int .i64 a0_3]] rfl (mA1 rfl) ?_; (with_reducible refine (rehearse_Check.calls k _ _ l0_0 _ _ l0_1 _ _ l0_2 a0_3 t134 _ (Kd.C_below HR0_0.out HB.out) HC0_0.out (Kd.C_below HR0_1.out HB.out) HC0_1.out (Kd.C_below HR0_2.out HB.out) HC0_2.out (Mx.below HMX_.out HB.out) A2.out).mono ?_); rintro e w7 ⟨rfl, hb⟩; refine ⟨_, rfl, ?_⟩; replace BK1 := mBb BK1 hb; replace HB := mSt HB hb; (try clear hb); have hcz8 := blk_cell BK1.out; have hfz8 := blk_frozen BK1.out) | ((with_reducible refine gate_callee (f := 26) rfl ?_); refine goesL_ (some 11) rfl rfl Try.func26 (by kernel_rfl) rfl #[.agg #[.slice A0_0 l0_0.length c0_0, .slice A0_1 l0_1.length c0_1, .slice A0_2 l0_2.length c0_2, .int .i64 a0_3]] rfl (mA1 rfl) ?_; (with_reducible refine (rehearse_Task_least.calls k _ _ l0_0 _ _ l0_1 _ _ l0_2 a0_3 t135 _ (Kd.C_below HR0_0.out HB.out) HC0_0.out (Kd.C_below HR0_1.out HB.out) HC0_1.out (Kd.C_below HR0_2.out HB.out) HC0_2.out A4.out).mono ?_); rintro e w9 ⟨rfl, hb⟩; refine ⟨_, rfl, ?_⟩; replace BK1 := mBb BK1 hb; replace HB := mSt HB hb; (try clear hb)))
 go_ret2
 exact ⟨rfl, HB.out⟩
def dancestudiolaw50_of.f : Option (Int) := some 0
set_option maxHeartbeats 8000000 in
set_option maxRecDepth 100000 in
theorem dancestudiolaw50_of.calls0 {A0 A1 A2 : Option Addr} {n0 n1 n2 c0 c1 c2 : Nat} {x : Int} (r : Int) (w : World) (h : dancestudiolaw50_of.f = some r) :
  Calls Try.prog 11 #[.agg #[.slice A0 n0 c0, .slice A1 n1 c1, .slice A2 n2 c2, .int .i64 x]] w fun e w' => e = .returned (.agg #[.slice A0 n0 c0, .slice A1 n1 c1, .slice A2 n2 c2, .int .i64 x]) ∧ Below w.heap.size w w' := by
 have hu26 := Try.underlying26
 have hu30 := Try.underlying30
 clear h
 go_enter Try.func11, Try.ntmps11
 go_wp2_with (first
  | ((with_reducible refine gate_dst (N := 1) rfl ?_); refine box_event rfl (N := 1) rfl (cs := #[.slice A0 n0 c0, .slice A1 n1 c1, .slice A2 n2 c2, .int .i64 x]) (t := 26) (by first | (go_simp; done) | (go_simp; rfl)) ?_; intro g1 hg w1 hbox hb; have HB := Aside0.mk hb; have BK1 := Aside0.mk hbox; clear hb hbox hg)
  | ((with_reducible refine gate_dst (N := 2) rfl ?_); refine box_event rfl (N := 2) rfl (cs := #[.slice none 0 0, .slice none 0 0, .slice none 0 0, .int .i64 0]) (t := 30) (by first | (go_simp; done) | (go_simp; rfl)) ?_; intro g2 hg2 w2 hbox hb; have n0_ := mBb BK1 hb; have n1_ := mSt HB hb; have BK2 := Aside0.mk hbox; have GE2 : Aside0 (w.heap.size ≤ g2) := ⟨by rw [hg2]; exact below_size HB.out⟩; have NB : Aside0 (g1 ≠ g2) := ⟨by rw [hg2]; exact Nat.ne_of_lt (blk_lt BK1.out)⟩; clear BK1 HB; have BK1 := n0_; have HB := n1_; clear n0_ n1_ hb hbox hg2; have hb_ := NB.out; have hc_ := NB.out.symm; have h0_ : w2.cell? ⟨g1, 0, none⟩ = some (.slice A0 n0 c0) := (blk_cell BK1.out 0).trans rfl; have h1_ : w2.cell? ⟨g1, 1, none⟩ = some (.slice A1 n1 c1) := (blk_cell BK1.out 1).trans rfl; have h2_ : w2.cell? ⟨g1, 2, none⟩ = some (.slice A2 n2 c2) := (blk_cell BK1.out 2).trans rfl; have h3_ : w2.cell? ⟨g1, 3, none⟩ = some (.int .i64 x) := (blk_cell BK1.out 3).trans rfl; have k0_ : w2.cell? ⟨g2, 0, none⟩ = some (.slice none 0 0) := (blk_cell BK2.out 0).trans rfl; have k1_ : w2.cell? ⟨g2, 1, none⟩ = some (.slice none 0 0) := (blk_cell BK2.out 1).trans rfl; have k2_ : w2.cell? ⟨g2, 2, none⟩ = some (.slice none 0 0) := (blk_cell BK2.out 2).trans rfl; have k3_ : w2.cell? ⟨g2, 3, none⟩ = some (.int .i64 0) := (blk_cell BK2.out 3).trans rfl; have f0_ := blk_frozen BK2.out 0; have f1_ := blk_frozen BK2.out 1; have f2_ := blk_frozen BK2.out 2; have f3_ := blk_frozen BK2.out 3))
 refine bodyPost_ret (results_cell_row rfl _ _ g2 30 #[.slice A0 n0 c0, .slice A1 n1 c1, .slice A2 n2 c2, .int .i64 x] (0, 0) _ rfl (by refine blk_put (cs := #[.slice A0 n0 c0, .slice A1 n1 c1, .slice A2 n2 c2, .int .i64 0]) ?_ 3 _ rfl; refine blk_put (cs := #[.slice A0 n0 c0, .slice A1 n1 c1, .slice none 0 0, .int .i64 0]) ?_ 2 _ rfl; refine blk_put (cs := #[.slice A0 n0 c0, .slice none 0 0, .slice none 0 0, .int .i64 0]) ?_ 1 _ rfl; refine blk_put (cs := #[.slice none 0 0, .slice none 0 0, .slice none 0 0, .int .i64 0]) ?_ 0 _ rfl; exact BK2.out) Try.underlying30 rfl (by kernel_rfl)) rfl ?_
 exact ⟨rfl, by repeat (first | exact HB.out | refine below_set ?_ GE2.out)⟩
theorem slR {α : Type} {d : Kd α} {e : Nat} {w : World} {base : Nat} {ok : Nat → Prop} {v : Value} {xs : List α} (h : Aside0 (Kd.R d e w base ok v xs)) : ∃ A n c, v = Value.slice A n c := by
 obtain ⟨A, c, e_⟩ := Kd.R_slice h.out
 exact ⟨_, _, _, e_⟩
theorem slN {α : Type} {d : Kd α} {e : Nat} {w : World} {base : Nat} {ok : Nat → Prop} {v : Value} {xs : List α} (h : Aside0 (Kd.N d e w base ok v xs)) : ∃ A n c, v = Value.slice A n c := by
 obtain ⟨A, c, e_⟩ := Kd.N_slice h.out
 exact ⟨_, _, _, e_⟩
theorem dancestudiolaw50_of.calls {v0 v1 v2 : Value} {x : Int} (r : Int) (w : World) (h : dancestudiolaw50_of.f = some r) (s0 : ∃ A n c, v0 = Value.slice A n c := by first | exact ⟨_, _, _, rfl⟩ | exact slR (by assumption) | exact slN (by assumption)) (s1 : ∃ A n c, v1 = Value.slice A n c := by first | exact ⟨_, _, _, rfl⟩ | exact slR (by assumption) | exact slN (by assumption)) (s2 : ∃ A n c, v2 = Value.slice A n c := by first | exact ⟨_, _, _, rfl⟩ | exact slR (by assumption) | exact slN (by assumption)) :
  Calls Try.prog 11 #[.agg #[v0, v1, v2, .int .i64 x]] w fun e w' => e = .returned (.agg #[v0, v1, v2, .int .i64 x]) ∧ Below w.heap.size w w' := by
 obtain ⟨_, _, _, rfl⟩ := s0
 obtain ⟨_, _, _, rfl⟩ := s1
 obtain ⟨_, _, _, rfl⟩ := s2
 exact dancestudiolaw50_of.calls0 r w h
def rehearse_Task_meet.f (l0_0 : List (S53)) (l0_1 : List (S55)) (l0_2 : List (S59)) (a0_3 : Int) (a1 : Int) (a2 : Int) (a3 : Int) (a4 : Int) : Option (Bool) := if 0 ≤ a3 then (if a3 < (l0_0.length : Int) then (if a2 < (wrap64 (a4 + ((rd_T53 l0_0 a3).f1))) then (if 0 ≤ a1 then (if a1 < (l0_0.length : Int) then (some (decide (a4 < (wrap64 (a2 + ((rd_T53 l0_0 a1).f1)))))) else (none)) else (none)) else (some false)) else (none)) else (none)
set_option maxHeartbeats 8000000 in
set_option maxRecDepth 100000 in
theorem rehearse_Task_meet.calls (A0_0 : Option Addr) (c0_0 : Nat) (l0_0 : List (S53)) (A0_1 : Option Addr) (c0_1 : Nat) (l0_1 : List (S55)) (A0_2 : Option Addr) (c0_2 : Nat) (l0_2 : List (S59)) (a0_3 : Int) (a1 : Int) (a2 : Int) (a3 : Int) (a4 : Int) (r : Bool) (w : World) (hr0_0 : Kd.C k53 w A0_0 l0_0.length l0_0) (hc0_0 : l0_0.length ≤ c0_0) (hr0_1 : Kd.C k55 w A0_1 l0_1.length l0_1) (hc0_1 : l0_1.length ≤ c0_1) (hr0_2 : Kd.C k59 w A0_2 l0_2.length l0_2) (hc0_2 : l0_2.length ≤ c0_2) (h : rehearse_Task_meet.f l0_0 l0_1 l0_2 a0_3 a1 a2 a3 a4 = some r) :
  Calls Try.prog 35 #[.agg #[.slice A0_0 l0_0.length c0_0, .slice A0_1 l0_1.length c0_1, .slice A0_2 l0_2.length c0_2, .int .i64 a0_3], .int .i64 a1, .int .i64 a2, .int .i64 a3, .int .i64 a4] w fun e w' => e = .returned (.bool r) ∧ Below w.heap.size w w' := by
 have hu30 := Try.underlying30
 have HR0_0 := Aside0.mk hr0_0
 have HC0_0 := Aside0.mk hc0_0
 clear hr0_0 hc0_0
 have HR0_1 := Aside0.mk hr0_1
 have HC0_1 := Aside0.mk hc0_1
 clear hr0_1 hc0_1
 have HR0_2 := Aside0.mk hr0_2
 have HC0_2 := Aside0.mk hc0_2
 clear hr0_2 hc0_2
 have HB := Aside0.mk (Below.refl w.heap.size w)
 have H := h
 unfold rehearse_Task_meet.f at H
 clear h
 obtain ⟨c6, H⟩ : (0 ≤ a3) ∧ _ := mIf H
 have c6b0 := decide_eq_true c6
 clear c6
 obtain ⟨c7, H⟩ : (a3 < (l0_0.length : Int)) ∧ _ := mIf H
 have c7b0 := decide_eq_true c7
 clear c7
 by_cases c8 : a2 < (wrap64 (a4 + ((rd_T53 l0_0 a3).f1)))
 rotate_left
 ·
  rw [if_neg c8] at H
  have c8b0 := decide_eq_false c8
  clear c8
  obtain rfl := Option.some.inj H
  go_enter Try.func35, Try.ntmps35
  go_wp2_with (first | ((with_reducible refine gate_dst (N := 5) rfl ?_); refine box_event rfl (N := 5) rfl (cs := #[.slice A0_0 l0_0.length c0_0, .slice A0_1 l0_1.length c0_1, .slice A0_2 l0_2.length c0_2, .int .i64 a0_3]) (t := 30) (by first | (go_simp; done) | (go_simp; rfl)) ?_; intro gb1 hg w13 hbox hb; have BK1 := Aside0.mk hbox; have GW1 := mGw HB hg; have GE1 := GW1; replace HB := mSt HB hb; clear hb hbox hg; have hcz14 := blk_cell BK1.out; have hfz14 := blk_frozen BK1.out; have p175 : 0 ≤ (a3 : Int) := of_decide_eq_true (by assumption); have q175 : a3 < (l0_0.length : Int) := of_decide_eq_true (by assumption); obtain ⟨ad175, A175_2, c175_2, e175, hx175_0, hx175_1, hx175_2, hl175_2, hi175_2⟩ := at_T53 HR0_0.out a3 p175 q175; cases e175; replace hx175_0 := mHx HB hx175_0; replace hx175_1 := mHx HB hx175_1; replace hx175_2 := mHx HB hx175_2; have HR175_2 := Aside0.mk hi175_2; have HC175_2 := Aside0.mk hl175_2; clear hi175_2 hl175_2; replace p175 := eq_true p175; replace q175 := eq_true q175))
  go_ret
  exact ⟨rfl, HB.out⟩
 rw [if_pos c8] at H
 have c8b0 := decide_eq_true c8
 clear c8
 obtain ⟨c9, H⟩ : (0 ≤ a1) ∧ _ := mIf H
 have c9b0 := decide_eq_true c9
 clear c9
 obtain ⟨c10, H⟩ : (a1 < (l0_0.length : Int)) ∧ _ := mIf H
 have c10b0 := decide_eq_true c10
 clear c10
 obtain rfl := Option.some.inj H
 go_enter Try.func35, Try.ntmps35
 go_wp2_with (first | ((with_reducible refine gate_dst (N := 5) rfl ?_); refine box_event rfl (N := 5) rfl (cs := #[.slice A0_0 l0_0.length c0_0, .slice A0_1 l0_1.length c0_1, .slice A0_2 l0_2.length c0_2, .int .i64 a0_3]) (t := 30) (by first | (go_simp; done) | (go_simp; rfl)) ?_; intro gb1 hg w11 hbox hb; have BK1 := Aside0.mk hbox; have GW1 := mGw HB hg; have GE1 := GW1; replace HB := mSt HB hb; clear hb hbox hg; have hcz12 := blk_cell BK1.out; have hfz12 := blk_frozen BK1.out; have p175 : 0 ≤ (a3 : Int) := of_decide_eq_true (by assumption); have q175 : a3 < (l0_0.length : Int) := of_decide_eq_true (by assumption); obtain ⟨ad175, A175_2, c175_2, e175, hx175_0, hx175_1, hx175_2, hl175_2, hi175_2⟩ := at_T53 HR0_0.out a3 p175 q175; cases e175; replace hx175_0 := mHx HB hx175_0; replace hx175_1 := mHx HB hx175_1; replace hx175_2 := mHx HB hx175_2; have HR175_2 := Aside0.mk hi175_2; have HC175_2 := Aside0.mk hl175_2; clear hi175_2 hl175_2; replace p175 := eq_true p175; replace q175 := eq_true q175; have p176 : 0 ≤ (a1 : Int) := of_decide_eq_true (by assumption); have q176 : a1 < (l0_0.length : Int) := of_decide_eq_true (by assumption); obtain ⟨ad176, A176_2, c176_2, e176, hx176_0, hx176_1, hx176_2, hl176_2, hi176_2⟩ := at_T53 HR0_0.out a1 p176 q176; obtain rfl : ad175 = ad176 := (by injection e176); replace hx176_0 := mHx HB hx176_0; replace hx176_1 := mHx HB hx176_1; replace hx176_2 := mHx HB hx176_2; have HR176_2 := Aside0.mk hi176_2; have HC176_2 := Aside0.mk hl176_2; clear hi176_2 hl176_2; replace p176 := eq_true p176; replace q176 := eq_true q176))
 go_ret
 exact ⟨rfl, HB.out⟩
def rehearse_Task_share_fn1.f (k : Nat) (a0 : Int) (l1_0 : List (S53)) (l1_1 : List (S55)) (l1_2 : List (S59)) (a1_3 : Int) (a2 : Int) : Option (Bool) := if 0 ≤ a2 then (if a2 < (l1_0.length : Int) then ((slices_Contains_int_int.f k ((rd_T53 l1_0 a2).f2) a0).bind fun t179 => (some t179)) else (none)) else (none)
set_option maxHeartbeats 8000000 in
set_option maxRecDepth 100000 in
theorem rehearse_Task_share_fn1.calls (k : Nat) (a0 : Int) (A1_0 : Option Addr) (c1_0 : Nat) (l1_0 : List (S53)) (A1_1 : Option Addr) (c1_1 : Nat) (l1_1 : List (S55)) (A1_2 : Option Addr) (c1_2 : Nat) (l1_2 : List (S59)) (a1_3 : Int) (a2 : Int) (r : Bool) (w : World) (hr1_0 : Kd.C k53 w A1_0 l1_0.length l1_0) (hc1_0 : l1_0.length ≤ c1_0) (hr1_1 : Kd.C k55 w A1_1 l1_1.length l1_1) (hc1_1 : l1_1.length ≤ c1_1) (hr1_2 : Kd.C k59 w A1_2 l1_2.length l1_2) (hc1_2 : l1_2.length ≤ c1_2) (gq_ : Nat) (hbk : w.heap[gq_]? = some (.cells #[.slice A1_0 l1_0.length c1_0, .slice A1_1 l1_1.length c1_1, .slice A1_2 l1_2.length c1_2, .int .i64 a1_3] 30 (0, 0))) (gk_ : Nat) (hbi : w.heap[gk_]? = some (.cells #[.int .i64 a2] 3 (0, 0))) (h : rehearse_Task_share_fn1.f k a0 l1_0 l1_1 l1_2 a1_3 a2 = some r) :
  Calls Try.prog 51 #[.int .i64 a0, .pointer (some ⟨gq_, 0, none⟩), .pointer (some ⟨gk_, 0, none⟩)] w fun e w' => e = .returned (.bool r) ∧ Below w.heap.size w w' := by
 have hu30 := Try.underlying30
 have HR1_0 := Aside0.mk hr1_0
 have HC1_0 := Aside0.mk hc1_0
 clear hr1_0 hc1_0
 have HR1_1 := Aside0.mk hr1_1
 have HC1_1 := Aside0.mk hc1_1
 clear hr1_1 hc1_1
 have HR1_2 := Aside0.mk hr1_2
 have HC1_2 := Aside0.mk hc1_2
 clear hr1_2 hc1_2
 have BK177 := Aside0.mk hbk
 have hki_ : w.cell? ⟨gk_, 0, none⟩ = some (.int .i64 a2) := (blk_cell hbi 0).trans rfl
 have HB := Aside0.mk (Below.refl w.heap.size w)
 have H := h
 unfold rehearse_Task_share_fn1.f at H
 clear h
 obtain ⟨c4, H⟩ : (0 ≤ a2) ∧ _ := mIf H
 have c4b0 := decide_eq_true c4
 clear c4
 obtain ⟨c5, H⟩ : (a2 < (l1_0.length : Int)) ∧ _ := mIf H
 have c5b0 := decide_eq_true c5
 clear c5
 replace H := Option.bind_eq_some_iff.mp H
 obtain ⟨t179, A60, H⟩ := H
 try dsimp only at H
 have A6 := Aside0.mk A60
 clear A60
 obtain rfl := Option.some.inj H
 go_enter Try.func51, Try.ntmps51
 have hcz8 := blk_cell BK177.out; have hfz8 := blk_frozen BK177.out; have p178 : 0 ≤ (a2 : Int) := of_decide_eq_true (by assumption); have q178 : a2 < (l1_0.length : Int) := of_decide_eq_true (by assumption); obtain ⟨ad178, A178_2, c178_2, e178, hx178_0, hx178_1, hx178_2, hl178_2, hi178_2⟩ := at_T53 HR1_0.out a2 p178 q178; cases e178; replace hx178_0 := mHx HB hx178_0; replace hx178_1 := mHx HB hx178_1; replace hx178_2 := mHx HB hx178_2; have HR178_2 := Aside0.mk hi178_2; have HC178_2 := Aside0.mk hl178_2; clear hi178_2 hl178_2; replace p178 := eq_true p178; replace q178 := eq_true q178
 go_wp2_with (first | ((with_reducible refine gate_callee (f := 46) rfl ?_); refine goesL_ (some 12) rfl rfl Try.func46 (by kernel_rfl) rfl #[.slice A178_2 ((rd_T53 l1_0 a2).f2).length c178_2, .int .i64 a0] rfl (mA2 rfl rfl) ?_; (with_reducible refine (slices_Contains_int_int.calls k _ _ ((rd_T53 l1_0 a2).f2) a0 t179 _ (Kd.C_below HR178_2.out HB.out) HC178_2.out A6.out).mono ?_); rintro e w' ⟨rfl, ⟨nd, rfl⟩⟩; refine ⟨_, rfl, ?_⟩))
 go_ret
 exact ⟨rfl, hO HB⟩
def slices_IndexFunc_int_int.l0 : Nat → List Int → Int → Int → Int → List (S53) → List (S55) → List (S59) → Int → Option (Int)
 | 0, _, _, _, _, _, _, _, _ => none
 | k + 1, x0, x2, x7, x8, x181000, x181001, x181002, x181003 => if x8 < x7 then (if 0 ≤ x8 then (if x8 < (x0.length : Int) then ((rehearse_Task_share_fn1.f k (rd x0 x8) x181000 x181001 x181002 x181003 x2).bind fun t182 => (if t182 = true then (some x8) else (slices_IndexFunc_int_int.l0 k x0 x2 x7 (wrap64 (x8 + 1)) x181000 x181001 x181002 x181003))) else (none)) else (none)) else (some (-1))
def slices_IndexFunc_int_int.f (k : Nat) (l0 : List Int) (l1_0 : List (S53)) (l1_1 : List (S55)) (l1_2 : List (S59)) (a1_3 : Int) (a2 : Int) : Option (Int) := slices_IndexFunc_int_int.l0 k l0 a2 (l0.length : Int) 0 l1_0 l1_1 l1_2 a1_3
set_option maxHeartbeats 8000000 in
set_option maxRecDepth 100000 in
theorem slices_IndexFunc_int_int.calls (k : Nat) (A0 : Option Addr) (c0 : Nat) (l0 : List Int) (A1_0 : Option Addr) (c1_0 : Nat) (l1_0 : List (S53)) (A1_1 : Option Addr) (c1_1 : Nat) (l1_1 : List (S55)) (A1_2 : Option Addr) (c1_2 : Nat) (l1_2 : List (S59)) (a1_3 : Int) (a2 : Int) (r : Int) (w : World) (hr0 : Kd.C (Kd.int .i64) w A0 l0.length l0) (hc0 : l0.length ≤ c0) (hr1_0 : Kd.C k53 w A1_0 l1_0.length l1_0) (hc1_0 : l1_0.length ≤ c1_0) (hr1_1 : Kd.C k55 w A1_1 l1_1.length l1_1) (hc1_1 : l1_1.length ≤ c1_1) (hr1_2 : Kd.C k59 w A1_2 l1_2.length l1_2) (hc1_2 : l1_2.length ≤ c1_2) (gq_ : Nat) (hbk : w.heap[gq_]? = some (.cells #[.slice A1_0 l1_0.length c1_0, .slice A1_1 l1_1.length c1_1, .slice A1_2 l1_2.length c1_2, .int .i64 a1_3] 30 (0, 0))) (gk_ : Nat) (hbi : w.heap[gk_]? = some (.cells #[.int .i64 a2] 3 (0, 0))) (h : slices_IndexFunc_int_int.f k l0 l1_0 l1_1 l1_2 a1_3 a2 = some r) :
  Calls Try.prog 66 #[.slice A0 l0.length c0, .func (.func 51) #[] #[.pointer (some ⟨gq_, 0, none⟩), .pointer (some ⟨gk_, 0, none⟩)]] w fun e w' => e = .returned (.int .i64 r) ∧ Below w.heap.size w w' := by
 have hu30 := Try.underlying30
 have HR0 := Aside0.mk hr0
 have HC0 := Aside0.mk hc0
 clear hr0 hc0
 have HR1_0 := Aside0.mk hr1_0
 have HC1_0 := Aside0.mk hc1_0
 clear hr1_0 hc1_0
 have HR1_1 := Aside0.mk hr1_1
 have HC1_1 := Aside0.mk hc1_1
 clear hr1_1 hc1_1
 have HR1_2 := Aside0.mk hr1_2
 have HC1_2 := Aside0.mk hc1_2
 clear hr1_2 hc1_2
 have BK180 := Aside0.mk hbk
 have HBI_ := Aside0.mk hbi
 have HB := Aside0.mk (Below.refl w.heap.size w)
 have H := h
 unfold slices_IndexFunc_int_int.f at H
 clear h
 have H' := Aside0.mk H
 clear H
 go_enter Try.func66, Try.ntmps66
 go_wp2
 go_loopg [8] k (fun kq v8 w' => ∃ (x8_1 : Int), v8 = .int .i64 x8_1 ∧ Aside0 (slices_IndexFunc_int_int.l0 kq l0 a2 (l0.length : Int) x8_1 l1_0 l1_1 l1_2 a1_3 = some r) ∧ Aside0 (kq ≤ k) ∧ Aside0 (w'.heap[gq_]? = some (.cells #[(.slice A1_0 l1_0.length c1_0), (.slice A1_1 l1_1.length c1_1), (.slice A1_2 l1_2.length c1_2), .int .i64 a1_3] 30 (0, 0))) ∧ Aside0 (Below w.heap.size w w'))
 case atStart => exact ⟨(0), rfl, H', ⟨Nat.le_refl _⟩, ⟨BK180.out⟩, ⟨HB.out⟩⟩
 case round =>
  clear H'
  skip
  obtain ⟨x8_1, rfl, HA, HK1, BK180, HB⟩ := hrel
  cases gk with
  | zero => exact absurd HA.out (by simp [slices_IndexFunc_int_int.l0])
  | succ k1 =>
   have H := HA.out
   clear HA
   simp only [slices_IndexFunc_int_int.l0] at H
   by_cases c5 : x8_1 < (l0.length : Int)
   rotate_left
   ·
    rw [if_neg c5] at H
    have c5b0 := decide_eq_false c5
    clear c5
    obtain rfl := Option.some.inj H
    go_wp2
    go_ret
    exact ⟨rfl, HB.out⟩
   rw [if_pos c5] at H
   have c5b0 := decide_eq_true c5
   clear c5
   obtain ⟨c6, H⟩ : (0 ≤ x8_1) ∧ _ := mIf H
   have c6b0 := decide_eq_true c6
   clear c6
   obtain ⟨c7, H⟩ : (x8_1 < (l0.length : Int)) ∧ _ := mIf H
   have c7b0 := decide_eq_true c7
   clear c7
   replace H := Option.bind_eq_some_iff.mp H
   obtain ⟨t182, A80, H⟩ := H
   try dsimp only at H
   have A8 := Aside0.mk A80
   clear A80
   by_cases c9 : t182 = true
   ·
    subst c9
    rw [if_pos rfl] at H
    obtain rfl := Option.some.inj H
    have hcz10 := blk_cell BK180.out; have hfz10 := blk_frozen BK180.out
    have p181 : 0 ≤ (x8_1 : Int) := of_decide_eq_true (by assumption)
    have q181 : x8_1 < (l0.length : Int) := of_decide_eq_true (by assumption)
    obtain ⟨ad181, e181, hx181_0⟩ := Kd.at_int HR0.out x8_1 p181 q181
    cases e181
    replace hx181_0 := mHx HB hx181_0
    replace p181 := eq_true p181
    replace q181 := eq_true q181
    go_wp2_with (first | (go_at_call 51; (with_reducible refine (rehearse_Task_share_fn1.calls k1 (rd l0 x8_1) A1_0 c1_0 l1_0 A1_1 c1_1 l1_1 A1_2 c1_2 l1_2 a1_3 a2 true _ ?side1 ?side2 ?side3 ?side4 ?side5 ?side6 gq_ ?sbk gk_ ?sbi A8.out).mono ?_); (case sbk => exact BK180.out); (case sbi => exact blk_below HBI_.out HB.out); (case side1 => exact Kd.C_below HR1_0.out HB.out); (case side2 => exact HC1_0.out); (case side3 => exact Kd.C_below HR1_1.out HB.out); (case side4 => exact HC1_1.out); (case side5 => exact Kd.C_below HR1_2.out HB.out); (case side6 => exact HC1_2.out); rintro e w11 ⟨rfl, hb⟩; replace BK180 := mBb BK180 hb; replace HB := mSt HB hb; (try clear hb)))
    go_ret
    exact ⟨rfl, HB.out⟩
   replace c9 := Bool.eq_false_iff.mpr c9
   subst c9
   rw [if_neg (show ¬ (false = true) by decide)] at H
   have H' := Aside0.mk H
   clear H
   have hcz12 := blk_cell BK180.out; have hfz12 := blk_frozen BK180.out
   have p181 : 0 ≤ (x8_1 : Int) := of_decide_eq_true (by assumption)
   have q181 : x8_1 < (l0.length : Int) := of_decide_eq_true (by assumption)
   obtain ⟨ad181, e181, hx181_0⟩ := Kd.at_int HR0.out x8_1 p181 q181
   cases e181
   replace hx181_0 := mHx HB hx181_0
   replace p181 := eq_true p181
   replace q181 := eq_true q181
   go_wp2_with (first | (go_at_call 51; (with_reducible refine (rehearse_Task_share_fn1.calls k1 (rd l0 x8_1) A1_0 c1_0 l1_0 A1_1 c1_1 l1_1 A1_2 c1_2 l1_2 a1_3 a2 false _ ?side1 ?side2 ?side3 ?side4 ?side5 ?side6 gq_ ?sbk gk_ ?sbi A8.out).mono ?_); (case sbk => exact BK180.out); (case sbi => exact blk_below HBI_.out HB.out); (case side1 => exact Kd.C_below HR1_0.out HB.out); (case side2 => exact HC1_0.out); (case side3 => exact Kd.C_below HR1_1.out HB.out); (case side4 => exact HC1_1.out); (case side5 => exact Kd.C_below HR1_2.out HB.out); (case side6 => exact HC1_2.out); rintro e w13 ⟨rfl, hb⟩; replace BK180 := mBb BK180 hb; replace HB := mSt HB hb; (try clear hb)))
   go_roundg k1
   case measure => have := HK1.out; omega
   case rel => exact ⟨(wrap64 (x8_1 + 1)), rfl, H', ⟨by have := HK1.out; omega⟩, ⟨BK180.out⟩, ⟨HB.out⟩⟩
def slices_ContainsFunc_int_int.f (k : Nat) (l0 : List Int) (l1_0 : List (S53)) (l1_1 : List (S55)) (l1_2 : List (S59)) (a1_3 : Int) (a2 : Int) : Option (Bool) := (slices_IndexFunc_int_int.f k l0 l1_0 l1_1 l1_2 a1_3 a2).bind fun t184 => (some (decide (t184 ≥ 0)))
set_option maxHeartbeats 8000000 in
set_option maxRecDepth 100000 in
theorem slices_ContainsFunc_int_int.calls (k : Nat) (A0 : Option Addr) (c0 : Nat) (l0 : List Int) (A1_0 : Option Addr) (c1_0 : Nat) (l1_0 : List (S53)) (A1_1 : Option Addr) (c1_1 : Nat) (l1_1 : List (S55)) (A1_2 : Option Addr) (c1_2 : Nat) (l1_2 : List (S59)) (a1_3 : Int) (a2 : Int) (r : Bool) (w : World) (hr0 : Kd.C (Kd.int .i64) w A0 l0.length l0) (hc0 : l0.length ≤ c0) (hr1_0 : Kd.C k53 w A1_0 l1_0.length l1_0) (hc1_0 : l1_0.length ≤ c1_0) (hr1_1 : Kd.C k55 w A1_1 l1_1.length l1_1) (hc1_1 : l1_1.length ≤ c1_1) (hr1_2 : Kd.C k59 w A1_2 l1_2.length l1_2) (hc1_2 : l1_2.length ≤ c1_2) (gq_ : Nat) (hbk : w.heap[gq_]? = some (.cells #[.slice A1_0 l1_0.length c1_0, .slice A1_1 l1_1.length c1_1, .slice A1_2 l1_2.length c1_2, .int .i64 a1_3] 30 (0, 0))) (gk_ : Nat) (hbi : w.heap[gk_]? = some (.cells #[.int .i64 a2] 3 (0, 0))) (h : slices_ContainsFunc_int_int.f k l0 l1_0 l1_1 l1_2 a1_3 a2 = some r) :
  Calls Try.prog 50 #[.slice A0 l0.length c0, .func (.func 51) #[] #[.pointer (some ⟨gq_, 0, none⟩), .pointer (some ⟨gk_, 0, none⟩)]] w fun e w' => e = .returned (.bool r) ∧ Below w.heap.size w w' := by
 have hu30 := Try.underlying30
 have HR0 := Aside0.mk hr0
 have HC0 := Aside0.mk hc0
 clear hr0 hc0
 have HR1_0 := Aside0.mk hr1_0
 have HC1_0 := Aside0.mk hc1_0
 clear hr1_0 hc1_0
 have HR1_1 := Aside0.mk hr1_1
 have HC1_1 := Aside0.mk hc1_1
 clear hr1_1 hc1_1
 have HR1_2 := Aside0.mk hr1_2
 have HC1_2 := Aside0.mk hc1_2
 clear hr1_2 hc1_2
 have BK183 := Aside0.mk hbk
 have HBI_ := Aside0.mk hbi
 have HB := Aside0.mk (Below.refl w.heap.size w)
 have H := h
 unfold slices_ContainsFunc_int_int.f at H
 clear h
 replace H := Option.bind_eq_some_iff.mp H
 obtain ⟨t184, A40, H⟩ := H
 try dsimp only at H
 have A4 := Aside0.mk A40
 clear A40
 obtain rfl := Option.some.inj H
 go_enter Try.func50, Try.ntmps50
 have hcz6 := blk_cell BK183.out; have hfz6 := blk_frozen BK183.out
 go_wp2_with (first | ((with_reducible refine gate_callee (f := 66) rfl ?_); refine goesL_ (some 7) rfl rfl Try.func66 (by kernel_rfl) rfl #[.slice A0 l0.length c0, .func (.func 51) #[] #[.pointer (some ⟨gq_, 0, none⟩), .pointer (some ⟨gk_, 0, none⟩)]] rfl (mA2 rfl rfl) ?_; (with_reducible refine (slices_IndexFunc_int_int.calls k _ _ l0 A1_0 c1_0 l1_0 A1_1 c1_1 l1_1 A1_2 c1_2 l1_2 a1_3 a2 t184 _ ?side1 ?side2 ?side3 ?side4 ?side5 ?side6 ?side7 ?side8 gq_ ?sbk gk_ ?sbi A4.out).mono ?_); (case sbk => exact BK183.out); (case sbi => exact blk_below HBI_.out HB.out); (case side1 => exact Kd.C_below HR0.out HB.out); (case side2 => exact HC0.out); (case side3 => exact Kd.C_below HR1_0.out HB.out); (case side4 => exact HC1_0.out); (case side5 => exact Kd.C_below HR1_1.out HB.out); (case side6 => exact HC1_1.out); (case side7 => exact Kd.C_below HR1_2.out HB.out); (case side8 => exact HC1_2.out); rintro e w7 ⟨rfl, hb⟩; refine ⟨_, rfl, ?_⟩; replace BK183 := mBb BK183 hb; replace HB := mSt HB hb; (try clear hb)))
 go_ret
 exact ⟨rfl, HB.out⟩
def rehearse_Task_share.f (k : Nat) (l0_0 : List (S53)) (l0_1 : List (S55)) (l0_2 : List (S59)) (a0_3 : Int) (a1 : Int) (a2 : Int) : Option (Bool) := if 0 ≤ a1 then (if a1 < (l0_0.length : Int) then ((slices_ContainsFunc_int_int.f k ((rd_T53 l0_0 a1).f2) l0_0 l0_1 l0_2 a0_3 a2).bind fun t187 => (some t187)) else (none)) else (none)
set_option maxHeartbeats 8000000 in
set_option maxRecDepth 100000 in
theorem rehearse_Task_share.calls (k : Nat) (A0_0 : Option Addr) (c0_0 : Nat) (l0_0 : List (S53)) (A0_1 : Option Addr) (c0_1 : Nat) (l0_1 : List (S55)) (A0_2 : Option Addr) (c0_2 : Nat) (l0_2 : List (S59)) (a0_3 : Int) (a1 : Int) (a2 : Int) (r : Bool) (w : World) (hr0_0 : Kd.C k53 w A0_0 l0_0.length l0_0) (hc0_0 : l0_0.length ≤ c0_0) (hr0_1 : Kd.C k55 w A0_1 l0_1.length l0_1) (hc0_1 : l0_1.length ≤ c0_1) (hr0_2 : Kd.C k59 w A0_2 l0_2.length l0_2) (hc0_2 : l0_2.length ≤ c0_2) (h : rehearse_Task_share.f k l0_0 l0_1 l0_2 a0_3 a1 a2 = some r) :
  Calls Try.prog 36 #[.agg #[.slice A0_0 l0_0.length c0_0, .slice A0_1 l0_1.length c0_1, .slice A0_2 l0_2.length c0_2, .int .i64 a0_3], .int .i64 a1, .int .i64 a2] w fun e w' => e = .returned (.bool r) ∧ Below w.heap.size w w' := by
 have hu30 := Try.underlying30
 have HR0_0 := Aside0.mk hr0_0
 have HC0_0 := Aside0.mk hc0_0
 clear hr0_0 hc0_0
 have HR0_1 := Aside0.mk hr0_1
 have HC0_1 := Aside0.mk hc0_1
 clear hr0_1 hc0_1
 have HR0_2 := Aside0.mk hr0_2
 have HC0_2 := Aside0.mk hc0_2
 clear hr0_2 hc0_2
 have HB := Aside0.mk (Below.refl w.heap.size w)
 have H := h
 unfold rehearse_Task_share.f at H
 clear h
 obtain ⟨c4, H⟩ : (0 ≤ a1) ∧ _ := mIf H
 have c4b0 := decide_eq_true c4
 clear c4
 obtain ⟨c5, H⟩ : (a1 < (l0_0.length : Int)) ∧ _ := mIf H
 have c5b0 := decide_eq_true c5
 clear c5
 replace H := Option.bind_eq_some_iff.mp H
 obtain ⟨t187, A60, H⟩ := H
 try dsimp only at H
 have A6 := Aside0.mk A60
 clear A60
 obtain rfl := Option.some.inj H
 have hmf : ∀ (fn : Fn) (first cap : Array Value) (w : World), (Instr.makeFunc fn first cap).run Try.prog w = .ok (.func fn first cap) w := fun _ _ _ _ => rfl
 go_enter Try.func36, Try.ntmps36
 go_wp2_with (first | ((with_reducible refine gate_dst (N := 3) rfl ?_); refine box_event rfl (N := 3) rfl (cs := #[.slice A0_0 l0_0.length c0_0, .slice A0_1 l0_1.length c0_1, .slice A0_2 l0_2.length c0_2, .int .i64 a0_3]) (t := 30) (by first | (go_simp; done) | (go_simp; rfl)) ?_; intro gb1 hg w7 hbox hb; have BK1 := Aside0.mk hbox; have GW1 := mGw HB hg; have GE1 := GW1; replace HB := mSt HB hb; clear hb hbox hg) | ((with_reducible refine gate_dst (N := 5) rfl ?_); refine box_event rfl (N := 5) rfl (cs := #[.int .i64 a2]) (t := 3) (by first | (go_simp; done) | (go_simp; rfl)) ?_; intro gi_ hg gi_w hbox hb; replace BK1 := mBb BK1 hb; replace HB := mSt HB hb; have BKI_ := Aside0.mk hbox; clear hb hbox hg; have hcz8 := blk_cell BK1.out; have hfz8 := blk_frozen BK1.out; have p186 : 0 ≤ (a1 : Int) := of_decide_eq_true (by assumption); have q186 : a1 < (l0_0.length : Int) := of_decide_eq_true (by assumption); obtain ⟨ad186, A186_2, c186_2, e186, hx186_0, hx186_1, hx186_2, hl186_2, hi186_2⟩ := at_T53 HR0_0.out a1 p186 q186; cases e186; replace hx186_0 := mHx HB hx186_0; replace hx186_1 := mHx HB hx186_1; replace hx186_2 := mHx HB hx186_2; have HR186_2 := Aside0.mk hi186_2; have HC186_2 := Aside0.mk hl186_2; clear hi186_2 hl186_2; replace p186 := eq_true p186; replace q186 := eq_true q186) | ((with_reducible refine gate_callee (f := 50) rfl ?_); refine goesL_ (some 14) rfl rfl Try.func50 (by kernel_rfl) rfl #[.slice A186_2 ((rd_T53 l0_0 a1).f2).length c186_2, .func (.func 51) #[] #[.pointer (some ⟨gb1, 0, none⟩), .pointer (some ⟨gi_, 0, none⟩)]] rfl (mA2 rfl rfl) ?_; (with_reducible refine (slices_ContainsFunc_int_int.calls k _ _ ((rd_T53 l0_0 a1).f2) (some ad186) c0_0 l0_0 A0_1 c0_1 l0_1 A0_2 c0_2 l0_2 a0_3 a2 t187 _ ?side1 ?side2 ?side3 ?side4 ?side5 ?side6 ?side7 ?side8 gb1 ?sbk gi_ ?sbi A6.out).mono ?_); (case sbk => exact BK1.out); (case sbi => exact BKI_.out); (case side1 => exact Kd.C_below HR186_2.out HB.out); (case side2 => exact HC186_2.out); (case side3 => exact Kd.C_below HR0_0.out HB.out); (case side4 => exact HC0_0.out); (case side5 => exact Kd.C_below HR0_1.out HB.out); (case side6 => exact HC0_1.out); (case side7 => exact Kd.C_below HR0_2.out HB.out); (case side8 => exact HC0_2.out); rintro e w9 ⟨rfl, hb⟩; refine ⟨_, rfl, ?_⟩; replace BK1 := mBb BK1 hb; replace HB := mSt HB hb; (try clear hb)))
 go_ret
 exact ⟨rfl, HB.out⟩
def rehearse_Task_fits.f (l0_0 : List (S53)) (l0_1 : List (S55)) (l0_2 : List (S59)) (a0_3 : Int) (a1 : Int) (a2 : Int) : Option (Bool) := if 0 ≤ a1 then (if a1 < (l0_0.length : Int) then (if 0 ≤ a2 then (if a2 < (l0_1.length : Int) then (some (decide ((((rd_T53 l0_0 a1).f2).length : Int) ≤ ((rd_T55 l0_1 a2).f0)))) else (none)) else (none)) else (none)) else (none)
set_option maxHeartbeats 8000000 in
set_option maxRecDepth 100000 in
theorem rehearse_Task_fits.calls (A0_0 : Option Addr) (c0_0 : Nat) (l0_0 : List (S53)) (A0_1 : Option Addr) (c0_1 : Nat) (l0_1 : List (S55)) (A0_2 : Option Addr) (c0_2 : Nat) (l0_2 : List (S59)) (a0_3 : Int) (a1 : Int) (a2 : Int) (r : Bool) (w : World) (hr0_0 : Kd.C k53 w A0_0 l0_0.length l0_0) (hc0_0 : l0_0.length ≤ c0_0) (hr0_1 : Kd.C k55 w A0_1 l0_1.length l0_1) (hc0_1 : l0_1.length ≤ c0_1) (hr0_2 : Kd.C k59 w A0_2 l0_2.length l0_2) (hc0_2 : l0_2.length ≤ c0_2) (h : rehearse_Task_fits.f l0_0 l0_1 l0_2 a0_3 a1 a2 = some r) :
  Calls Try.prog 48 #[.agg #[.slice A0_0 l0_0.length c0_0, .slice A0_1 l0_1.length c0_1, .slice A0_2 l0_2.length c0_2, .int .i64 a0_3], .int .i64 a1, .int .i64 a2] w fun e w' => e = .returned (.bool r) ∧ Below w.heap.size w w' := by
 have hu30 := Try.underlying30
 have HR0_0 := Aside0.mk hr0_0
 have HC0_0 := Aside0.mk hc0_0
 clear hr0_0 hc0_0
 have HR0_1 := Aside0.mk hr0_1
 have HC0_1 := Aside0.mk hc0_1
 clear hr0_1 hc0_1
 have HR0_2 := Aside0.mk hr0_2
 have HC0_2 := Aside0.mk hc0_2
 clear hr0_2 hc0_2
 have HB := Aside0.mk (Below.refl w.heap.size w)
 have H := h
 unfold rehearse_Task_fits.f at H
 clear h
 obtain ⟨c4, H⟩ : (0 ≤ a1) ∧ _ := mIf H
 have c4b0 := decide_eq_true c4
 clear c4
 obtain ⟨c5, H⟩ : (a1 < (l0_0.length : Int)) ∧ _ := mIf H
 have c5b0 := decide_eq_true c5
 clear c5
 obtain ⟨c6, H⟩ : (0 ≤ a2) ∧ _ := mIf H
 have c6b0 := decide_eq_true c6
 clear c6
 obtain ⟨c7, H⟩ : (a2 < (l0_1.length : Int)) ∧ _ := mIf H
 have c7b0 := decide_eq_true c7
 clear c7
 obtain rfl := Option.some.inj H
 go_enter Try.func48, Try.ntmps48
 go_wp2_with (first | ((with_reducible refine gate_dst (N := 3) rfl ?_); refine box_event rfl (N := 3) rfl (cs := #[.slice A0_0 l0_0.length c0_0, .slice A0_1 l0_1.length c0_1, .slice A0_2 l0_2.length c0_2, .int .i64 a0_3]) (t := 30) (by first | (go_simp; done) | (go_simp; rfl)) ?_; intro gb1 hg w8 hbox hb; have BK1 := Aside0.mk hbox; have GW1 := mGw HB hg; have GE1 := GW1; replace HB := mSt HB hb; clear hb hbox hg; have hcz9 := blk_cell BK1.out; have hfz9 := blk_frozen BK1.out; have p161 : 0 ≤ (a1 : Int) := of_decide_eq_true (by assumption); have q161 : a1 < (l0_0.length : Int) := of_decide_eq_true (by assumption); obtain ⟨ad161, A161_2, c161_2, e161, hx161_0, hx161_1, hx161_2, hl161_2, hi161_2⟩ := at_T53 HR0_0.out a1 p161 q161; cases e161; replace hx161_0 := mHx HB hx161_0; replace hx161_1 := mHx HB hx161_1; replace hx161_2 := mHx HB hx161_2; have HR161_2 := Aside0.mk hi161_2; have HC161_2 := Aside0.mk hl161_2; clear hi161_2 hl161_2; replace p161 := eq_true p161; replace q161 := eq_true q161; have p162 : 0 ≤ (a2 : Int) := of_decide_eq_true (by assumption); have q162 : a2 < (l0_1.length : Int) := of_decide_eq_true (by assumption); obtain ⟨ad162, e162, hx162_0⟩ := at_T55 HR0_1.out a2 p162 q162; cases e162; replace hx162_0 := mHx HB hx162_0; replace p162 := eq_true p162; replace q162 := eq_true q162))
 repeat (go_quiet (first | ((with_reducible refine gate_dst (N := 3) rfl ?_); refine box_event rfl (N := 3) rfl (cs := #[.slice A0_0 l0_0.length c0_0, .slice A0_1 l0_1.length c0_1, .slice A0_2 l0_2.length c0_2, .int .i64 a0_3]) (t := 30) (by first | (go_simp; done) | (go_simp; rfl)) ?_; intro gb1 hg w8 hbox hb; have BK1 := Aside0.mk hbox; have GW1 := mGw HB hg; have GE1 := GW1; replace HB := mSt HB hb; clear hb hbox hg; have hcz9 := blk_cell BK1.out; have hfz9 := blk_frozen BK1.out; have p161 : 0 ≤ (a1 : Int) := of_decide_eq_true (by assumption); have q161 : a1 < (l0_0.length : Int) := of_decide_eq_true (by assumption); obtain ⟨ad161, A161_2, c161_2, e161, hx161_0, hx161_1, hx161_2, hl161_2, hi161_2⟩ := at_T53 HR0_0.out a1 p161 q161; cases e161; replace hx161_0 := mHx HB hx161_0; replace hx161_1 := mHx HB hx161_1; replace hx161_2 := mHx HB hx161_2; have HR161_2 := Aside0.mk hi161_2; have HC161_2 := Aside0.mk hl161_2; clear hi161_2 hl161_2; replace p161 := eq_true p161; replace q161 := eq_true q161; have p162 : 0 ≤ (a2 : Int) := of_decide_eq_true (by assumption); have q162 : a2 < (l0_1.length : Int) := of_decide_eq_true (by assumption); obtain ⟨ad162, e162, hx162_0⟩ := at_T55 HR0_1.out a2 p162 q162; cases e162; replace hx162_0 := mHx HB hx162_0; replace p162 := eq_true p162; replace q162 := eq_true q162)); try go_wp2_with (first | ((with_reducible refine gate_dst (N := 3) rfl ?_); refine box_event rfl (N := 3) rfl (cs := #[.slice A0_0 l0_0.length c0_0, .slice A0_1 l0_1.length c0_1, .slice A0_2 l0_2.length c0_2, .int .i64 a0_3]) (t := 30) (by first | (go_simp; done) | (go_simp; rfl)) ?_; intro gb1 hg w8 hbox hb; have BK1 := Aside0.mk hbox; have GW1 := mGw HB hg; have GE1 := GW1; replace HB := mSt HB hb; clear hb hbox hg; have hcz9 := blk_cell BK1.out; have hfz9 := blk_frozen BK1.out; have p161 : 0 ≤ (a1 : Int) := of_decide_eq_true (by assumption); have q161 : a1 < (l0_0.length : Int) := of_decide_eq_true (by assumption); obtain ⟨ad161, A161_2, c161_2, e161, hx161_0, hx161_1, hx161_2, hl161_2, hi161_2⟩ := at_T53 HR0_0.out a1 p161 q161; cases e161; replace hx161_0 := mHx HB hx161_0; replace hx161_1 := mHx HB hx161_1; replace hx161_2 := mHx HB hx161_2; have HR161_2 := Aside0.mk hi161_2; have HC161_2 := Aside0.mk hl161_2; clear hi161_2 hl161_2; replace p161 := eq_true p161; replace q161 := eq_true q161; have p162 : 0 ≤ (a2 : Int) := of_decide_eq_true (by assumption); have q162 : a2 < (l0_1.length : Int) := of_decide_eq_true (by assumption); obtain ⟨ad162, e162, hx162_0⟩ := at_T55 HR0_1.out a2 p162 q162; cases e162; replace hx162_0 := mHx HB hx162_0; replace p162 := eq_true p162; replace q162 := eq_true q162)))
 go_ret
 exact ⟨rfl, hO HB⟩
def rehearse_Task_away.l0 : Nat → Int → List (S59) → Int → Int → ByteArray → Int → List Int → Option (Bool)
 | 0, _, _, _, _, _, _, _ => none
 | k + 1, x2, x16, x17, x18, x166000, x166001, x166002 => if x18 < x17 then (if 0 ≤ x18 then (if x18 < (x16.length : Int) then (if (mx ((rd_T59 x16 x18).f1.f0) x2) < (mn ((rd_T59 x16 x18).f1.f1) (wrap64 (x2 + x166001))) then ((slices_Contains_int_int.f k x166002 ((rd_T59 x16 x18).f0)).bind fun t168 => (if t168 = true then (some true) else (rehearse_Task_away.l0 k x2 x16 x17 (wrap64 (x18 + 1)) x166000 x166001 x166002))) else (rehearse_Task_away.l0 k x2 x16 x17 (wrap64 (x18 + 1)) x166000 x166001 x166002)) else (none)) else (none)) else (some false)
def rehearse_Task_away.f (k : Nat) (l0_0 : List (S53)) (l0_1 : List (S55)) (l0_2 : List (S59)) (a0_3 : Int) (a1 : Int) (a2 : Int) : Option (Bool) := if 0 ≤ a1 then (if a1 < (l0_0.length : Int) then (rehearse_Task_away.l0 k a2 l0_2 (l0_2.length : Int) 0 ((rd_T53 l0_0 a1).f0) ((rd_T53 l0_0 a1).f1) ((rd_T53 l0_0 a1).f2)) else (none)) else (none)
set_option maxHeartbeats 8000000 in
set_option maxRecDepth 100000 in
theorem rehearse_Task_away.calls (k : Nat) (A0_0 : Option Addr) (c0_0 : Nat) (l0_0 : List (S53)) (A0_1 : Option Addr) (c0_1 : Nat) (l0_1 : List (S55)) (A0_2 : Option Addr) (c0_2 : Nat) (l0_2 : List (S59)) (a0_3 : Int) (a1 : Int) (a2 : Int) (r : Bool) (w : World) (hr0_0 : Kd.C k53 w A0_0 l0_0.length l0_0) (hc0_0 : l0_0.length ≤ c0_0) (hr0_1 : Kd.C k55 w A0_1 l0_1.length l0_1) (hc0_1 : l0_1.length ≤ c0_1) (hr0_2 : Kd.C k59 w A0_2 l0_2.length l0_2) (hc0_2 : l0_2.length ≤ c0_2) (h : rehearse_Task_away.f k l0_0 l0_1 l0_2 a0_3 a1 a2 = some r) :
  Calls Try.prog 49 #[.agg #[.slice A0_0 l0_0.length c0_0, .slice A0_1 l0_1.length c0_1, .slice A0_2 l0_2.length c0_2, .int .i64 a0_3], .int .i64 a1, .int .i64 a2] w fun e w' => e = .returned (.bool r) ∧ Below w.heap.size w w' := by
 have hu30 := Try.underlying30
 have hu53 := Try.underlying53
 have hu59 := Try.underlying59
 have HR0_0 := Aside0.mk hr0_0
 have HC0_0 := Aside0.mk hc0_0
 clear hr0_0 hc0_0
 have HR0_1 := Aside0.mk hr0_1
 have HC0_1 := Aside0.mk hc0_1
 clear hr0_1 hc0_1
 have HR0_2 := Aside0.mk hr0_2
 have HC0_2 := Aside0.mk hc0_2
 clear hr0_2 hc0_2
 have HB := Aside0.mk (Below.refl w.heap.size w)
 have H := h
 unfold rehearse_Task_away.f at H
 clear h
 obtain ⟨c4, H⟩ : (0 ≤ a1) ∧ _ := mIf H
 have c4b0 := decide_eq_true c4
 clear c4
 obtain ⟨c5, H⟩ : (a1 < (l0_0.length : Int)) ∧ _ := mIf H
 have c5b0 := decide_eq_true c5
 clear c5
 have H' := Aside0.mk H
 clear H
 go_enter Try.func49, Try.ntmps49
 go_wp2_with (first | ((with_reducible refine gate_dst (N := 3) rfl ?_); refine box_event rfl (N := 3) rfl (cs := #[.slice A0_0 l0_0.length c0_0, .slice A0_1 l0_1.length c0_1, .slice A0_2 l0_2.length c0_2, .int .i64 a0_3]) (t := 30) (by first | (go_simp; done) | (go_simp; rfl)) ?_; intro gb1 hg w6 hbox hb; have BK1 := Aside0.mk hbox; have GW1 := mGw HB hg; have GE1 := GW1; replace HB := mSt HB hb; clear hb hbox hg; have hcz7 := blk_cell BK1.out; have hfz7 := blk_frozen BK1.out; have p164 : 0 ≤ (a1 : Int) := of_decide_eq_true (by assumption); have q164 : a1 < (l0_0.length : Int) := of_decide_eq_true (by assumption); obtain ⟨ad164, A164_2, c164_2, e164, hx164_0, hx164_1, hx164_2, hl164_2, hi164_2⟩ := at_T53 HR0_0.out a1 p164 q164; cases e164; replace hx164_0 := mHx HB hx164_0; replace hx164_1 := mHx HB hx164_1; replace hx164_2 := mHx HB hx164_2; have HR164_2 := Aside0.mk hi164_2; have HC164_2 := Aside0.mk hl164_2; clear hi164_2 hl164_2; replace p164 := eq_true p164; replace q164 := eq_true q164) | ((with_reducible refine gate_dst (N := 7) rfl ?_); refine box_event rfl (N := 7) rfl (cs := #[.string (⟨#[]⟩ : ByteArray), .int .i64 0, .slice none 0 0]) (t := 53) (by first | (go_simp; done) | (go_simp; rfl)) ?_; intro gb2 hg w8 hbox hb; have BK2 := Aside0.mk hbox; have GW2 := mGw HB hg; have GE2 := GW2; replace HB := mSt HB hb; have NB1_2 := mNe BK1 hg; have NB2_1 := mSy NB1_2; replace BK1 := mBb BK1 hb; clear hb hbox hg; have hnb9 := NB2_1.out; have hnc9 := NB1_2.out; have hcz10 := blk_cell BK2.out; have hfz10 := blk_frozen BK2.out; have hcz11 := blk_cell BK1.out; have hfz11 := blk_frozen BK1.out))
 go_loopg [18] k (fun kq v18 w' => ∃ (x18_1 : Int), v18 = .int .i64 x18_1 ∧ Aside0 (rehearse_Task_away.l0 kq a2 l0_2 (l0_2.length : Int) x18_1 ((rd_T53 l0_0 a1).f0) ((rd_T53 l0_0 a1).f1) ((rd_T53 l0_0 a1).f2) = some r) ∧ Aside0 (kq ≤ k) ∧ Aside0 (w'.heap[gb1]? = some (.cells #[(.slice (some ad164) l0_0.length c0_0), (.slice A0_1 l0_1.length c0_1), (.slice A0_2 l0_2.length c0_2), .int .i64 a0_3] 30 (0, 0))) ∧ Aside0 (w'.heap[gb2]? = some (.cells #[.string ((rd_T53 l0_0 a1).f0), .int .i64 ((rd_T53 l0_0 a1).f1), (.slice A164_2 ((rd_T53 l0_0 a1).f2).length c164_2)] 53 (0, 0))) ∧ Aside0 (Below w.heap.size w w'))
 case atStart => exact ⟨(0), rfl, H', ⟨Nat.le_refl _⟩, ⟨by refine blk_far ?_ NB1_2.out _; refine blk_far ?_ NB1_2.out _; refine blk_far ?_ NB1_2.out _; exact BK1.out⟩, ⟨by refine blk_put (cs := #[.string ((rd_T53 l0_0 a1).f0), .int .i64 ((rd_T53 l0_0 a1).f1), .slice none 0 0]) ?_ 2 _ rfl; refine blk_put (cs := #[.string ((rd_T53 l0_0 a1).f0), .int .i64 0, .slice none 0 0]) ?_ 1 _ rfl; refine blk_put (cs := #[.string (⟨#[]⟩ : ByteArray), .int .i64 0, .slice none 0 0]) ?_ 0 _ rfl; exact BK2.out⟩, ⟨hO HB⟩⟩
 case round =>
  clear H'
  clear c4b0 c5b0 hx164_0 hx164_1 hx164_2 p164 q164
  obtain ⟨x18_1, rfl, HA, HK1, BK1, BK2, HB⟩ := hrel
  cases gk with
  | zero => exact absurd HA.out (by simp [rehearse_Task_away.l0])
  | succ k1 =>
   have H := HA.out
   clear HA
   simp only [rehearse_Task_away.l0] at H
   by_cases c12 : x18_1 < (l0_2.length : Int)
   rotate_left
   ·
    rw [if_neg c12] at H
    have c12b0 := decide_eq_false c12
    clear c12
    obtain rfl := Option.some.inj H
    go_wp2
    go_ret
    exact ⟨rfl, HB.out⟩
   rw [if_pos c12] at H
   have c12b0 := decide_eq_true c12
   clear c12
   obtain ⟨c13, H⟩ : (0 ≤ x18_1) ∧ _ := mIf H
   have c13b0 := decide_eq_true c13
   clear c13
   obtain ⟨c14, H⟩ : (x18_1 < (l0_2.length : Int)) ∧ _ := mIf H
   have c14b0 := decide_eq_true c14
   clear c14
   obtain ⟨ji15, hji15⟩ : ∃ j_ : Int, (mx ((rd_T59 l0_2 x18_1).f1.f0) a2) = j_ := ⟨_, rfl⟩
   replace H : (if (ji15) < (mn ((rd_T59 l0_2 x18_1).f1.f1) (wrap64 (a2 + ((rd_T53 l0_0 a1).f1)))) then ((slices_Contains_int_int.f k1 ((rd_T53 l0_0 a1).f2) ((rd_T59 l0_2 x18_1).f0)).bind fun t168 => (if t168 = true then (some true) else (rehearse_Task_away.l0 k1 a2 l0_2 (l0_2.length : Int) (wrap64 (x18_1 + 1)) ((rd_T53 l0_0 a1).f0) ((rd_T53 l0_0 a1).f1) ((rd_T53 l0_0 a1).f2)))) else (rehearse_Task_away.l0 k1 a2 l0_2 (l0_2.length : Int) (wrap64 (x18_1 + 1)) ((rd_T53 l0_0 a1).f0) ((rd_T53 l0_0 a1).f1) ((rd_T53 l0_0 a1).f2))) = some r := by first | (rw [hji15] at H; exact H) | (simp only [hji15] at H ⊢; exact H)
   have hji15_ : (if ((rd_T59 l0_2 x18_1).f1.f0) < a2 then a2 else ((rd_T59 l0_2 x18_1).f1.f0)) = ji15 := hji15
   obtain ⟨ji16, hji16⟩ : ∃ j_ : Int, (mn ((rd_T59 l0_2 x18_1).f1.f1) (wrap64 (a2 + ((rd_T53 l0_0 a1).f1)))) = j_ := ⟨_, rfl⟩
   replace H : (if (ji15) < (ji16) then ((slices_Contains_int_int.f k1 ((rd_T53 l0_0 a1).f2) ((rd_T59 l0_2 x18_1).f0)).bind fun t168 => (if t168 = true then (some true) else (rehearse_Task_away.l0 k1 a2 l0_2 (l0_2.length : Int) (wrap64 (x18_1 + 1)) ((rd_T53 l0_0 a1).f0) ((rd_T53 l0_0 a1).f1) ((rd_T53 l0_0 a1).f2)))) else (rehearse_Task_away.l0 k1 a2 l0_2 (l0_2.length : Int) (wrap64 (x18_1 + 1)) ((rd_T53 l0_0 a1).f0) ((rd_T53 l0_0 a1).f1) ((rd_T53 l0_0 a1).f2))) = some r := by first | (rw [hji16] at H; exact H) | (simp only [hji16] at H ⊢; exact H)
   have hji16_ : (if (wrap64 (a2 + ((rd_T53 l0_0 a1).f1))) < ((rd_T59 l0_2 x18_1).f1.f1) then (wrap64 (a2 + ((rd_T53 l0_0 a1).f1))) else ((rd_T59 l0_2 x18_1).f1.f1)) = ji16 := hji16
   by_cases c17 : (ji15) < (ji16)
   rotate_left
   ·
    rw [if_neg c17] at H
    have c17b0 := decide_eq_false c17
    clear c17
    have H' := Aside0.mk H
    clear H
    have p166 : 0 ≤ (x18_1 : Int) := of_decide_eq_true (by assumption)
    have q166 : x18_1 < (l0_2.length : Int) := of_decide_eq_true (by assumption)
    obtain ⟨ad166, e166, hx166_0, hx166_1, hx166_2⟩ := at_T59 HR0_2.out x18_1 p166 q166
    cases e166
    replace hx166_0 := mHx HB hx166_0
    replace hx166_1 := mHx HB hx166_1
    replace hx166_2 := mHx HB hx166_2
    replace p166 := eq_true p166
    replace q166 := eq_true q166
    go_wp2_with (first | ((with_reducible refine gate_dst (N := 9) rfl ?_); refine box_event rfl (N := 9) rfl (cs := #[.int .i64 0, .int .i64 0, .int .i64 0]) (t := 59) (by first | (go_simp; done) | (go_simp; rfl)) ?_; intro gb3 hg w32 hbox hb; have BK3 := Aside0.mk hbox; have GW3 := mGw HB hg; have GE3 := GW3; replace HB := mSt HB hb; have NB1_3 := mNe BK1 hg; have NB3_1 := mSy NB1_3; replace BK1 := mBb BK1 hb; have NB2_3 := mNe BK2 hg; have NB3_2 := mSy NB2_3; replace BK2 := mBb BK2 hb; clear hb hbox hg; have hnb33 := NB3_1.out; have hnc33 := NB1_3.out; have hnb34 := NB3_2.out; have hnc34 := NB2_3.out; have hcz35 := blk_cell BK3.out; have hfz35 := blk_frozen BK3.out; have hnb36 := NB2_1.out; have hnc36 := NB1_2.out; have hcz37 := blk_cell BK2.out; have hfz37 := blk_frozen BK2.out))
    go_roundg k1
    case measure => have := HK1.out; omega
    case rel => exact ⟨(wrap64 (x18_1 + 1)), rfl, H', ⟨by have := HK1.out; omega⟩, ⟨by refine blk_far ?_ NB1_3.out _; refine blk_far ?_ NB1_3.out _; refine blk_far ?_ NB1_3.out _; exact BK1.out⟩, ⟨by refine blk_far ?_ NB2_3.out _; refine blk_far ?_ NB2_3.out _; refine blk_far ?_ NB2_3.out _; exact BK2.out⟩, ⟨hO HB⟩⟩
   rw [if_pos c17] at H
   have c17b0 := decide_eq_true c17
   clear c17
   replace H := Option.bind_eq_some_iff.mp H
   obtain ⟨t168, A180, H⟩ := H
   try dsimp only at H
   have A18 := Aside0.mk A180
   clear A180
   by_cases c19 : t168 = true
   ·
    subst c19
    rw [if_pos rfl] at H
    obtain rfl := Option.some.inj H
    have p166 : 0 ≤ (x18_1 : Int) := of_decide_eq_true (by assumption)
    have q166 : x18_1 < (l0_2.length : Int) := of_decide_eq_true (by assumption)
    obtain ⟨ad166, e166, hx166_0, hx166_1, hx166_2⟩ := at_T59 HR0_2.out x18_1 p166 q166
    cases e166
    replace hx166_0 := mHx HB hx166_0
    replace hx166_1 := mHx HB hx166_1
    replace hx166_2 := mHx HB hx166_2
    replace p166 := eq_true p166
    replace q166 := eq_true q166
    go_wp2_with (first | ((with_reducible refine gate_dst (N := 9) rfl ?_); refine box_event rfl (N := 9) rfl (cs := #[.int .i64 0, .int .i64 0, .int .i64 0]) (t := 59) (by first | (go_simp; done) | (go_simp; rfl)) ?_; intro gb3 hg w20 hbox hb; have BK3 := Aside0.mk hbox; have GW3 := Aside0.mk ((by rw [hg]; exact (below_size (hO HB)) : w.heap.size ≤ gb3)); have GE3 := GW3; replace HB := mSx HB hb; have NB1_3 := mNe BK1 hg; have NB3_1 := mSy NB1_3; replace BK1 := mBb BK1 hb; have NB2_3 := mNe BK2 hg; have NB3_2 := mSy NB2_3; replace BK2 := mBb BK2 hb; clear hb hbox hg; have hnb21 := NB3_1.out; have hnc21 := NB1_3.out; have hnb22 := NB3_2.out; have hnc22 := NB2_3.out; have hcz23 := blk_cell BK3.out; have hfz23 := blk_frozen BK3.out; have hnb24 := NB2_1.out; have hnc24 := NB1_2.out; have hcz25 := blk_cell BK2.out; have hfz25 := blk_frozen BK2.out) | (go_at_call 46; (with_reducible refine (slices_Contains_int_int.calls k1 _ _ ((rd_T53 l0_0 a1).f2) ((rd_T59 l0_2 x18_1).f0) true _ (Kd.C_below HR164_2.out (hO HB)) HC164_2.out A18.out).mono ?_); rintro e w' ⟨rfl, ⟨nd, rfl⟩⟩))
    go_ret
    exact ⟨by first | rfl | (simp [errW_none, errW_some] <;> rfl) | (simp only [← hji15, ← hji16]; first | rfl | (simp [errW_none, errW_some] <;> rfl)) | (simp [*, errW_none, errW_some] <;> rfl), hO HB⟩
   replace c19 := Bool.eq_false_iff.mpr c19
   subst c19
   rw [if_neg (show ¬ (false = true) by decide)] at H
   have H' := Aside0.mk H
   clear H
   have p166 : 0 ≤ (x18_1 : Int) := of_decide_eq_true (by assumption)
   have q166 : x18_1 < (l0_2.length : Int) := of_decide_eq_true (by assumption)
   obtain ⟨ad166, e166, hx166_0, hx166_1, hx166_2⟩ := at_T59 HR0_2.out x18_1 p166 q166
   cases e166
   replace hx166_0 := mHx HB hx166_0
   replace hx166_1 := mHx HB hx166_1
   replace hx166_2 := mHx HB hx166_2
   replace p166 := eq_true p166
   replace q166 := eq_true q166
   go_wp2_with (first | ((with_reducible refine gate_dst (N := 9) rfl ?_); refine box_event rfl (N := 9) rfl (cs := #[.int .i64 0, .int .i64 0, .int .i64 0]) (t := 59) (by first | (go_simp; done) | (go_simp; rfl)) ?_; intro gb3 hg w26 hbox hb; have BK3 := Aside0.mk hbox; have GW3 := Aside0.mk ((by rw [hg]; exact (below_size (hO HB)) : w.heap.size ≤ gb3)); have GE3 := GW3; replace HB := mSx HB hb; have NB1_3 := mNe BK1 hg; have NB3_1 := mSy NB1_3; replace BK1 := mBb BK1 hb; have NB2_3 := mNe BK2 hg; have NB3_2 := mSy NB2_3; replace BK2 := mBb BK2 hb; clear hb hbox hg; have hnb27 := NB3_1.out; have hnc27 := NB1_3.out; have hnb28 := NB3_2.out; have hnc28 := NB2_3.out; have hcz29 := blk_cell BK3.out; have hfz29 := blk_frozen BK3.out; have hnb30 := NB2_1.out; have hnc30 := NB1_2.out; have hcz31 := blk_cell BK2.out; have hfz31 := blk_frozen BK2.out) | (go_at_call 46; (with_reducible refine (slices_Contains_int_int.calls k1 _ _ ((rd_T53 l0_0 a1).f2) ((rd_T59 l0_2 x18_1).f0) false _ (Kd.C_below HR164_2.out (hO HB)) HC164_2.out A18.out).mono ?_); rintro e w' ⟨rfl, ⟨nd, rfl⟩⟩))
   go_roundg k1
   case measure => have := HK1.out; omega
   case rel => exact ⟨(wrap64 (x18_1 + 1)), rfl, H', ⟨by have := HK1.out; omega⟩, ⟨by refine blk_far ?_ NB1_3.out _; refine blk_far ?_ NB1_3.out _; refine blk_far ?_ NB1_3.out _; exact BK1.out⟩, ⟨by refine blk_far ?_ NB2_3.out _; refine blk_far ?_ NB2_3.out _; refine blk_far ?_ NB2_3.out _; exact BK2.out⟩, ⟨hO HB⟩⟩
mutual
def rehearse_Task_session.j0 : Nat → Int → Bool → List (S53) → List (S55) → List (S59) → Int → Int → Int → Int → Option (Int)
 | 0, _, _, _, _, _, _, _, _, _ => none
 | k + 1, x1, x25, x170000, x170001, x170002, x170003, x171000, x171001, x171002 => if x25 = true then (some 41) else (if x171002 < 0 then (rehearse_Task_session.j1 k x1 true x170000 x170001 x170002 x170003 x171000 x171001 x171002) else (if 0 ≤ x1 then (if x1 < (x170000.length : Int) then (rehearse_Task_session.j1 k x1 (decide (x171002 > (wrap64 (x170003 - ((rd_T53 x170000 x1).f1))))) x170000 x170001 x170002 x170003 x171000 x171001 x171002) else (none)) else (none)))
def rehearse_Task_session.j1 : Nat → Int → Bool → List (S53) → List (S55) → List (S59) → Int → Int → Int → Int → Option (Int)
 | 0, _, _, _, _, _, _, _, _, _ => none
 | k + 1, x1, x42, x170000, x170001, x170002, x170003, x171000, x171001, x171002 => if x42 = true then (some 1) else ((rehearse_Task_away.f k x170000 x170001 x170002 x170003 x1 x171002).bind fun t173 => (if t173 = true then (some 42) else (some 0)))
end
def rehearse_Task_session.f (k : Nat) (l0_0 : List (S53)) (l0_1 : List (S55)) (l0_2 : List (S59)) (a0_3 : Int) (a1 : Int) (a2_0 : Int) (a2_1 : Int) (a2_2 : Int) : Option (Int) := if a2_1 < 0 then (rehearse_Task_session.j0 k a1 true l0_0 l0_1 l0_2 a0_3 a2_0 a2_1 a2_2) else (if a2_1 ≥ (l0_1.length : Int) then (rehearse_Task_session.j0 k a1 true l0_0 l0_1 l0_2 a0_3 a2_0 a2_1 a2_2) else ((rehearse_Task_fits.f l0_0 l0_1 l0_2 a0_3 a1 a2_1).bind fun t171 => (rehearse_Task_session.j0 k a1 (!t171) l0_0 l0_1 l0_2 a0_3 a2_0 a2_1 a2_2)))
set_option maxHeartbeats 8000000 in
set_option maxRecDepth 100000 in
theorem rehearse_Task_session.calls (k : Nat) (A0_0 : Option Addr) (c0_0 : Nat) (l0_0 : List (S53)) (A0_1 : Option Addr) (c0_1 : Nat) (l0_1 : List (S55)) (A0_2 : Option Addr) (c0_2 : Nat) (l0_2 : List (S59)) (a0_3 : Int) (a1 : Int) (a2_0 : Int) (a2_1 : Int) (a2_2 : Int) (r : Int) (w : World) (hr0_0 : Kd.C k53 w A0_0 l0_0.length l0_0) (hc0_0 : l0_0.length ≤ c0_0) (hr0_1 : Kd.C k55 w A0_1 l0_1.length l0_1) (hc0_1 : l0_1.length ≤ c0_1) (hr0_2 : Kd.C k59 w A0_2 l0_2.length l0_2) (hc0_2 : l0_2.length ≤ c0_2) (h : rehearse_Task_session.f k l0_0 l0_1 l0_2 a0_3 a1 a2_0 a2_1 a2_2 = some r) :
  Calls Try.prog 34 #[.agg #[.slice A0_0 l0_0.length c0_0, .slice A0_1 l0_1.length c0_1, .slice A0_2 l0_2.length c0_2, .int .i64 a0_3], .int .i64 a1, .agg #[.int .i64 a2_0, .int .i64 a2_1, .int .i64 a2_2]] w fun e w' => e = .returned (.int .i64 r) ∧ Below w.heap.size w w' := by
 have hu30 := Try.underlying30
 have hu48 := Try.underlying48
 have HR0_0 := Aside0.mk hr0_0
 have HC0_0 := Aside0.mk hc0_0
 clear hr0_0 hc0_0
 have HR0_1 := Aside0.mk hr0_1
 have HC0_1 := Aside0.mk hc0_1
 clear hr0_1 hc0_1
 have HR0_2 := Aside0.mk hr0_2
 have HC0_2 := Aside0.mk hc0_2
 clear hr0_2 hc0_2
 have HB := Aside0.mk (Below.refl w.heap.size w)
 have H := h
 unfold rehearse_Task_session.f at H
 clear h
 have HC4 := Aside0.mk H
 clear H
 go_enter Try.func34, Try.ntmps34
 go_upto_region 1 with (first | ((with_reducible refine gate_dst (N := 3) rfl ?_); (try (refine gate_guard (by rfl) ?_; dsimp only)); refine box_event rfl (N := 3) rfl (cs := #[.slice A0_0 l0_0.length c0_0, .slice A0_1 l0_1.length c0_1, .slice A0_2 l0_2.length c0_2, .int .i64 a0_3]) (t := 30) (by first | (go_simp; done) | (go_simp; rfl)) ?_; intro gb1 hg w5 hbox hb; have BK1 := Aside0.mk hbox; have GW1 := mGw HB hg; have GE1 := GW1; replace HB := mSt HB hb; clear hb hbox hg) | ((with_reducible refine gate_dst (N := 5) rfl ?_); (try (refine gate_guard (by rfl) ?_; dsimp only)); refine box_event rfl (N := 5) rfl (cs := #[.int .i64 a2_0, .int .i64 a2_1, .int .i64 a2_2]) (t := 48) (by first | (go_simp; done) | (go_simp; rfl)) ?_; intro gb2 hg w6 hbox hb; have BK2 := Aside0.mk hbox; have GW2 := mGw HB hg; have GE2 := GW2; replace HB := mSt HB hb; have NB1_2 := mNe BK1 hg; have NB2_1 := mSy NB1_2; replace BK1 := mBb BK1 hb; clear hb hbox hg))
 skip
 (try simp only [Act.put, List.setIfInBounds_toArray, List.set_cons_zero, List.set_cons_succ])
 go_cut [25] (fun v25 wc => ∃ (kq : Nat) (x25_3 : Bool), v25 = .bool x25_3 ∧ Aside0 (rehearse_Task_session.j0 kq a1 x25_3 l0_0 l0_1 l0_2 a0_3 a2_0 a2_1 a2_2 = some r) ∧ Aside0 (kq ≤ k) ∧ Aside0 (wc.heap[gb1]? = some (.cells #[(.slice A0_0 l0_0.length c0_0), (.slice A0_1 l0_1.length c0_1), (.slice A0_2 l0_2.length c0_2), .int .i64 a0_3] 30 (0, 0))) ∧ Aside0 (wc.heap[gb2]? = some (.cells #[.int .i64 a2_0, .int .i64 a2_1, .int .i64 a2_2] 48 (0, 0))) ∧ Aside0 (Below w.heap.size w wc))
 case first =>
  have H := HC4.out
  clear HC4
  by_cases c7 : a2_1 < 0
  ·
   rw [if_pos c7] at H
   have c7b0 := decide_eq_true c7
   clear c7
   (first | rw [c7b0] | (simp only [i64_w, i32_w]; rw [c7b0]) | skip)
   have H' := Aside0.mk H
   clear H
   have hnb8 := NB2_1.out
   have hnc8 := NB1_2.out
   have hcz9 := blk_cell BK2.out; have hfz9 := blk_frozen BK2.out
   go_wp2
   repeat (go_quiet (fail); try go_wp2)
   go_meet
   case rel => exact ⟨_, (true), rfl, H', ⟨by first | omega | exact Nat.le_refl _⟩, ⟨BK1.out⟩, ⟨BK2.out⟩, ⟨HB.out⟩⟩
  rw [if_neg c7] at H
  have c7b0 := decide_eq_false c7
  clear c7
  (first | rw [c7b0] | (simp only [i64_w, i32_w]; rw [c7b0]) | skip)
  by_cases c10 : a2_1 ≥ (l0_1.length : Int)
  ·
   rw [if_pos c10] at H
   have c10b0 := decide_eq_true c10
   clear c10
   have H' := Aside0.mk H
   clear H
   have hnb11 := NB2_1.out
   have hnc11 := NB1_2.out
   have hcz12 := blk_cell BK2.out; have hfz12 := blk_frozen BK2.out; have hcz13 := blk_cell BK1.out; have hfz13 := blk_frozen BK1.out
   go_wp2
   repeat (go_quiet (fail); try go_wp2)
   go_meet
   case rel => exact ⟨_, (true), rfl, H', ⟨by first | omega | exact Nat.le_refl _⟩, ⟨BK1.out⟩, ⟨BK2.out⟩, ⟨HB.out⟩⟩
  rw [if_neg c10] at H
  have c10b0 := decide_eq_false c10
  clear c10
  replace H := Option.bind_eq_some_iff.mp H
  obtain ⟨t171, A140, H⟩ := H
  try dsimp only at H
  have A14 := Aside0.mk A140
  clear A140
  have H' := Aside0.mk H
  clear H
  have hnb15 := NB2_1.out
  have hnc15 := NB1_2.out
  have hcz16 := blk_cell BK2.out; have hfz16 := blk_frozen BK2.out; have hcz17 := blk_cell BK1.out; have hfz17 := blk_frozen BK1.out
  go_wp2_with (first | (go_at_call 48; (with_reducible refine (rehearse_Task_fits.calls _ _ l0_0 _ _ l0_1 _ _ l0_2 a0_3 a1 a2_1 t171 _ (Kd.C_below HR0_0.out HB.out) HC0_0.out (Kd.C_below HR0_1.out HB.out) HC0_1.out (Kd.C_below HR0_2.out HB.out) HC0_2.out A14.out).mono ?_); rintro e w18 ⟨rfl, hb⟩; replace BK1 := mBb BK1 hb; replace BK2 := mBb BK2 hb; replace HB := mSt HB hb; (try clear hb)))
  repeat (go_quiet (first | (go_at_call 48; (with_reducible refine (rehearse_Task_fits.calls _ _ l0_0 _ _ l0_1 _ _ l0_2 a0_3 a1 a2_1 t171 _ (Kd.C_below HR0_0.out HB.out) HC0_0.out (Kd.C_below HR0_1.out HB.out) HC0_1.out (Kd.C_below HR0_2.out HB.out) HC0_2.out A14.out).mono ?_); rintro e w18 ⟨rfl, hb⟩; replace BK1 := mBb BK1 hb; replace BK2 := mBb BK2 hb; replace HB := mSt HB hb; (try clear hb))); try go_wp2_with (first | (go_at_call 48; (with_reducible refine (rehearse_Task_fits.calls _ _ l0_0 _ _ l0_1 _ _ l0_2 a0_3 a1 a2_1 t171 _ (Kd.C_below HR0_0.out HB.out) HC0_0.out (Kd.C_below HR0_1.out HB.out) HC0_1.out (Kd.C_below HR0_2.out HB.out) HC0_2.out A14.out).mono ?_); rintro e w18 ⟨rfl, hb⟩; replace BK1 := mBb BK1 hb; replace BK2 := mBb BK2 hb; replace HB := mSt HB hb; (try clear hb))))
  go_meet
  case rel => exact ⟨_, (!t171), rfl, H', ⟨by first | omega | exact Nat.le_refl _⟩, ⟨BK1.out⟩, ⟨BK2.out⟩, ⟨HB.out⟩⟩
 case rest =>
  clear HC4; try clear c1; try clear p2; try clear c3; try clear c7; try clear c7b0; try clear c8; try clear c10; try clear c10b0; try clear c11; try clear c15; try clear hcz12_0; try clear hcz12_1; try clear hcz12_2; try clear hcz13_0; try clear hcz13_1; try clear hcz13_2; try clear hcz13_3; try clear hcz16_0; try clear hcz16_1; try clear hcz16_2; try clear hcz17_0; try clear hcz17_1; try clear hcz17_2; try clear hcz17_3; try clear hcz9_0; try clear hcz9_1; try clear hcz9_2; try clear hfz12_0; try clear hfz12_1; try clear hfz12_2; try clear hfz13_0; try clear hfz13_1; try clear hfz13_2; try clear hfz13_3; try clear hfz16_0; try clear hfz16_1; try clear hfz16_2; try clear hfz17_0; try clear hfz17_1; try clear hfz17_2; try clear hfz17_3; try clear hfz9_0; try clear hfz9_1; try clear hfz9_2
  obtain ⟨kq, x25_3, rfl, HA, HJ3, BK1, BK2, HB⟩ := hcut
  cases kq with
  | zero => exact absurd HA.out (by simp [rehearse_Task_session.j0])
  | succ kj3 =>
   have H := HA.out
   clear HA
   simp only [rehearse_Task_session.j0] at H
   by_cases c19 : x25_3 = true
   ·
    subst c19
    rw [if_pos rfl] at H
    obtain rfl := Option.some.inj H
    go_wp2
    repeat (go_quiet (fail); try go_wp2)
    go_ret
    exact ⟨rfl, HB.out⟩
   replace c19 := Bool.eq_false_iff.mpr c19
   subst c19
   rw [if_neg (show ¬ (false = true) by decide)] at H
   have HC20 := Aside0.mk H
   clear H
   go_upto_region 3 with (fail)
   repeat (go_quiet (fail); go_upto_region 3 with (fail))
   go_cut [42] (fun v42 wc => ∃ (kq : Nat) (x42_19 : Bool), v42 = .bool x42_19 ∧ Aside0 (rehearse_Task_session.j1 kq a1 x42_19 l0_0 l0_1 l0_2 a0_3 a2_0 a2_1 a2_2 = some r) ∧ Aside0 (kq ≤ kj3) ∧ Aside0 (wc.heap[gb1]? = some (.cells #[(.slice A0_0 l0_0.length c0_0), (.slice A0_1 l0_1.length c0_1), (.slice A0_2 l0_2.length c0_2), .int .i64 a0_3] 30 (0, 0))) ∧ Aside0 (wc.heap[gb2]? = some (.cells #[.int .i64 a2_0, .int .i64 a2_1, .int .i64 a2_2] 48 (0, 0))) ∧ Aside0 (Below w.heap.size w wc))
   case first =>
    have H := HC20.out
    clear HC20
    by_cases c21 : a2_2 < 0
    ·
     rw [if_pos c21] at H
     have c21b0 := decide_eq_true c21
     clear c21
     (first | rw [c21b0] | (simp only [i64_w, i32_w]; rw [c21b0]) | skip)
     have H' := Aside0.mk H
     clear H
     have hnb22 := NB2_1.out
     have hnc22 := NB1_2.out
     have hcz23 := blk_cell BK2.out; have hfz23 := blk_frozen BK2.out
     go_wp2
     repeat (go_quiet (fail); try go_wp2)
     go_meet
     case rel => exact ⟨_, (true), rfl, H', ⟨by have := HJ3.out; first | omega | exact Nat.le_refl _⟩, ⟨BK1.out⟩, ⟨BK2.out⟩, ⟨hO HB⟩⟩
    rw [if_neg c21] at H
    have c21b0 := decide_eq_false c21
    clear c21
    (first | rw [c21b0] | (simp only [i64_w, i32_w]; rw [c21b0]) | skip)
    obtain ⟨c24, H⟩ : (0 ≤ a1) ∧ _ := mIf H
    have c24b0 := decide_eq_true c24
    clear c24
    obtain ⟨c25, H⟩ : (a1 < (l0_0.length : Int)) ∧ _ := mIf H
    have c25b0 := decide_eq_true c25
    clear c25
    have H' := Aside0.mk H
    clear H
    have hnb26 := NB2_1.out
    have hnc26 := NB1_2.out
    have hcz27 := blk_cell BK2.out; have hfz27 := blk_frozen BK2.out; have hcz28 := blk_cell BK1.out; have hfz28 := blk_frozen BK1.out
    have p172 : 0 ≤ (a1 : Int) := of_decide_eq_true (by assumption)
    have q172 : a1 < (l0_0.length : Int) := of_decide_eq_true (by assumption)
    obtain ⟨ad172, A172_2, c172_2, e172, hx172_0, hx172_1, hx172_2, hl172_2, hi172_2⟩ := at_T53 HR0_0.out a1 p172 q172
    cases e172
    replace hx172_0 := mHx HB hx172_0
    replace hx172_1 := mHx HB hx172_1
    replace hx172_2 := mHx HB hx172_2
    have HR172_2 := Aside0.mk hi172_2
    have HC172_2 := Aside0.mk hl172_2
    clear hi172_2 hl172_2
    replace p172 := eq_true p172
    replace q172 := eq_true q172
    go_wp2
    repeat (go_quiet (fail); try go_wp2)
    go_meet
    case rel => exact ⟨_, (decide (a2_2 > (wrap64 (a0_3 - ((rd_T53 l0_0 a1).f1))))), rfl, H', ⟨by have := HJ3.out; first | omega | exact Nat.le_refl _⟩, ⟨BK1.out⟩, ⟨BK2.out⟩, ⟨hO HB⟩⟩
   case rest =>
    clear HC20; try clear c1; try clear p1; try clear q1; try clear hx1; try clear c2; try clear p2; try clear c3; try clear p6; try clear c7; try clear c7b0; try clear c8; try clear c10; try clear c10b0; try clear c11; try clear c15; try clear c17; try clear p17; try clear q17; try clear hx17; try clear c19; try clear c21; try clear c21b0; try clear c22; try clear c24; try clear c24b0; try clear c25; try clear c25b0; try clear c26; try clear hcz12_0; try clear hcz12_1; try clear hcz12_2; try clear hcz13_0; try clear hcz13_1; try clear hcz13_2; try clear hcz13_3; try clear hcz16_0; try clear hcz16_1; try clear hcz16_2; try clear hcz17_0; try clear hcz17_1; try clear hcz17_2; try clear hcz17_3; try clear hcz23_0; try clear hcz23_1; try clear hcz23_2; try clear hcz27_0; try clear hcz27_1; try clear hcz27_2; try clear hcz28_0; try clear hcz28_1; try clear hcz28_2; try clear hcz28_3; try clear hcz9_0; try clear hcz9_1; try clear hcz9_2; try clear hfz12_0; try clear hfz12_1; try clear hfz12_2; try clear hfz13_0; try clear hfz13_1; try clear hfz13_2; try clear hfz13_3; try clear hfz16_0; try clear hfz16_1; try clear hfz16_2; try clear hfz17_0; try clear hfz17_1; try clear hfz17_2; try clear hfz17_3; try clear hfz23_0; try clear hfz23_1; try clear hfz23_2; try clear hfz27_0; try clear hfz27_1; try clear hfz27_2; try clear hfz28_0; try clear hfz28_1; try clear hfz28_2; try clear hfz28_3; try clear hfz9_0; try clear hfz9_1; try clear hfz9_2; try clear hx172_0; try clear hx172_1; try clear hx172_2; try clear p172; try clear q172
    obtain ⟨kq, x42_19, rfl, HA, HJ19, BK1, BK2, HB⟩ := hcut
    cases kq with
    | zero => exact absurd HA.out (by simp [rehearse_Task_session.j1])
    | succ kj19 =>
     have H := HA.out
     clear HA
     simp only [rehearse_Task_session.j1] at H
     by_cases c29 : x42_19 = true
     ·
      subst c29
      rw [if_pos rfl] at H
      obtain rfl := Option.some.inj H
      go_wp2
      repeat (go_quiet (fail); try go_wp2)
      go_ret
      exact ⟨rfl, HB.out⟩
     replace c29 := Bool.eq_false_iff.mpr c29
     subst c29
     rw [if_neg (show ¬ (false = true) by decide)] at H
     replace H := Option.bind_eq_some_iff.mp H
     obtain ⟨t173, A300, H⟩ := H
     try dsimp only at H
     have A30 := Aside0.mk A300
     clear A300
     by_cases c31 : t173 = true
     ·
      subst c31
      rw [if_pos rfl] at H
      obtain rfl := Option.some.inj H
      have hnb32 := NB1_2.out
      have hnc32 := NB2_1.out
      have hcz33 := blk_cell BK1.out; have hfz33 := blk_frozen BK1.out; have hcz34 := blk_cell BK2.out; have hfz34 := blk_frozen BK2.out
      go_wp2_with (first | (go_at_call 49; (with_reducible refine (rehearse_Task_away.calls kj19 _ _ l0_0 _ _ l0_1 _ _ l0_2 a0_3 a1 a2_2 true _ (Kd.C_below HR0_0.out HB.out) HC0_0.out (Kd.C_below HR0_1.out HB.out) HC0_1.out (Kd.C_below HR0_2.out HB.out) HC0_2.out A30.out).mono ?_); rintro e w35 ⟨rfl, hb⟩; replace BK1 := mBb BK1 hb; replace BK2 := mBb BK2 hb; replace HB := mSt HB hb; (try clear hb)))
      repeat (go_quiet (first | (go_at_call 49; (with_reducible refine (rehearse_Task_away.calls kj19 _ _ l0_0 _ _ l0_1 _ _ l0_2 a0_3 a1 a2_2 true _ (Kd.C_below HR0_0.out HB.out) HC0_0.out (Kd.C_below HR0_1.out HB.out) HC0_1.out (Kd.C_below HR0_2.out HB.out) HC0_2.out A30.out).mono ?_); rintro e w35 ⟨rfl, hb⟩; replace BK1 := mBb BK1 hb; replace BK2 := mBb BK2 hb; replace HB := mSt HB hb; (try clear hb))); try go_wp2_with (first | (go_at_call 49; (with_reducible refine (rehearse_Task_away.calls kj19 _ _ l0_0 _ _ l0_1 _ _ l0_2 a0_3 a1 a2_2 true _ (Kd.C_below HR0_0.out HB.out) HC0_0.out (Kd.C_below HR0_1.out HB.out) HC0_1.out (Kd.C_below HR0_2.out HB.out) HC0_2.out A30.out).mono ?_); rintro e w35 ⟨rfl, hb⟩; replace BK1 := mBb BK1 hb; replace BK2 := mBb BK2 hb; replace HB := mSt HB hb; (try clear hb))))
      go_ret
      exact ⟨rfl, HB.out⟩
     replace c31 := Bool.eq_false_iff.mpr c31
     subst c31
     rw [if_neg (show ¬ (false = true) by decide)] at H
     obtain rfl := Option.some.inj H
     have hnb36 := NB1_2.out
     have hnc36 := NB2_1.out
     have hcz37 := blk_cell BK1.out; have hfz37 := blk_frozen BK1.out; have hcz38 := blk_cell BK2.out; have hfz38 := blk_frozen BK2.out
     go_wp2_with (first | (go_at_call 49; (with_reducible refine (rehearse_Task_away.calls kj19 _ _ l0_0 _ _ l0_1 _ _ l0_2 a0_3 a1 a2_2 false _ (Kd.C_below HR0_0.out HB.out) HC0_0.out (Kd.C_below HR0_1.out HB.out) HC0_1.out (Kd.C_below HR0_2.out HB.out) HC0_2.out A30.out).mono ?_); rintro e w39 ⟨rfl, hb⟩; replace BK1 := mBb BK1 hb; replace BK2 := mBb BK2 hb; replace HB := mSt HB hb; (try clear hb)))
     repeat (go_quiet (first | (go_at_call 49; (with_reducible refine (rehearse_Task_away.calls kj19 _ _ l0_0 _ _ l0_1 _ _ l0_2 a0_3 a1 a2_2 false _ (Kd.C_below HR0_0.out HB.out) HC0_0.out (Kd.C_below HR0_1.out HB.out) HC0_1.out (Kd.C_below HR0_2.out HB.out) HC0_2.out A30.out).mono ?_); rintro e w39 ⟨rfl, hb⟩; replace BK1 := mBb BK1 hb; replace BK2 := mBb BK2 hb; replace HB := mSt HB hb; (try clear hb))); try go_wp2_with (first | (go_at_call 49; (with_reducible refine (rehearse_Task_away.calls kj19 _ _ l0_0 _ _ l0_1 _ _ l0_2 a0_3 a1 a2_2 false _ (Kd.C_below HR0_0.out HB.out) HC0_0.out (Kd.C_below HR0_1.out HB.out) HC0_1.out (Kd.C_below HR0_2.out HB.out) HC0_2.out A30.out).mono ?_); rintro e w39 ⟨rfl, hb⟩; replace BK1 := mBb BK1 hb; replace BK2 := mBb BK2 hb; replace HB := mSt HB hb; (try clear hb))))
     go_ret
     exact ⟨rfl, HB.out⟩
end Go.Proofs.Ytjppjppapdflmaa.PAll
namespace Go.Proofs.Ytjppjppapdflmaa.PAll
open Go.RowKit Go.Proofs.YtjppjppapdflmaaW.PrintWords Go.Proofs.YtjppjppapdflmaaW.PrintLast Go.Proofs.YtjppjppapdflmaaW.PrintMore
attribute [local go_sem] max2_int min2_int max_two min_two max_three min_three max_four min_four   -- for this text's walks alone
set_option linter.unusedVariables false
set_option linter.unusedSimpArgs false
attribute [local go_sem high] eqA48
def dancestudiolaw50_away.f (a0 : Int) (a1 : Int) (a2 : Int) : Option (Int × Int × Int) := some (a0, a1, a2)
set_option maxHeartbeats 8000000 in
set_option maxRecDepth 100000 in
theorem dancestudiolaw50_away.calls (a0 : Int) (a1 : Int) (a2 : Int) (r1 : Int) (r2 : Int) (r3 : Int) (w : World) (h : dancestudiolaw50_away.f a0 a1 a2 = some (r1, r2, r3)) :
  Calls Try.prog 32 #[.int .i64 a0, .int .i64 a1, .int .i64 a2] w fun e w' => e = .returned (.agg #[.int .i64 r1, .int .i64 r2, .int .i64 r3]) ∧ Below w.heap.size w w' := by
 have hu59 := Try.underlying59
 have hu57 := Try.underlying57
 have HB := Aside0.mk (Below.refl w.heap.size w)
 have H := h
 unfold dancestudiolaw50_away.f at H
 clear h
 simp only [Option.some.injEq, Prod.mk.injEq] at H
 obtain ⟨rfl, rfl, rfl⟩ := H
 go_enter Try.func32, Try.ntmps32
 go_wp2_with (first | ((with_reducible refine gate_dst (N := 6) rfl ?_); refine box_event rfl (N := 6) rfl (cs := #[.int .i64 0, .int .i64 0, .int .i64 0]) (t := 59) (by first | (go_simp; done) | (go_simp; rfl)) ?_; intro gb1 hg w4 hbox hb; have BK1 := Aside0.mk hbox; have GW1 := mGw HB hg; have GE1 := GW1; replace HB := mSt HB hb; clear hb hbox hg; have hcz5 := blk_cell BK1.out; have hfz5 := blk_frozen BK1.out))
 refine bodyPost_ret (results_cell_row rfl _ _ gb1 59 #[.int .i64 a0, .int .i64 a1, .int .i64 a2] (0, 0) _ rfl (by refine blk_put (cs := #[.int .i64 a0, .int .i64 a1, .int .i64 0]) ?_ 2 _ rfl; refine blk_put (cs := #[.int .i64 a0, .int .i64 0, .int .i64 0]) ?_ 1 _ rfl; refine blk_put (cs := #[.int .i64 0, .int .i64 0, .int .i64 0]) ?_ 0 _ rfl; exact BK1.out) Try.underlying59 rfl (by kernel_rfl)) rfl ?_
 exact ⟨rfl, hO HB⟩
def dancestudioref50_Same.l0 : Nat → List (S48) → List (S48) → Int → Option (Bool)
 | 0, _, _, _ => none
 | k + 1, x0, x1, x5 => if x5 < (x0.length : Int) then (if 0 ≤ x5 then (if x5 < (x1.length : Int) then (if (!(((rd_T48 x0 x5).f0) == ((rd_T48 x1 x5).f0)) || (!(((rd_T48 x0 x5).f1) == ((rd_T48 x1 x5).f1)) || (!(((rd_T48 x0 x5).f2) == ((rd_T48 x1 x5).f2))))) = true then (some false) else (dancestudioref50_Same.l0 k x0 x1 (wrap64 (x5 + 1)))) else (none)) else (none)) else (some true)
def dancestudioref50_Same.f (k : Nat) (l0 : List (S48)) (l1 : List (S48)) : Option (Bool) := if (l0.length : Int) = (l1.length : Int) then (dancestudioref50_Same.l0 k l0 l1 0) else (some false)
set_option maxHeartbeats 8000000 in
set_option maxRecDepth 100000 in
theorem dancestudioref50_Same.calls (k : Nat) (A0 : Option Addr) (c0 : Nat) (l0 : List (S48)) (A1 : Option Addr) (c1 : Nat) (l1 : List (S48)) (r : Bool) (w : World) (hr0 : Kd.C k48 w A0 l0.length l0) (hc0 : l0.length ≤ c0) (hr1 : Kd.C k48 w A1 l1.length l1) (hc1 : l1.length ≤ c1) (h : dancestudioref50_Same.f k l0 l1 = some r) :
  Calls Try.prog 23 #[.slice A0 l0.length c0, .slice A1 l1.length c1] w fun e w' => e = .returned (.bool r) ∧ Drawn0 w w' := by
 have hu48 := Try.underlying48
 have HR0 := Aside0.mk hr0
 have HC0 := Aside0.mk hc0
 clear hr0 hc0
 have HR1 := Aside0.mk hr1
 have HC1 := Aside0.mk hc1
 clear hr1 hc1
 have H := h
 unfold dancestudioref50_Same.f at H
 clear h
 by_cases c3 : (l0.length : Int) = (l1.length : Int)
 rotate_left
 ·
  rw [if_neg c3] at H
  have c3b0 := beq_eq_false_iff_ne.mpr c3
  have c3b1 := bne_iff_ne.mpr c3
  have c3b2 : (l0.length == l1.length) = false := by first | simpa using c3 | (simp at c3 ⊢; omega)
  obtain rfl := Option.some.inj H
  go_enter Try.func23, Try.ntmps23
  go_wp2
  repeat (go_quiet (fail); try go_wp2)
  go_ret
  exact ⟨by first | rfl | (simp; done) | (simp [*]; done), by repeat (first | exact Drawn0.refl _ | apply Drawn0.step)⟩
 rw [if_pos c3] at H
 have c3b0 := beq_iff_eq.mpr c3
 have c3b1 := bne_eq_false_iff_eq.mpr c3
 have c3b2 : (l0.length == l1.length) = true := by first | simpa using c3 | (simp at c3 ⊢; omega)
 clear c3
 have H' := Aside0.mk H
 clear H
 go_enter Try.func23, Try.ntmps23
 go_wp2
 repeat (go_quiet (fail); try go_wp2)
 go_loopg [5] k (fun kq v5 w' => ∃ (x5_1 : Int), v5 = .int .i64 x5_1 ∧ Aside0 (dancestudioref50_Same.l0 kq l0 l1 x5_1 = some r) ∧ Aside0 (kq ≤ k) ∧ Drawn0 w w')
 case atStart => exact ⟨(0), rfl, H', ⟨Nat.le_refl _⟩, by repeat (first | exact Drawn0.refl _ | apply Drawn0.step)⟩
 case round =>
  clear H'
  clear c3b0 c3b1 c3b2
  obtain ⟨x5_1, rfl, HA, HK1, ⟨m1, rfl⟩⟩ := hrel
  cases gk with
  | zero => exact absurd HA.out (by simp [dancestudioref50_Same.l0])
  | succ k1 =>
   have H := HA.out
   clear HA
   simp only [dancestudioref50_Same.l0] at H
   by_cases c4 : x5_1 < (l0.length : Int)
   rotate_left
   ·
    rw [if_neg c4] at H
    have c4b0 := decide_eq_false c4
    clear c4
    obtain rfl := Option.some.inj H
    go_wp2
    repeat (go_quiet (fail); try go_wp2)
    go_ret
    exact ⟨by first | rfl | (simp; done) | (simp [*]; done), by repeat (first | exact Drawn0.refl _ | apply Drawn0.step)⟩
   rw [if_pos c4] at H
   have c4b0 := decide_eq_true c4
   clear c4
   obtain ⟨c5, H⟩ : (0 ≤ x5_1) ∧ _ := mIf H
   have c5b0 := decide_eq_true c5
   clear c5
   obtain ⟨c6, H⟩ : (x5_1 < (l1.length : Int)) ∧ _ := mIf H
   have c6b0 := decide_eq_true c6
   clear c6
   by_cases c7 : (!(((rd_T48 l0 x5_1).f0) == ((rd_T48 l1 x5_1).f0)) || (!(((rd_T48 l0 x5_1).f1) == ((rd_T48 l1 x5_1).f1)) || (!(((rd_T48 l0 x5_1).f2) == ((rd_T48 l1 x5_1).f2))))) = true
   ·
    rw [if_pos c7] at H
    have c7b0 : (!(((rd_T48 l0 x5_1).f0) == ((rd_T48 l1 x5_1).f0)) || (!(((rd_T48 l0 x5_1).f1) == ((rd_T48 l1 x5_1).f1)) || (!(((rd_T48 l0 x5_1).f2) == ((rd_T48 l1 x5_1).f2))))) = true := c7
    clear c7
    obtain rfl := Option.some.inj H
    have p317 : 0 ≤ (x5_1 : Int) := of_decide_eq_true (by assumption)
    have q317 : x5_1 < (l0.length : Int) := of_decide_eq_true (by assumption)
    obtain ⟨ad317, e317, hx317_0, hx317_1, hx317_2⟩ := at_T48 HR0.out x5_1 p317 q317
    cases e317
    replace p317 := eq_true p317
    replace q317 := eq_true q317
    have p318 : 0 ≤ (x5_1 : Int) := of_decide_eq_true (by assumption)
    have q318 : x5_1 < (l1.length : Int) := of_decide_eq_true (by assumption)
    obtain ⟨ad318, e318, hx318_0, hx318_1, hx318_2⟩ := at_T48 HR1.out x5_1 p318 q318
    cases e318
    replace p318 := eq_true p318
    replace q318 := eq_true q318
    go_wp2
    repeat (go_quiet (fail); try go_wp2)
    go_ret
    exact ⟨by first | rfl | (simp; done) | (simp [*]; done), by repeat (first | exact Drawn0.refl _ | apply Drawn0.step)⟩
   rw [if_neg c7] at H
   have c7b0 : (!(((rd_T48 l0 x5_1).f0) == ((rd_T48 l1 x5_1).f0)) || (!(((rd_T48 l0 x5_1).f1) == ((rd_T48 l1 x5_1).f1)) || (!(((rd_T48 l0 x5_1).f2) == ((rd_T48 l1 x5_1).f2))))) = false := by simpa using c7
   clear c7
   have H' := Aside0.mk H
   clear H
   have p317 : 0 ≤ (x5_1 : Int) := of_decide_eq_true (by assumption)
   have q317 : x5_1 < (l0.length : Int) := of_decide_eq_true (by assumption)
   obtain ⟨ad317, e317, hx317_0, hx317_1, hx317_2⟩ := at_T48 HR0.out x5_1 p317 q317
   cases e317
   replace p317 := eq_true p317
   replace q317 := eq_true q317
   have p318 : 0 ≤ (x5_1 : Int) := of_decide_eq_true (by assumption)
   have q318 : x5_1 < (l1.length : Int) := of_decide_eq_true (by assumption)
   obtain ⟨ad318, e318, hx318_0, hx318_1, hx318_2⟩ := at_T48 HR1.out x5_1 p318 q318
   cases e318
   replace p318 := eq_true p318
   replace q318 := eq_true q318
   go_wp2
   repeat (go_quiet (fail); try go_wp2)
   go_roundg k1
   case measure => have := HK1.out; omega
   case rel => exact ⟨(wrap64 (x5_1 + 1)), rfl, H', ⟨by have := HK1.out; omega⟩, by repeat (first | exact Drawn0.refl _ | apply Drawn0.step)⟩
end Go.Proofs.Ytjppjppapdflmaa.PAll
namespace Go.Proofs.Ytjppjppapdflmaa.PAll
open Go.RowKit Go.Proofs.YtjppjppapdflmaaW.PrintWords Go.Proofs.YtjppjppapdflmaaW.PrintLast Go.Proofs.YtjppjppapdflmaaW.PrintMore
attribute [local go_sem] max2_int min2_int max_two min_two max_three min_three max_four min_four   -- for this text's walks alone
set_option linter.unusedVariables false
set_option linter.unusedSimpArgs false
def dancestudiolaw50_small.f (l0_0 : List (S53)) (l0_1 : List (S55)) (l0_2 : List (S59)) (a0_3 : Int) : Option (Bool) := if (l0_0.length : Int) ≤ 4 then (if a0_3 ≤ 6 then (some (decide ((l0_2.length : Int) ≤ 20))) else (some false)) else (some false)
set_option maxHeartbeats 8000000 in
set_option maxRecDepth 100000 in
theorem dancestudiolaw50_small.calls (A0_0 : Option Addr) (c0_0 : Nat) (l0_0 : List (S53)) (A0_1 : Option Addr) (c0_1 : Nat) (l0_1 : List (S55)) (A0_2 : Option Addr) (c0_2 : Nat) (l0_2 : List (S59)) (a0_3 : Int) (r : Bool) (w : World) (hr0_0 : Kd.C k53 w A0_0 l0_0.length l0_0) (hc0_0 : l0_0.length ≤ c0_0) (hr0_1 : Kd.C k55 w A0_1 l0_1.length l0_1) (hc0_1 : l0_1.length ≤ c0_1) (hr0_2 : Kd.C k59 w A0_2 l0_2.length l0_2) (hc0_2 : l0_2.length ≤ c0_2) (h : dancestudiolaw50_small.f l0_0 l0_1 l0_2 a0_3 = some r) :
  Calls Try.prog 20 #[.agg #[.slice A0_0 l0_0.length c0_0, .slice A0_1 l0_1.length c0_1, .slice A0_2 l0_2.length c0_2, .int .i64 a0_3]] w fun e w' => e = .returned (.bool r) ∧ Below w.heap.size w w' := by
 have hu30 := Try.underlying26
 have HR0_0 := Aside0.mk hr0_0
 have HC0_0 := Aside0.mk hc0_0
 clear hr0_0 hc0_0
 have HR0_1 := Aside0.mk hr0_1
 have HC0_1 := Aside0.mk hc0_1
 clear hr0_1 hc0_1
 have HR0_2 := Aside0.mk hr0_2
 have HC0_2 := Aside0.mk hc0_2
 clear hr0_2 hc0_2
 have HB := Aside0.mk (Below.refl w.heap.size w)
 have H := h
 unfold dancestudiolaw50_small.f at H
 clear h
 by_cases c2 : (l0_0.length : Int) ≤ 4
 rotate_left
 ·
  rw [if_neg c2] at H
  have c2b0 := decide_eq_false c2
  have c2b1 : decide (l0_0.length ≤ 4) = false := decide_eq_false (by omega)
  clear c2
  obtain rfl := Option.some.inj H
  go_enter Try.func20, Try.ntmps20
  go_wp2_with (first | ((with_reducible refine gate_dst (N := 1) rfl ?_); (try (refine gate_guard (by rfl) ?_; dsimp only)); refine box_event rfl (N := 1) rfl (cs := #[.slice A0_0 l0_0.length c0_0, .slice A0_1 l0_1.length c0_1, .slice A0_2 l0_2.length c0_2, .int .i64 a0_3]) (t := 26) (by first | (go_simp; done) | (go_simp; rfl)) ?_; intro gb1 hg w8 hbox hb; have BK1 := Aside0.mk hbox; have GW1 := mGw HB hg; have GE1 := GW1; replace HB := mSt HB hb; clear hb hbox hg; have hcz9 := blk_cell BK1.out; have hfz9 := blk_frozen BK1.out))
  go_ret
  exact ⟨rfl, HB.out⟩
 rw [if_pos c2] at H
 have c2b0 := decide_eq_true c2
 have c2b1 : decide (l0_0.length ≤ 4) = true := decide_eq_true (by omega)
 clear c2
 by_cases c3 : a0_3 ≤ 6
 rotate_left
 ·
  rw [if_neg c3] at H
  have c3b0 := decide_eq_false c3
  clear c3
  obtain rfl := Option.some.inj H
  go_enter Try.func20, Try.ntmps20
  go_wp2_with (first | ((with_reducible refine gate_dst (N := 1) rfl ?_); (try (refine gate_guard (by rfl) ?_; dsimp only)); refine box_event rfl (N := 1) rfl (cs := #[.slice A0_0 l0_0.length c0_0, .slice A0_1 l0_1.length c0_1, .slice A0_2 l0_2.length c0_2, .int .i64 a0_3]) (t := 26) (by first | (go_simp; done) | (go_simp; rfl)) ?_; intro gb1 hg w6 hbox hb; have BK1 := Aside0.mk hbox; have GW1 := mGw HB hg; have GE1 := GW1; replace HB := mSt HB hb; clear hb hbox hg; have hcz7 := blk_cell BK1.out; have hfz7 := blk_frozen BK1.out))
  go_ret
  exact ⟨rfl, HB.out⟩
 rw [if_pos c3] at H
 have c3b0 := decide_eq_true c3
 clear c3
 obtain rfl := Option.some.inj H
 go_enter Try.func20, Try.ntmps20
 go_wp2_with (first | ((with_reducible refine gate_dst (N := 1) rfl ?_); (try (refine gate_guard (by rfl) ?_; dsimp only)); refine box_event rfl (N := 1) rfl (cs := #[.slice A0_0 l0_0.length c0_0, .slice A0_1 l0_1.length c0_1, .slice A0_2 l0_2.length c0_2, .int .i64 a0_3]) (t := 26) (by first | (go_simp; done) | (go_simp; rfl)) ?_; intro gb1 hg w4 hbox hb; have BK1 := Aside0.mk hbox; have GW1 := mGw HB hg; have GE1 := GW1; replace HB := mSt HB hb; clear hb hbox hg; have hcz5 := blk_cell BK1.out; have hfz5 := blk_frozen BK1.out))
 go_ret
 exact ⟨rfl, HB.out⟩
end Go.Proofs.Ytjppjppapdflmaa.PAll
