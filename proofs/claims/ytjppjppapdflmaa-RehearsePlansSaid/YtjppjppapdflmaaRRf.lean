/- Texts of the proof, laid end to end. -/
import Derived.Test.YtjppjppapdflmaaRMi
import Derived.Test.YtjppjppapdflmaaPAllx0
namespace Go.Proofs.Ytjppjppapdflmaa.PAll
open Go.RowKit Go.Proofs.YtjppjppapdflmaaW.PrintWords Go.Proofs.YtjppjppapdflmaaW.PrintLast Go.Proofs.YtjppjppapdflmaaW.PrintMore
attribute [local go_sem] max2_int min2_int max_two min_two max_three min_three max_four min_four   -- for this text's walks alone
set_option linter.unusedVariables false
set_option linter.unusedSimpArgs false
def dancestudioref05_letter.f (a0 : Int) : Option (Bool) := if a0 ≥ 97 then (some (decide (a0 ≤ 122))) else (some false)
set_option maxHeartbeats 8000000 in
set_option maxRecDepth 100000 in
theorem dancestudioref05_letter.calls (a0 : Int) (r : Bool) (w : World) (h : dancestudioref05_letter.f a0 = some r) :
  Calls Try.prog 64 #[.int .u8 a0] w fun e w' => e = .returned (.bool r) ∧ Drawn0 w w' := by
 have H := h
 unfold dancestudioref05_letter.f at H
 clear h
 by_cases c2 : a0 ≥ 97
 rotate_left
 ·
  rw [if_neg c2] at H
  have c2b0 := decide_eq_false c2
  clear c2
  obtain rfl := Option.some.inj H
  go_enter Try.func64, Try.ntmps64
  go_wp2
  go_ret
  exact ⟨by first | rfl | (simp; done) | (simp [*]; done), by repeat (first | exact Drawn0.refl _ | apply Drawn0.step)⟩
 rw [if_pos c2] at H
 have c2b0 := decide_eq_true c2
 clear c2
 obtain rfl := Option.some.inj H
 go_enter Try.func64, Try.ntmps64
 go_wp2
 go_ret
 exact ⟨by first | rfl | (simp; done) | (simp [*]; done), by repeat (first | exact Drawn0.refl _ | apply Drawn0.step)⟩
def dancestudioref05_digit.f (a0 : Int) : Option (Bool) := if a0 ≥ 48 then (some (decide (a0 ≤ 57))) else (some false)
set_option maxHeartbeats 8000000 in
set_option maxRecDepth 100000 in
theorem dancestudioref05_digit.calls (a0 : Int) (r : Bool) (w : World) (h : dancestudioref05_digit.f a0 = some r) :
  Calls Try.prog 65 #[.int .u8 a0] w fun e w' => e = .returned (.bool r) ∧ Drawn0 w w' := by
 have H := h
 unfold dancestudioref05_digit.f at H
 clear h
 by_cases c2 : a0 ≥ 48
 rotate_left
 ·
  rw [if_neg c2] at H
  have c2b0 := decide_eq_false c2
  clear c2
  obtain rfl := Option.some.inj H
  go_enter Try.func65, Try.ntmps65
  go_wp2
  go_ret
  exact ⟨by first | rfl | (simp; done) | (simp [*]; done), by repeat (first | exact Drawn0.refl _ | apply Drawn0.step)⟩
 rw [if_pos c2] at H
 have c2b0 := decide_eq_true c2
 clear c2
 obtain rfl := Option.some.inj H
 go_enter Try.func65, Try.ntmps65
 go_wp2
 go_ret
 exact ⟨by first | rfl | (simp; done) | (simp [*]; done), by repeat (first | exact Drawn0.refl _ | apply Drawn0.step)⟩
mutual
def dancestudioref05_Valid.j0 : Nat → ByteArray → Bool → Option (Bool)
 | 0, _, _ => none
 | k + 1, x0, x18 => if x18 = true then (some false) else (dancestudioref05_Valid.l0 k x0 1)
def dancestudioref05_Valid.l0 : Nat → ByteArray → Int → Option (Bool)
 | 0, _, _ => none
 | k + 1, x0, x3 => if x3 < (x0.size : Int) then (if 0 ≤ x3 then ((dancestudioref05_letter.f (bt x0 x3)).bind fun t138 => (if t138 = true then (dancestudioref05_Valid.j2 k x0 x3 (bt x0 x3) false) else ((dancestudioref05_digit.f (bt x0 x3)).bind fun t139 => (if t139 = true then (dancestudioref05_Valid.j2 k x0 x3 (bt x0 x3) false) else (dancestudioref05_Valid.j2 k x0 x3 (bt x0 x3) ((bt x0 x3) != 45)))))) else (none)) else (some true)
def dancestudioref05_Valid.j2 : Nat → ByteArray → Int → Int → Bool → Option (Bool)
 | 0, _, _, _, _ => none
 | k + 1, x0, x3, x4, x39 => if x39 = true then (some false) else (if x4 = 45 then (if x3 = (wrap64 ((x0.size : Int) - 1)) then (some false) else (if 0 ≤ (wrap64 (x3 + 1)) then (if (wrap64 (x3 + 1)) < (x0.size : Int) then (if (bt x0 (wrap64 (x3 + 1))) = 45 then (some false) else (dancestudioref05_Valid.l0 k x0 (wrap64 (x3 + 1)))) else (none)) else (none))) else (dancestudioref05_Valid.l0 k x0 (wrap64 (x3 + 1))))
end
def dancestudioref05_Valid.f (k : Nat) (a0 : ByteArray) : Option (Bool) := if (a0.size : Int) < 1 then (dancestudioref05_Valid.j0 k a0 true) else (if (a0.size : Int) > 24 then (dancestudioref05_Valid.j0 k a0 true) else (if 0 < (a0.size : Int) then ((dancestudioref05_letter.f (bt a0 0)).bind fun t137 => (dancestudioref05_Valid.j0 k a0 (!t137))) else (none)))
set_option maxHeartbeats 8000000 in
set_option maxRecDepth 100000 in
theorem dancestudioref05_Valid.calls (k : Nat) (a0 : ByteArray) (r : Bool) (w : World) (h : dancestudioref05_Valid.f k a0 = some r) :
  Calls Try.prog 47 #[.string a0] w fun e w' => e = .returned (.bool r) ∧ Drawn0 w w' := by
 have H := h
 unfold dancestudioref05_Valid.f at H
 clear h
 have HC2 := Aside0.mk H
 clear H
 go_enter Try.func47, Try.ntmps47
 go_upto_region 1 with (fail)
 go_cut [18] (fun v18 wc => ∃ (kq : Nat) (x18_1 : Bool), v18 = .bool x18_1 ∧ Aside0 (dancestudioref05_Valid.j0 kq a0 x18_1 = some r) ∧ Aside0 (kq ≤ k) ∧ Drawn0 w wc)
 case first =>
  have H := HC2.out
  clear HC2
  by_cases c3 : (a0.size : Int) < 1
  ·
   rw [if_pos c3] at H
   have c3b0 := decide_eq_true c3
   have c3b1 : decide (a0.size < 1) = true := decide_eq_true (by omega)
   clear c3
   (first | rw [c3b0] | (simp only [i64_w, i32_w]; rw [c3b0]) | skip)
   have H' := Aside0.mk H
   clear H
   go_wp2
   go_meet
   case rel => exact ⟨_, (true), rfl, H', ⟨by first | omega | exact Nat.le_refl _⟩, by repeat (first | exact Drawn0.refl _ | apply Drawn0.step)⟩
  rw [if_neg c3] at H
  have c3b0 := decide_eq_false c3
  have c3b1 : decide (a0.size < 1) = false := decide_eq_false (by omega)
  clear c3
  (first | rw [c3b0] | (simp only [i64_w, i32_w]; rw [c3b0]) | skip)
  by_cases c4 : (a0.size : Int) > 24
  ·
   rw [if_pos c4] at H
   have c4b0 := decide_eq_true c4
   have c4b1 : decide (24 < a0.size) = true := decide_eq_true (by omega)
   clear c4
   have H' := Aside0.mk H
   clear H
   go_wp2
   go_meet
   case rel => exact ⟨_, (true), rfl, H', ⟨by first | omega | exact Nat.le_refl _⟩, by repeat (first | exact Drawn0.refl _ | apply Drawn0.step)⟩
  rw [if_neg c4] at H
  have c4b0 := decide_eq_false c4
  have c4b1 : decide (24 < a0.size) = false := decide_eq_false (by omega)
  clear c4
  obtain ⟨c5, H⟩ : (0 < (a0.size : Int)) ∧ _ := mIf H
  have c5b0 := decide_eq_true c5
  have c5b1 : decide (0 < a0.size) = true := decide_eq_true (by omega)
  clear c5
  replace H := Option.bind_eq_some_iff.mp H
  obtain ⟨t137, A70, H⟩ := H
  try dsimp only at H
  have A7 := Aside0.mk A70
  clear A70
  have H' := Aside0.mk H
  clear H
  have p6 : 0 ≤ (0 : Int) := (by omega)
  have q6 : 0 < a0.size := (by have : (0 : Int) < (a0.size : Int) := of_decide_eq_true (by assumption); omega)
  have hx6 : ∀ h : 0 < a0.size, ((a0[0]'h).toNat : Int) = bt a0 0 := bt_at a0 0
  clear p6
  have qi6 : (0 < (a0.size : Int)) = True := eq_true (of_decide_eq_true (by assumption))
  replace q6 := eq_true q6
  go_wp2_with (first | (go_at_call 64; (with_reducible refine (dancestudioref05_letter.calls (bt a0 0) t137 _ A7.out).mono ?_); rintro e w' ⟨rfl, ⟨nd, rfl⟩⟩))
  go_meet
  case rel => exact ⟨_, (!t137), rfl, H', ⟨by first | omega | exact Nat.le_refl _⟩, by repeat (first | exact Drawn0.refl _ | apply Drawn0.step)⟩
 case rest =>
  clear HC2; try clear p2; try clear c3; try clear c3b0; try clear c3b1; try clear c4; try clear c4b0; try clear c4b1; try clear c5; try clear c5b0; try clear c5b1; try clear p6; try clear q6; try clear hx6; try clear qi6
  obtain ⟨kq, x18_1, rfl, HA, HJ1, ⟨mc1, rfl⟩⟩ := hcut
  cases kq with
  | zero => exact absurd HA.out (by simp [dancestudioref05_Valid.j0])
  | succ kj1 =>
   have H := HA.out
   clear HA
   simp only [dancestudioref05_Valid.j0] at H
   by_cases c8 : x18_1 = true
   ·
    subst c8
    rw [if_pos rfl] at H
    obtain rfl := Option.some.inj H
    go_wp2
    go_ret
    exact ⟨by first | rfl | (simp; done) | (simp [*]; done), by repeat (first | exact Drawn0.refl _ | apply Drawn0.step)⟩
   replace c8 := Bool.eq_false_iff.mpr c8
   subst c8
   rw [if_neg (show ¬ (false = true) by decide)] at H
   have H' := Aside0.mk H
   clear H
   go_wp2
   go_loopg [3] kj1 (fun kq v3 w' => ∃ (x3_2 : Int), v3 = .int .i64 x3_2 ∧ Aside0 (dancestudioref05_Valid.l0 kq a0 x3_2 = some r) ∧ Aside0 (kq ≤ kj1) ∧ Drawn0 w w')
   case atStart => exact ⟨(1), rfl, H', ⟨Nat.le_refl _⟩, by repeat (first | exact Drawn0.refl _ | apply Drawn0.step)⟩
   case round =>
    clear H'
    try clear c1; try clear p2; try clear c3; try clear c3b0; try clear c3b1; try clear c4; try clear c4b0; try clear c4b1; try clear c5; try clear c5b0; try clear c5b1; try clear p6; try clear q6; try clear hx6; try clear qi6; try clear c8
    obtain ⟨x3_2, rfl, HA, HK2, ⟨m2, rfl⟩⟩ := hrel
    cases gk with
    | zero => exact absurd HA.out (by simp [dancestudioref05_Valid.l0])
    | succ k2 =>
     have H := HA.out
     clear HA
     simp only [dancestudioref05_Valid.l0] at H
     by_cases c9 : x3_2 < (a0.size : Int)
     rotate_left
     ·
      rw [if_neg c9] at H
      have c9b0 := decide_eq_false c9
      clear c9
      obtain rfl := Option.some.inj H
      go_wp2
      go_ret
      exact ⟨by first | rfl | (simp; done) | (simp [*]; done), by repeat (first | exact Drawn0.refl _ | apply Drawn0.step)⟩
     rw [if_pos c9] at H
     have c9b0 := decide_eq_true c9
     clear c9
     obtain ⟨c10, H⟩ : (0 ≤ x3_2) ∧ _ := mIf H
     have c10b0 := decide_eq_true c10
     clear c10
     have HC12 := Aside0.mk H
     clear H
     have p11 : 0 ≤ (x3_2 : Int) := of_decide_eq_true (by assumption)
     have q11 : x3_2 < (a0.size : Int) := of_decide_eq_true (by assumption)
     have hx11 := bt_at a0 x3_2
     replace p11 := eq_true p11
     replace q11 := eq_true q11
     go_upto_region 7 with (fail)
     go_cut [39] (fun v39 wc => ∃ (kq : Nat) (x39_11 : Bool), v39 = .bool x39_11 ∧ Aside0 (dancestudioref05_Valid.j2 kq a0 x3_2 (bt a0 x3_2) x39_11 = some r) ∧ Aside0 (kq ≤ k2) ∧ Drawn0 w wc)
     case first =>
      have H := HC12.out
      clear HC12
      replace H := Option.bind_eq_some_iff.mp H
      obtain ⟨t138, A130, H⟩ := H
      try dsimp only at H
      have A13 := Aside0.mk A130
      clear A130
      by_cases c14 : t138 = true
      ·
       subst c14
       rw [if_pos rfl] at H
       have H' := Aside0.mk H
       clear H
       go_wp2_with (first | ((with_reducible refine gate_callee (f := 64) rfl ?_); refine goesL_ (some 29) rfl rfl Try.func64 (by kernel_rfl) rfl #[.int .u8 (bt a0 x3_2)] rfl (mA1 rfl) ?_; (with_reducible refine (dancestudioref05_letter.calls (bt a0 x3_2) true _ A13.out).mono ?_); rintro e w' ⟨rfl, ⟨nd, rfl⟩⟩; refine ⟨_, rfl, ?_⟩))
       go_meet
       case rel => exact ⟨_, (false), rfl, H', ⟨by have := HJ1.out; have := HK2.out; first | omega | exact Nat.le_refl _⟩, by repeat (first | exact Drawn0.refl _ | apply Drawn0.step)⟩
      replace c14 := Bool.eq_false_iff.mpr c14
      subst c14
      rw [if_neg (show ¬ (false = true) by decide)] at H
      replace H := Option.bind_eq_some_iff.mp H
      obtain ⟨t139, A150, H⟩ := H
      try dsimp only at H
      have A15 := Aside0.mk A150
      clear A150
      by_cases c16 : t139 = true
      ·
       subst c16
       rw [if_pos rfl] at H
       have H' := Aside0.mk H
       clear H
       go_wp2_with (first | ((with_reducible refine gate_callee (f := 64) rfl ?_); refine goesL_ (some 29) rfl rfl Try.func64 (by kernel_rfl) rfl #[.int .u8 (bt a0 x3_2)] rfl (mA1 rfl) ?_; (with_reducible refine (dancestudioref05_letter.calls (bt a0 x3_2) false _ A13.out).mono ?_); rintro e w' ⟨rfl, ⟨nd, rfl⟩⟩; refine ⟨_, rfl, ?_⟩) | (go_at_call 65; (with_reducible refine (dancestudioref05_digit.calls (bt a0 x3_2) true _ A15.out).mono ?_); rintro e w' ⟨rfl, ⟨nd, rfl⟩⟩))
       go_meet
       case rel => exact ⟨_, (false), rfl, H', ⟨by have := HJ1.out; have := HK2.out; first | omega | exact Nat.le_refl _⟩, by repeat (first | exact Drawn0.refl _ | apply Drawn0.step)⟩
      replace c16 := Bool.eq_false_iff.mpr c16
      subst c16
      rw [if_neg (show ¬ (false = true) by decide)] at H
      have H' := Aside0.mk H
      clear H
      go_wp2_with (first | ((with_reducible refine gate_callee (f := 64) rfl ?_); refine goesL_ (some 29) rfl rfl Try.func64 (by kernel_rfl) rfl #[.int .u8 (bt a0 x3_2)] rfl (mA1 rfl) ?_; (with_reducible refine (dancestudioref05_letter.calls (bt a0 x3_2) false _ A13.out).mono ?_); rintro e w' ⟨rfl, ⟨nd, rfl⟩⟩; refine ⟨_, rfl, ?_⟩) | (go_at_call 65; (with_reducible refine (dancestudioref05_digit.calls (bt a0 x3_2) false _ A15.out).mono ?_); rintro e w' ⟨rfl, ⟨nd, rfl⟩⟩))
      go_meet
      case rel => exact ⟨_, (((bt a0 x3_2) != 45)), rfl, H', ⟨by have := HJ1.out; have := HK2.out; first | omega | exact Nat.le_refl _⟩, by repeat (first | exact Drawn0.refl _ | apply Drawn0.step)⟩
     case rest =>
      clear HC12; try clear c1; try clear p1; try clear q1; try clear hx1; try clear p2; try clear c3; try clear c3b0; try clear c3b1; try clear c4; try clear c4b0; try clear c4b1; try clear c5; try clear c5b0; try clear c5b1; try clear c6; try clear p6; try clear q6; try clear hx6; try clear qi6; try clear c8; try clear c9; try clear c9b0; try clear c10; try clear c10b0; try clear p11; try clear q11; try clear hx11; try clear c14; try clear c16
      obtain ⟨kq, x39_11, rfl, HA, HJ11, ⟨mc11, rfl⟩⟩ := hcut
      cases kq with
      | zero => exact absurd HA.out (by simp [dancestudioref05_Valid.j2])
      | succ kj11 =>
       have H := HA.out
       clear HA
       simp only [dancestudioref05_Valid.j2] at H
       by_cases c17 : x39_11 = true
       ·
        subst c17
        rw [if_pos rfl] at H
        obtain rfl := Option.some.inj H
        go_wp2
        go_ret
        exact ⟨by first | rfl | (simp; done) | (simp [*]; done), by repeat (first | exact Drawn0.refl _ | apply Drawn0.step)⟩
       replace c17 := Bool.eq_false_iff.mpr c17
       subst c17
       rw [if_neg (show ¬ (false = true) by decide)] at H
       by_cases c18 : (bt a0 x3_2) = 45
       rotate_left
       ·
        rw [if_neg c18] at H
        have c18b0 := beq_eq_false_iff_ne.mpr c18
        have c18b1 := bne_iff_ne.mpr c18
        have H' := Aside0.mk H
        clear H
        go_wp2
        go_roundg kj11
        case measure => have := HJ1.out; have := HK2.out; have := HJ11.out; omega
        case rel => exact ⟨(wrap64 (x3_2 + 1)), rfl, H', ⟨by have := HJ1.out; have := HK2.out; have := HJ11.out; omega⟩, by repeat (first | exact Drawn0.refl _ | apply Drawn0.step)⟩
       rw [if_pos c18] at H
       have c18b0 := beq_iff_eq.mpr c18
       have c18b1 := bne_eq_false_iff_eq.mpr c18
       clear c18
       by_cases c19 : x3_2 = (wrap64 ((a0.size : Int) - 1))
       ·
        rw [if_pos c19] at H
        have c19b0 := beq_iff_eq.mpr c19
        have c19b1 := bne_eq_false_iff_eq.mpr c19
        clear c19
        obtain rfl := Option.some.inj H
        go_wp2
        go_ret
        exact ⟨by first | rfl | (simp; done) | (simp [*]; done), by repeat (first | exact Drawn0.refl _ | apply Drawn0.step)⟩
       rw [if_neg c19] at H
       have c19b0 := beq_eq_false_iff_ne.mpr c19
       have c19b1 := bne_iff_ne.mpr c19
       obtain ⟨ji20, hji20⟩ : ∃ j_ : Int, (wrap64 (x3_2 + 1)) = j_ := ⟨_, rfl⟩
       replace H : (if 0 ≤ (ji20) then (if (ji20) < (a0.size : Int) then (if (bt a0 (ji20)) = 45 then (some false) else (dancestudioref05_Valid.l0 kj11 a0 ji20)) else (none)) else (none)) = some r := by first | (rw [hji20] at H; exact H) | (simp only [hji20] at H ⊢; exact H)
       have hji20w : (IntKind.i64.wrap (x3_2 + 1)) = ji20 := (i64_w _).trans hji20
       obtain ⟨c21, H⟩ : (0 ≤ (ji20)) ∧ _ := mIf H
       have c21b0 := decide_eq_true c21
       clear c21
       obtain ⟨c22, H⟩ : ((ji20) < (a0.size : Int)) ∧ _ := mIf H
       have c22b0 := decide_eq_true c22
       clear c22
       by_cases c24 : (bt a0 (ji20)) = 45
       ·
        rw [if_pos c24] at H
        have c24b0 := beq_iff_eq.mpr c24
        have c24b1 := bne_eq_false_iff_eq.mpr c24
        clear c24
        obtain rfl := Option.some.inj H
        have p23 : 0 ≤ ((ji20) : Int) := of_decide_eq_true (by assumption)
        have q23 : (ji20) < (a0.size : Int) := of_decide_eq_true (by assumption)
        have hx23 := bt_at a0 (ji20)
        replace p23 := eq_true p23
        replace q23 := eq_true q23
        go_wp2
        go_ret
        exact ⟨by first | rfl | (simp; done) | (simp only [← hji20] <;> (first | rfl | simp)) | (simp [*]; done), by repeat (first | exact Drawn0.refl _ | apply Drawn0.step)⟩
       rw [if_neg c24] at H
       have c24b0 := beq_eq_false_iff_ne.mpr c24
       have c24b1 := bne_iff_ne.mpr c24
       have H' := Aside0.mk H
       clear H
       have p23 : 0 ≤ ((ji20) : Int) := of_decide_eq_true (by assumption)
       have q23 : (ji20) < (a0.size : Int) := of_decide_eq_true (by assumption)
       have hx23 := bt_at a0 (ji20)
       replace p23 := eq_true p23
       replace q23 := eq_true q23
       go_wp2
       go_roundg kj11
       case measure => have := HJ1.out; have := HK2.out; have := HJ11.out; omega
       case rel => exact ⟨(ji20), (by first | rfl | (simp; done) | (simp only [← hji20] <;> (first | rfl | simp)) | (simp [*]; done)), H', ⟨by have := HJ1.out; have := HK2.out; have := HJ11.out; omega⟩, by repeat (first | exact Drawn0.refl _ | apply Drawn0.step)⟩
def dancestudioref50_has.l0 : Nat → List Int → Int → Int → Option (Bool)
 | 0, _, _, _ => none
 | k + 1, x0, x1, x5 => if x5 < (x0.length : Int) then (if 0 ≤ x5 then (if (rd x0 x5) = x1 then (some true) else (dancestudioref50_has.l0 k x0 x1 (wrap64 (x5 + 1)))) else (none)) else (some false)
def dancestudioref50_has.f (k : Nat) (l0 : List Int) (a1 : Int) : Option (Bool) := dancestudioref50_has.l0 k l0 a1 0
set_option maxHeartbeats 8000000 in
set_option maxRecDepth 100000 in
theorem dancestudioref50_has.calls (k : Nat) (A0 : Option Addr) (c0 : Nat) (l0 : List Int) (a1 : Int) (r : Bool) (w : World) (hr0 : Kd.C (Kd.int .i64) w A0 l0.length l0) (hc0 : l0.length ≤ c0) (h : dancestudioref50_has.f k l0 a1 = some r) :
  Calls Try.prog 27 #[.slice A0 l0.length c0, .int .i64 a1] w fun e w' => e = .returned (.bool r) ∧ Drawn0 w w' := by
 have HR0 := Aside0.mk hr0
 have HC0 := Aside0.mk hc0
 clear hr0 hc0
 have H := h
 unfold dancestudioref50_has.f at H
 clear h
 have H' := Aside0.mk H
 clear H
 go_enter Try.func27, Try.ntmps27
 go_wp2
 go_loopg [5] k (fun kq v5 w' => ∃ (x5_1 : Int), v5 = .int .i64 x5_1 ∧ Aside0 (dancestudioref50_has.l0 kq l0 a1 x5_1 = some r) ∧ Aside0 (kq ≤ k) ∧ Drawn0 w w')
 case atStart => exact ⟨(0), rfl, H', ⟨Nat.le_refl _⟩, by repeat (first | exact Drawn0.refl _ | apply Drawn0.step)⟩
 case round =>
  clear H'
  skip
  obtain ⟨x5_1, rfl, HA, HK1, ⟨m1, rfl⟩⟩ := hrel
  cases gk with
  | zero => exact absurd HA.out (by simp [dancestudioref50_has.l0])
  | succ k1 =>
   have H := HA.out
   clear HA
   simp only [dancestudioref50_has.l0] at H
   by_cases c3 : x5_1 < (l0.length : Int)
   rotate_left
   ·
    rw [if_neg c3] at H
    have c3b0 := decide_eq_false c3
    clear c3
    obtain rfl := Option.some.inj H
    go_wp2
    go_ret
    exact ⟨by first | rfl | (simp; done) | (simp [*]; done), by repeat (first | exact Drawn0.refl _ | apply Drawn0.step)⟩
   rw [if_pos c3] at H
   have c3b0 := decide_eq_true c3
   clear c3
   obtain ⟨c4, H⟩ : (0 ≤ x5_1) ∧ _ := mIf H
   have c4b0 := decide_eq_true c4
   clear c4
   by_cases c5 : (rd l0 x5_1) = a1
   ·
    rw [if_pos c5] at H
    have c5b0 := beq_iff_eq.mpr c5
    have c5b1 := bne_eq_false_iff_eq.mpr c5
    clear c5
    obtain rfl := Option.some.inj H
    have p136 : 0 ≤ (x5_1 : Int) := of_decide_eq_true (by assumption)
    have q136 : x5_1 < (l0.length : Int) := of_decide_eq_true (by assumption)
    obtain ⟨ad136, e136, hx136_0⟩ := Kd.at_int HR0.out x5_1 p136 q136
    cases e136
    replace p136 := eq_true p136
    replace q136 := eq_true q136
    go_wp2
    go_ret
    exact ⟨by first | rfl | (simp; done) | (simp [*]; done), by repeat (first | exact Drawn0.refl _ | apply Drawn0.step)⟩
   rw [if_neg c5] at H
   have c5b0 := beq_eq_false_iff_ne.mpr c5
   have c5b1 := bne_iff_ne.mpr c5
   have H' := Aside0.mk H
   clear H
   have p136 : 0 ≤ (x5_1 : Int) := of_decide_eq_true (by assumption)
   have q136 : x5_1 < (l0.length : Int) := of_decide_eq_true (by assumption)
   obtain ⟨ad136, e136, hx136_0⟩ := Kd.at_int HR0.out x5_1 p136 q136
   cases e136
   replace p136 := eq_true p136
   replace q136 := eq_true q136
   go_wp2
   go_roundg k1
   case measure => have := HK1.out; omega
   case rel => exact ⟨(wrap64 (x5_1 + 1)), rfl, H', ⟨by have := HK1.out; omega⟩, by repeat (first | exact Drawn0.refl _ | apply Drawn0.step)⟩
mutual
def dancestudioref50_scene.j0 : Nat → Bool → ByteArray → Int → List Int → Option (Int)
 | 0, _, _, _, _ => none
 | k + 1, x19, x141000, x141001, x141002 => if x19 = true then (some 1) else (if (x141002.length : Int) = 0 then (some 4) else (dancestudioref50_scene.l0 k 0 x141000 x141001 x141002))
def dancestudioref50_scene.l0 : Nat → Int → ByteArray → Int → List Int → Option (Int)
 | 0, _, _, _, _ => none
 | k + 1, x5, x141000, x141001, x141002 => if x5 < (x141002.length : Int) then (if 0 ≤ x5 then (if (rd x141002 x5) < 0 then (some 40) else (if (rd x141002 x5) ≥ 24 then (some 40) else (dancestudioref50_scene.l0 k (wrap64 (x5 + 1)) x141000 x141001 x141002))) else (none)) else (dancestudioref50_scene.l1 k 0 x141000 x141001 x141002)
def dancestudioref50_scene.l1 : Nat → Int → ByteArray → Int → List Int → Option (Int)
 | 0, _, _, _, _ => none
 | k + 1, x6, x141000, x141001, x141002 => if x6 < (x141002.length : Int) then (if 0 ≤ x6 then (if x6 ≤ (x141002.length : Int) then ((dancestudioref50_has.f k (x141002.take (x6 : Int).toNat) (rd x141002 x6)).bind fun t146 => (if t146 = true then (some 7) else (dancestudioref50_scene.l1 k (wrap64 (x6 + 1)) x141000 x141001 x141002))) else (none)) else (none)) else (some 0)
end
def dancestudioref50_scene.f (k : Nat) (a0_0 : ByteArray) (a0_1 : Int) (l0_2 : List Int) (a1 : Int) : Option (Int) := (dancestudioref05_Valid.f k a0_0).bind fun t141 => (if t141 = true then (if a0_1 < 1 then (dancestudioref50_scene.j0 k true a0_0 a0_1 l0_2) else (dancestudioref50_scene.j0 k (decide (a0_1 > a1)) a0_0 a0_1 l0_2)) else (some 8))
set_option maxHeartbeats 8000000 in
set_option maxRecDepth 100000 in
theorem dancestudioref50_scene.calls (k : Nat) (a0_0 : ByteArray) (a0_1 : Int) (A0_2 : Option Addr) (c0_2 : Nat) (l0_2 : List Int) (a1 : Int) (r : Int) (w : World) (hr0_2 : Kd.C (Kd.int .i64) w A0_2 l0_2.length l0_2) (hc0_2 : l0_2.length ≤ c0_2) (h : dancestudioref50_scene.f k a0_0 a0_1 l0_2 a1 = some r) :
  Calls Try.prog 29 #[.agg #[.string a0_0, .int .i64 a0_1, .slice A0_2 l0_2.length c0_2], .int .i64 a1] w fun e w' => e = .returned (.int .i64 r) ∧ Below w.heap.size w w' := by
 have hu53 := Try.underlying53
 have HR0_2 := Aside0.mk hr0_2
 have HC0_2 := Aside0.mk hc0_2
 clear hr0_2 hc0_2
 have HB := Aside0.mk (Below.refl w.heap.size w)
 have H := h
 unfold dancestudioref50_scene.f at H
 clear h
 replace H := Option.bind_eq_some_iff.mp H
 obtain ⟨t141, A30, H⟩ := H
 try dsimp only at H
 have A3 := Aside0.mk A30
 clear A30
 by_cases c4 : t141 = true
 rotate_left
 ·
  replace c4 := Bool.eq_false_iff.mpr c4
  subst c4
  rw [if_neg (show ¬ (false = true) by decide)] at H
  obtain rfl := Option.some.inj H
  go_enter Try.func29, Try.ntmps29
  go_wp2_with (first | ((with_reducible refine gate_dst (N := 2) rfl ?_); refine box_event rfl (N := 2) rfl (cs := #[.string a0_0, .int .i64 a0_1, .slice A0_2 l0_2.length c0_2]) (t := 53) (by first | (go_simp; done) | (go_simp; rfl)) ?_; intro gb1 hg w33 hbox hb; have BK1 := Aside0.mk hbox; have GW1 := mGw HB hg; have GE1 := GW1; replace HB := mSt HB hb; clear hb hbox hg; have hcz34 := blk_cell BK1.out; have hfz34 := blk_frozen BK1.out) | (go_at_call 47; (with_reducible refine (dancestudioref05_Valid.calls k a0_0 false _ A3.out).mono ?_); rintro e w' ⟨rfl, ⟨nd, rfl⟩⟩; (try first | exact ⟨rfl, _, World.drewN_drewN _ _ _⟩ | exact ⟨rfl, _, Eq.trans (World.drewN_drewN _ _ _) (congrArg (World.drewN _) (Nat.add_assoc _ _ _))⟩)))
  repeat (go_quiet (first | (go_at_call 47; (with_reducible refine (dancestudioref05_Valid.calls k a0_0 false _ A3.out).mono ?_); rintro e w' ⟨rfl, ⟨nd, rfl⟩⟩; (try first | exact ⟨rfl, _, World.drewN_drewN _ _ _⟩ | exact ⟨rfl, _, Eq.trans (World.drewN_drewN _ _ _) (congrArg (World.drewN _) (Nat.add_assoc _ _ _))⟩))); try go_wp2_with (first | (go_at_call 47; (with_reducible refine (dancestudioref05_Valid.calls k a0_0 false _ A3.out).mono ?_); rintro e w' ⟨rfl, ⟨nd, rfl⟩⟩; (try first | exact ⟨rfl, _, World.drewN_drewN _ _ _⟩ | exact ⟨rfl, _, Eq.trans (World.drewN_drewN _ _ _) (congrArg (World.drewN _) (Nat.add_assoc _ _ _))⟩))))
  go_ret
  exact ⟨rfl, hO HB⟩
 subst c4
 rw [if_pos rfl] at H
 have HC5 := Aside0.mk H
 clear H
 go_enter Try.func29, Try.ntmps29
 go_upto_region 3 with (first | ((with_reducible refine gate_dst (N := 2) rfl ?_); refine box_event rfl (N := 2) rfl (cs := #[.string a0_0, .int .i64 a0_1, .slice A0_2 l0_2.length c0_2]) (t := 53) (by first | (go_simp; done) | (go_simp; rfl)) ?_; intro gb1 hg w6 hbox hb; have BK1 := Aside0.mk hbox; have GW1 := mGw HB hg; have GE1 := GW1; replace HB := mSt HB hb; clear hb hbox hg; have hcz7 := blk_cell BK1.out; have hfz7 := blk_frozen BK1.out) | (go_at_call 47; (with_reducible refine (dancestudioref05_Valid.calls k a0_0 true _ A3.out).mono ?_); rintro e w' ⟨rfl, ⟨nd, rfl⟩⟩; (try first | exact ⟨rfl, _, World.drewN_drewN _ _ _⟩ | exact ⟨rfl, _, Eq.trans (World.drewN_drewN _ _ _) (congrArg (World.drewN _) (Nat.add_assoc _ _ _))⟩)))
 repeat (go_quiet (first | (go_at_call 47; (with_reducible refine (dancestudioref05_Valid.calls k a0_0 true _ A3.out).mono ?_); rintro e w' ⟨rfl, ⟨nd, rfl⟩⟩; (try first | exact ⟨rfl, _, World.drewN_drewN _ _ _⟩ | exact ⟨rfl, _, Eq.trans (World.drewN_drewN _ _ _) (congrArg (World.drewN _) (Nat.add_assoc _ _ _))⟩))); go_upto_region 3 with (first | (go_at_call 47; (with_reducible refine (dancestudioref05_Valid.calls k a0_0 true _ A3.out).mono ?_); rintro e w' ⟨rfl, ⟨nd, rfl⟩⟩; (try first | exact ⟨rfl, _, World.drewN_drewN _ _ _⟩ | exact ⟨rfl, _, Eq.trans (World.drewN_drewN _ _ _) (congrArg (World.drewN _) (Nat.add_assoc _ _ _))⟩))))
 (try simp only [Act.put, List.setIfInBounds_toArray, List.set_cons_zero, List.set_cons_succ])
 go_cut [19] (fun v19 wc => ∃ (kq : Nat) (x19_4 : Bool), v19 = .bool x19_4 ∧ Aside0 (dancestudioref50_scene.j0 kq x19_4 a0_0 a0_1 l0_2 = some r) ∧ Aside0 (kq ≤ k) ∧ Aside0 (wc.heap[gb1]? = some (.cells #[.string a0_0, .int .i64 a0_1, (.slice A0_2 l0_2.length c0_2)] 53 (0, 0))) ∧ Aside0 (Below w.heap.size w wc))
 case first =>
  have H := HC5.out
  clear HC5
  by_cases c8 : a0_1 < 1
  rotate_left
  ·
   rw [if_neg c8] at H
   have c8b0 := decide_eq_false c8
   clear c8
   (first | rw [c8b0] | (simp only [i64_w, i32_w]; rw [c8b0]) | skip)
   have H' := Aside0.mk H
   clear H
   have hcz10 := blk_cell BK1.out; have hfz10 := blk_frozen BK1.out
   go_wp2
   repeat (go_quiet (fail); try go_wp2)
   go_meet
   case rel => exact ⟨_, (decide (a0_1 > a1)), rfl, H', ⟨by first | omega | exact Nat.le_refl _⟩, ⟨BK1.out⟩, ⟨hO HB⟩⟩
  rw [if_pos c8] at H
  have c8b0 := decide_eq_true c8
  clear c8
  (first | rw [c8b0] | (simp only [i64_w, i32_w]; rw [c8b0]) | skip)
  have H' := Aside0.mk H
  clear H
  have hcz9 := blk_cell BK1.out; have hfz9 := blk_frozen BK1.out
  go_wp2
  repeat (go_quiet (fail); try go_wp2)
  go_meet
  case rel => exact ⟨_, (true), rfl, H', ⟨by first | omega | exact Nat.le_refl _⟩, ⟨BK1.out⟩, ⟨hO HB⟩⟩
 case rest =>
  clear HC5; try clear c2; try clear p2; try clear c4; try clear c8; try clear c8b0; try clear hcz10_0; try clear hcz10_1; try clear hcz10_2; try clear hcz7_0; try clear hcz7_1; try clear hcz7_2; try clear hcz9_0; try clear hcz9_1; try clear hcz9_2; try clear hfz10_0; try clear hfz10_1; try clear hfz10_2; try clear hfz7_0; try clear hfz7_1; try clear hfz7_2; try clear hfz9_0; try clear hfz9_1; try clear hfz9_2
  obtain ⟨kq, x19_4, rfl, HA, HJ4, BK1, HB⟩ := hcut
  cases kq with
  | zero => exact absurd HA.out (by simp [dancestudioref50_scene.j0])
  | succ kj4 =>
   have H := HA.out
   clear HA
   simp only [dancestudioref50_scene.j0] at H
   by_cases c11 : x19_4 = true
   ·
    subst c11
    rw [if_pos rfl] at H
    obtain rfl := Option.some.inj H
    go_wp2
    repeat (go_quiet (fail); try go_wp2)
    go_ret
    exact ⟨rfl, HB.out⟩
   replace c11 := Bool.eq_false_iff.mpr c11
   subst c11
   rw [if_neg (show ¬ (false = true) by decide)] at H
   by_cases c12 : (l0_2.length : Int) = 0
   ·
    rw [if_pos c12] at H
    have c12b0 := beq_iff_eq.mpr c12
    have c12b1 := bne_eq_false_iff_eq.mpr c12
    clear c12
    obtain rfl := Option.some.inj H
    have hcz13 := blk_cell BK1.out; have hfz13 := blk_frozen BK1.out
    go_wp2
    repeat (go_quiet (fail); try go_wp2)
    go_ret
    exact ⟨rfl, HB.out⟩
   rw [if_neg c12] at H
   have c12b0 := beq_eq_false_iff_ne.mpr c12
   have c12b1 := bne_iff_ne.mpr c12
   have c12b2 : ¬ (l0_2 = []) := fun h_ => c12 (by rw [h_]; rfl)
   have H' := Aside0.mk H
   clear H
   have hcz14 := blk_cell BK1.out; have hfz14 := blk_frozen BK1.out
   go_wp2
   repeat (go_quiet (fail); try go_wp2)
   go_loopg [5] kj4 (fun kq v5 w' => ∃ (x5_2 : Int), v5 = .int .i64 x5_2 ∧ Aside0 (dancestudioref50_scene.l0 kq x5_2 a0_0 a0_1 l0_2 = some r) ∧ Aside0 (kq ≤ kj4) ∧ Aside0 (w'.heap[gb1]? = some (.cells #[.string a0_0, .int .i64 a0_1, (.slice A0_2 l0_2.length c0_2)] 53 (0, 0))) ∧ Aside0 (Below w.heap.size w w'))
   case atStart => exact ⟨(0), rfl, H', ⟨Nat.le_refl _⟩, ⟨BK1.out⟩, ⟨HB.out⟩⟩
   case round =>
    clear H'
    try clear c1; try clear c2; try clear p2; try clear c4; try clear c8; try clear c8b0; try clear c11; try clear c12; try clear c12b0; try clear c12b1; try clear c12b2; try clear hcz10_0; try clear hcz10_1; try clear hcz10_2; try clear hcz13_0; try clear hcz13_1; try clear hcz13_2; try clear hcz14_0; try clear hcz14_1; try clear hcz14_2; try clear hcz7_0; try clear hcz7_1; try clear hcz7_2; try clear hcz9_0; try clear hcz9_1; try clear hcz9_2; try clear hfz10_0; try clear hfz10_1; try clear hfz10_2; try clear hfz13_0; try clear hfz13_1; try clear hfz13_2; try clear hfz14_0; try clear hfz14_1; try clear hfz14_2; try clear hfz7_0; try clear hfz7_1; try clear hfz7_2; try clear hfz9_0; try clear hfz9_1; try clear hfz9_2
    obtain ⟨x5_2, rfl, HA, HK2, BK1, HB⟩ := hrel
    cases gk with
    | zero => exact absurd HA.out (by simp [dancestudioref50_scene.l0])
    | succ k2 =>
     have H := HA.out
     clear HA
     simp only [dancestudioref50_scene.l0] at H
     by_cases c15 : x5_2 < (l0_2.length : Int)
     ·
      rw [if_pos c15] at H
      have c15b0 := decide_eq_true c15
      clear c15
      obtain ⟨c16, H⟩ : (0 ≤ x5_2) ∧ _ := mIf H
      have c16b0 := decide_eq_true c16
      clear c16
      by_cases c17 : (rd l0_2 x5_2) < 0
      ·
       rw [if_pos c17] at H
       have c17b0 := decide_eq_true c17
       clear c17
       obtain rfl := Option.some.inj H
       have hcz18 := blk_cell BK1.out; have hfz18 := blk_frozen BK1.out
       have p142 : 0 ≤ (x5_2 : Int) := of_decide_eq_true (by assumption)
       have q142 : x5_2 < (l0_2.length : Int) := of_decide_eq_true (by assumption)
       obtain ⟨ad142, e142, hx142_0⟩ := Kd.at_int HR0_2.out x5_2 p142 q142
       cases e142
       replace hx142_0 := mHx HB hx142_0
       replace p142 := eq_true p142
       replace q142 := eq_true q142
       go_wp2
       repeat (go_quiet (fail); try go_wp2)
       go_ret
       exact ⟨rfl, HB.out⟩
      rw [if_neg c17] at H
      have c17b0 := decide_eq_false c17
      clear c17
      by_cases c19 : (rd l0_2 x5_2) ≥ 24
      ·
       rw [if_pos c19] at H
       have c19b0 := decide_eq_true c19
       clear c19
       obtain rfl := Option.some.inj H
       have hcz20 := blk_cell BK1.out; have hfz20 := blk_frozen BK1.out
       have p142 : 0 ≤ (x5_2 : Int) := of_decide_eq_true (by assumption)
       have q142 : x5_2 < (l0_2.length : Int) := of_decide_eq_true (by assumption)
       obtain ⟨ad142, e142, hx142_0⟩ := Kd.at_int HR0_2.out x5_2 p142 q142
       cases e142
       replace hx142_0 := mHx HB hx142_0
       replace p142 := eq_true p142
       replace q142 := eq_true q142
       have p143 : 0 ≤ (x5_2 : Int) := of_decide_eq_true (by assumption)
       have q143 : x5_2 < (l0_2.length : Int) := of_decide_eq_true (by assumption)
       obtain ⟨ad143, e143, hx143_0⟩ := Kd.at_int HR0_2.out x5_2 p143 q143
       obtain rfl : ad142 = ad143 := (by injection e143)
       replace hx143_0 := mHx HB hx143_0
       replace p143 := eq_true p143
       replace q143 := eq_true q143
       go_wp2
       repeat (go_quiet (fail); try go_wp2)
       go_ret
       exact ⟨rfl, HB.out⟩
      rw [if_neg c19] at H
      have c19b0 := decide_eq_false c19
      clear c19
      have H' := Aside0.mk H
      clear H
      have hcz21 := blk_cell BK1.out; have hfz21 := blk_frozen BK1.out
      have p142 : 0 ≤ (x5_2 : Int) := of_decide_eq_true (by assumption)
      have q142 : x5_2 < (l0_2.length : Int) := of_decide_eq_true (by assumption)
      obtain ⟨ad142, e142, hx142_0⟩ := Kd.at_int HR0_2.out x5_2 p142 q142
      cases e142
      replace hx142_0 := mHx HB hx142_0
      replace p142 := eq_true p142
      replace q142 := eq_true q142
      have p143 : 0 ≤ (x5_2 : Int) := of_decide_eq_true (by assumption)
      have q143 : x5_2 < (l0_2.length : Int) := of_decide_eq_true (by assumption)
      obtain ⟨ad143, e143, hx143_0⟩ := Kd.at_int HR0_2.out x5_2 p143 q143
      obtain rfl : ad142 = ad143 := (by injection e143)
      replace hx143_0 := mHx HB hx143_0
      replace p143 := eq_true p143
      replace q143 := eq_true q143
      go_wp2
      repeat (go_quiet (fail); try go_wp2)
      go_roundg k2
      case measure => have := HJ4.out; have := HK2.out; omega
      case rel => exact ⟨(wrap64 (x5_2 + 1)), rfl, H', ⟨by have := HJ4.out; have := HK2.out; omega⟩, ⟨BK1.out⟩, ⟨HB.out⟩⟩
     rw [if_neg c15] at H
     have c15b0 := decide_eq_false c15
     clear c15
     have H' := Aside0.mk H
     clear H
     have hcz22 := blk_cell BK1.out; have hfz22 := blk_frozen BK1.out
     go_wp2
     repeat (go_quiet (fail); try go_wp2)
     go_loopg [6] k2 (fun kq v6 w' => ∃ (x6_3 : Int), v6 = .int .i64 x6_3 ∧ Aside0 (dancestudioref50_scene.l1 kq x6_3 a0_0 a0_1 l0_2 = some r) ∧ Aside0 (kq ≤ k2) ∧ Aside0 (w'.heap[gb1]? = some (.cells #[.string a0_0, .int .i64 a0_1, (.slice A0_2 l0_2.length c0_2)] 53 (0, 0))) ∧ Aside0 (Below w.heap.size w w'))
     case atStart => exact ⟨(0), rfl, H', ⟨Nat.le_refl _⟩, ⟨BK1.out⟩, ⟨HB.out⟩⟩
     case round =>
      clear H'
      clear c15b0
      obtain ⟨x6_3, rfl, HA, HK3, BK1, HB⟩ := hrel
      cases gk with
      | zero => exact absurd HA.out (by simp [dancestudioref50_scene.l1])
      | succ k3 =>
       have H := HA.out
       clear HA
       simp only [dancestudioref50_scene.l1] at H
       by_cases c23 : x6_3 < (l0_2.length : Int)
       rotate_left
       ·
        rw [if_neg c23] at H
        have c23b0 := decide_eq_false c23
        clear c23
        obtain rfl := Option.some.inj H
        have hcz32 := blk_cell BK1.out; have hfz32 := blk_frozen BK1.out
        go_wp2
        repeat (go_quiet (fail); try go_wp2)
        go_ret
        exact ⟨rfl, HB.out⟩
       rw [if_pos c23] at H
       have c23b0 := decide_eq_true c23
       clear c23
       obtain ⟨c24, H⟩ : (0 ≤ x6_3) ∧ _ := mIf H
       have c24b0 := eq_true c24
       have c24b1 := decide_eq_true c24
       clear c24
       obtain ⟨c25, H⟩ : (x6_3 ≤ (l0_2.length : Int)) ∧ _ := mIf H
       have c25b0 := eq_true c25
       have c25b1 := decide_eq_true c25
       clear c25
       replace H := Option.bind_eq_some_iff.mp H
       obtain ⟨t146, A260, H⟩ := H
       try dsimp only at H
       have A26 := Aside0.mk A260
       clear A260
       by_cases c27 : t146 = true
       ·
        subst c27
        rw [if_pos rfl] at H
        obtain rfl := Option.some.inj H
        have hcz28 := blk_cell BK1.out; have hfz28 := blk_frozen BK1.out
        obtain ⟨i029, hi029, _, hsz29, _⟩ := info_parts info3
        obtain ⟨hcut29, hA29, hC29⟩ := print_take_of (P := Try.prog) (Value.int .i64) 0 51 3 .i64 Try.underlying51 hi029 hsz29 A0_2 c0_2 l0_2 x6_3 (of_decide_eq_true (by assumption)) (of_decide_eq_true (by assumption)) HC0_2.out
        have HR144 := Aside0.mk (Kd.C_of_reads (h1 := fun _ => rfl) (hA29 _ (Kd.reads_of_C HR0_2.out)))
        have HC144 := Aside0.mk hC29
        clear hA29 hC29 hi029 hsz29
        have p145 : 0 ≤ (x6_3 : Int) := of_decide_eq_true (by assumption)
        have q145 : x6_3 < (l0_2.length : Int) := of_decide_eq_true (by assumption)
        obtain ⟨ad145, e145, hx145_0⟩ := Kd.at_int HR0_2.out x6_3 p145 q145
        cases e145
        replace hx145_0 := mHx HB hx145_0
        replace p145 := eq_true p145
        replace q145 := eq_true q145
        go_wp2_with (first | (go_at_call 27; (try rw [show (x6_3 : Int).toNat = (l0_2.take (x6_3 : Int).toNat).length from (by rw [List.length_take]; have h1_ := of_eq_true q145; omega)]); (with_reducible refine (dancestudioref50_has.calls k3 _ _ (l0_2.take (x6_3 : Int).toNat) (rd l0_2 x6_3) true _ (Kd.C_below HR144.out HB.out) HC144.out A26.out).mono ?_); rintro e w' ⟨rfl, ⟨nd, rfl⟩⟩; (try first | exact ⟨rfl, _, World.drewN_drewN _ _ _⟩ | exact ⟨rfl, _, Eq.trans (World.drewN_drewN _ _ _) (congrArg (World.drewN _) (Nat.add_assoc _ _ _))⟩)))
        repeat (go_quiet (first | (go_at_call 27; (try rw [show (x6_3 : Int).toNat = (l0_2.take (x6_3 : Int).toNat).length from (by rw [List.length_take]; have h1_ := of_eq_true q145; omega)]); (with_reducible refine (dancestudioref50_has.calls k3 _ _ (l0_2.take (x6_3 : Int).toNat) (rd l0_2 x6_3) true _ ?side1 ?side2 A26.out).mono ?_); (case side1 => exact cO (Kd.C_below HR144.out HB.out)); (case side2 => exact HC144.out); rintro e w' ⟨rfl, ⟨nd, rfl⟩⟩; (try first | exact ⟨rfl, _, World.drewN_drewN _ _ _⟩ | exact ⟨rfl, _, Eq.trans (World.drewN_drewN _ _ _) (congrArg (World.drewN _) (Nat.add_assoc _ _ _))⟩))); try go_wp2_with (first | (go_at_call 27; (with_reducible refine (dancestudioref50_has.calls k3 _ _ (l0_2.take (x6_3 : Int).toNat) (rd l0_2 x6_3) true _ (cO (Kd.C_below HR144.out HB.out)) HC144.out A26.out).mono ?_); rintro e w' ⟨rfl, ⟨nd, rfl⟩⟩; (try first | exact ⟨rfl, _, World.drewN_drewN _ _ _⟩ | exact ⟨rfl, _, Eq.trans (World.drewN_drewN _ _ _) (congrArg (World.drewN _) (Nat.add_assoc _ _ _))⟩))))
        go_ret
        exact ⟨rfl, hO HB⟩
       replace c27 := Bool.eq_false_iff.mpr c27
       subst c27
       rw [if_neg (show ¬ (false = true) by decide)] at H
       have H' := Aside0.mk H
       clear H
       have hcz30 := blk_cell BK1.out; have hfz30 := blk_frozen BK1.out
       obtain ⟨i031, hi031, _, hsz31, _⟩ := info_parts info3
       obtain ⟨hcut31, hA31, hC31⟩ := print_take_of (P := Try.prog) (Value.int .i64) 0 51 3 .i64 Try.underlying51 hi031 hsz31 A0_2 c0_2 l0_2 x6_3 (of_decide_eq_true (by assumption)) (of_decide_eq_true (by assumption)) HC0_2.out
       have HR144 := Aside0.mk (Kd.C_of_reads (h1 := fun _ => rfl) (hA31 _ (Kd.reads_of_C HR0_2.out)))
       have HC144 := Aside0.mk hC31
       clear hA31 hC31 hi031 hsz31
       have p145 : 0 ≤ (x6_3 : Int) := of_decide_eq_true (by assumption)
       have q145 : x6_3 < (l0_2.length : Int) := of_decide_eq_true (by assumption)
       obtain ⟨ad145, e145, hx145_0⟩ := Kd.at_int HR0_2.out x6_3 p145 q145
       cases e145
       replace hx145_0 := mHx HB hx145_0
       replace p145 := eq_true p145
       replace q145 := eq_true q145
       go_wp2_with (first | (go_at_call 27; (try rw [show (x6_3 : Int).toNat = (l0_2.take (x6_3 : Int).toNat).length from (by rw [List.length_take]; have h1_ := of_eq_true q145; omega)]); (with_reducible refine (dancestudioref50_has.calls k3 _ _ (l0_2.take (x6_3 : Int).toNat) (rd l0_2 x6_3) false _ (Kd.C_below HR144.out HB.out) HC144.out A26.out).mono ?_); rintro e w' ⟨rfl, ⟨nd, rfl⟩⟩; (try first | exact ⟨rfl, _, World.drewN_drewN _ _ _⟩ | exact ⟨rfl, _, Eq.trans (World.drewN_drewN _ _ _) (congrArg (World.drewN _) (Nat.add_assoc _ _ _))⟩)))
       repeat (go_quiet (first | (go_at_call 27; (try rw [show (x6_3 : Int).toNat = (l0_2.take (x6_3 : Int).toNat).length from (by rw [List.length_take]; have h1_ := of_eq_true q145; omega)]); (with_reducible refine (dancestudioref50_has.calls k3 _ _ (l0_2.take (x6_3 : Int).toNat) (rd l0_2 x6_3) false _ ?side1 ?side2 A26.out).mono ?_); (case side1 => exact cO (Kd.C_below HR144.out HB.out)); (case side2 => exact HC144.out); rintro e w' ⟨rfl, ⟨nd, rfl⟩⟩; (try first | exact ⟨rfl, _, World.drewN_drewN _ _ _⟩ | exact ⟨rfl, _, Eq.trans (World.drewN_drewN _ _ _) (congrArg (World.drewN _) (Nat.add_assoc _ _ _))⟩))); try go_wp2_with (first | (go_at_call 27; (with_reducible refine (dancestudioref50_has.calls k3 _ _ (l0_2.take (x6_3 : Int).toNat) (rd l0_2 x6_3) false _ (cO (Kd.C_below HR144.out HB.out)) HC144.out A26.out).mono ?_); rintro e w' ⟨rfl, ⟨nd, rfl⟩⟩; (try first | exact ⟨rfl, _, World.drewN_drewN _ _ _⟩ | exact ⟨rfl, _, Eq.trans (World.drewN_drewN _ _ _) (congrArg (World.drewN _) (Nat.add_assoc _ _ _))⟩))))
       go_roundg k3
       case measure => have := HJ4.out; have := HK2.out; have := HK3.out; omega
       case rel => exact ⟨(wrap64 (x6_3 + 1)), rfl, H', ⟨by have := HJ4.out; have := HK2.out; have := HK3.out; omega⟩, ⟨BK1.out⟩, ⟨hO HB⟩⟩
def dancestudioref50_meet.f (l0_0 : List (S53)) (l0_1 : List (S55)) (l0_2 : List (S59)) (a0_3 : Int) (a1_0 : Int) (a1_1 : Int) (a1_2 : Int) (a2_0 : Int) (a2_1 : Int) (a2_2 : Int) : Option (Bool) := if 0 ≤ a2_0 then (if a2_0 < (l0_0.length : Int) then (if a1_2 < (wrap64 (a2_2 + ((rd_T53 l0_0 a2_0).f1))) then (if 0 ≤ a1_0 then (if a1_0 < (l0_0.length : Int) then (some (decide (a2_2 < (wrap64 (a1_2 + ((rd_T53 l0_0 a1_0).f1)))))) else (none)) else (none)) else (some false)) else (none)) else (none)
set_option maxHeartbeats 8000000 in
set_option maxRecDepth 100000 in
theorem dancestudioref50_meet.calls (A0_0 : Option Addr) (c0_0 : Nat) (l0_0 : List (S53)) (A0_1 : Option Addr) (c0_1 : Nat) (l0_1 : List (S55)) (A0_2 : Option Addr) (c0_2 : Nat) (l0_2 : List (S59)) (a0_3 : Int) (a1_0 : Int) (a1_1 : Int) (a1_2 : Int) (a2_0 : Int) (a2_1 : Int) (a2_2 : Int) (r : Bool) (w : World) (hr0_0 : Kd.C k53 w A0_0 l0_0.length l0_0) (hc0_0 : l0_0.length ≤ c0_0) (hr0_1 : Kd.C k55 w A0_1 l0_1.length l0_1) (hc0_1 : l0_1.length ≤ c0_1) (hr0_2 : Kd.C k59 w A0_2 l0_2.length l0_2) (hc0_2 : l0_2.length ≤ c0_2) (h : dancestudioref50_meet.f l0_0 l0_1 l0_2 a0_3 a1_0 a1_1 a1_2 a2_0 a2_1 a2_2 = some r) :
  Calls Try.prog 38 #[.agg #[.slice A0_0 l0_0.length c0_0, .slice A0_1 l0_1.length c0_1, .slice A0_2 l0_2.length c0_2, .int .i64 a0_3], .agg #[.int .i64 a1_0, .int .i64 a1_1, .int .i64 a1_2], .agg #[.int .i64 a2_0, .int .i64 a2_1, .int .i64 a2_2]] w fun e w' => e = .returned (.bool r) ∧ Below w.heap.size w w' := by
 have hu30 := Try.underlying26
 have hu48 := Try.underlying48
 have HR0_0 := Aside0.mk hr0_0
 have HC0_0 := Aside0.mk hc0_0
 clear hr0_0 hc0_0
 have HR0_1 := Aside0.mk hr0_1
 have HC0_1 := Aside0.mk hc0_1
 clear hr0_1 hc0_1
 have HR0_2 := Aside0.mk hr0_2
 have HC0_2 := Aside0.mk hc0_2
 clear hr0_2 hc0_2
 have HB := Aside0.mk (Below.refl w.heap.size w)
 have H := h
 unfold dancestudioref50_meet.f at H
 clear h
 obtain ⟨c4, H⟩ : (0 ≤ a2_0) ∧ _ := mIf H
 have c4b0 := decide_eq_true c4
 clear c4
 obtain ⟨c5, H⟩ : (a2_0 < (l0_0.length : Int)) ∧ _ := mIf H
 have c5b0 := decide_eq_true c5
 clear c5
 by_cases c6 : a1_2 < (wrap64 (a2_2 + ((rd_T53 l0_0 a2_0).f1)))
 rotate_left
 ·
  rw [if_neg c6] at H
  have c6b0 := decide_eq_false c6
  clear c6
  obtain rfl := Option.some.inj H
  go_enter Try.func38, Try.ntmps38
  go_wp2_with (first | ((with_reducible refine gate_dst (N := 3) rfl ?_); refine box_event rfl (N := 3) rfl (cs := #[.slice A0_0 l0_0.length c0_0, .slice A0_1 l0_1.length c0_1, .slice A0_2 l0_2.length c0_2, .int .i64 a0_3]) (t := 26) (by first | (go_simp; done) | (go_simp; rfl)) ?_; intro gb1 hg w18 hbox hb; have BK1 := Aside0.mk hbox; have GW1 := mGw HB hg; have GE1 := GW1; replace HB := mSt HB hb; clear hb hbox hg) | ((with_reducible refine gate_dst (N := 4) rfl ?_); refine box_event rfl (N := 4) rfl (cs := #[.int .i64 a1_0, .int .i64 a1_1, .int .i64 a1_2]) (t := 48) (by first | (go_simp; done) | (go_simp; rfl)) ?_; intro gb2 hg w19 hbox hb; have BK2 := Aside0.mk hbox; have GW2 := mGw HB hg; have GE2 := GW2; replace HB := mSt HB hb; have NB1_2 := mNe BK1 hg; have NB2_1 := mSy NB1_2; replace BK1 := mBb BK1 hb; clear hb hbox hg) | ((with_reducible refine gate_dst (N := 5) rfl ?_); refine box_event rfl (N := 5) rfl (cs := #[.int .i64 a2_0, .int .i64 a2_1, .int .i64 a2_2]) (t := 48) (by first | (go_simp; done) | (go_simp; rfl)) ?_; intro gb3 hg w20 hbox hb; have BK3 := Aside0.mk hbox; have GW3 := mGw HB hg; have GE3 := GW3; replace HB := mSt HB hb; have NB1_3 := mNe BK1 hg; have NB3_1 := mSy NB1_3; replace BK1 := mBb BK1 hb; have NB2_3 := mNe BK2 hg; have NB3_2 := mSy NB2_3; replace BK2 := mBb BK2 hb; clear hb hbox hg; have hnb21 := NB2_1.out; have hnc21 := NB1_2.out; have hnb22 := NB2_3.out; have hnc22 := NB3_2.out; have hcz23 := blk_cell BK2.out; have hfz23 := blk_frozen BK2.out; have hnb24 := NB3_1.out; have hnc24 := NB1_3.out; have hcz25 := blk_cell BK3.out; have hfz25 := blk_frozen BK3.out; have hcz26 := blk_cell BK1.out; have hfz26 := blk_frozen BK1.out; have p449 : 0 ≤ (a2_0 : Int) := of_decide_eq_true (by assumption); have q449 : a2_0 < (l0_0.length : Int) := of_decide_eq_true (by assumption); obtain ⟨ad449, A449_2, c449_2, e449, hx449_0, hx449_1, hx449_2, hl449_2, hi449_2⟩ := at_T53 HR0_0.out a2_0 p449 q449; cases e449; replace hx449_0 := mHx HB hx449_0; replace hx449_1 := mHx HB hx449_1; replace hx449_2 := mHx HB hx449_2; have HR449_2 := Aside0.mk hi449_2; have HC449_2 := Aside0.mk hl449_2; clear hi449_2 hl449_2; replace p449 := eq_true p449; replace q449 := eq_true q449))
  repeat (go_quiet (first | ((with_reducible refine gate_dst (N := 3) rfl ?_); refine box_event rfl (N := 3) rfl (cs := #[.slice A0_0 l0_0.length c0_0, .slice A0_1 l0_1.length c0_1, .slice A0_2 l0_2.length c0_2, .int .i64 a0_3]) (t := 26) (by first | (go_simp; done) | (go_simp; rfl)) ?_; intro gb1 hg w18 hbox hb; have BK1 := Aside0.mk hbox; have GW1 := mGw HB hg; have GE1 := GW1; replace HB := mSt HB hb; clear hb hbox hg) | ((with_reducible refine gate_dst (N := 4) rfl ?_); refine box_event rfl (N := 4) rfl (cs := #[.int .i64 a1_0, .int .i64 a1_1, .int .i64 a1_2]) (t := 48) (by first | (go_simp; done) | (go_simp; rfl)) ?_; intro gb2 hg w19 hbox hb; have BK2 := Aside0.mk hbox; have GW2 := mGw HB hg; have GE2 := GW2; replace HB := mSt HB hb; have NB1_2 := mNe BK1 hg; have NB2_1 := mSy NB1_2; replace BK1 := mBb BK1 hb; clear hb hbox hg) | ((with_reducible refine gate_dst (N := 5) rfl ?_); refine box_event rfl (N := 5) rfl (cs := #[.int .i64 a2_0, .int .i64 a2_1, .int .i64 a2_2]) (t := 48) (by first | (go_simp; done) | (go_simp; rfl)) ?_; intro gb3 hg w20 hbox hb; have BK3 := Aside0.mk hbox; have GW3 := mGw HB hg; have GE3 := GW3; replace HB := mSt HB hb; have NB1_3 := mNe BK1 hg; have NB3_1 := mSy NB1_3; replace BK1 := mBb BK1 hb; have NB2_3 := mNe BK2 hg; have NB3_2 := mSy NB2_3; replace BK2 := mBb BK2 hb; clear hb hbox hg; have hnb21 := NB2_1.out; have hnc21 := NB1_2.out; have hnb22 := NB2_3.out; have hnc22 := NB3_2.out; have hcz23 := blk_cell BK2.out; have hfz23 := blk_frozen BK2.out; have hnb24 := NB3_1.out; have hnc24 := NB1_3.out; have hcz25 := blk_cell BK3.out; have hfz25 := blk_frozen BK3.out; have hcz26 := blk_cell BK1.out; have hfz26 := blk_frozen BK1.out; have p449 : 0 ≤ (a2_0 : Int) := of_decide_eq_true (by assumption); have q449 : a2_0 < (l0_0.length : Int) := of_decide_eq_true (by assumption); obtain ⟨ad449, A449_2, c449_2, e449, hx449_0, hx449_1, hx449_2, hl449_2, hi449_2⟩ := at_T53 HR0_0.out a2_0 p449 q449; cases e449; replace hx449_0 := mHx HB hx449_0; replace hx449_1 := mHx HB hx449_1; replace hx449_2 := mHx HB hx449_2; have HR449_2 := Aside0.mk hi449_2; have HC449_2 := Aside0.mk hl449_2; clear hi449_2 hl449_2; replace p449 := eq_true p449; replace q449 := eq_true q449)); try go_wp2_with (first | ((with_reducible refine gate_dst (N := 3) rfl ?_); refine box_event rfl (N := 3) rfl (cs := #[.slice A0_0 l0_0.length c0_0, .slice A0_1 l0_1.length c0_1, .slice A0_2 l0_2.length c0_2, .int .i64 a0_3]) (t := 26) (by first | (go_simp; done) | (go_simp; rfl)) ?_; intro gb1 hg w18 hbox hb; have BK1 := Aside0.mk hbox; have GW1 := mGw HB hg; have GE1 := GW1; replace HB := mSt HB hb; clear hb hbox hg) | ((with_reducible refine gate_dst (N := 4) rfl ?_); refine box_event rfl (N := 4) rfl (cs := #[.int .i64 a1_0, .int .i64 a1_1, .int .i64 a1_2]) (t := 48) (by first | (go_simp; done) | (go_simp; rfl)) ?_; intro gb2 hg w19 hbox hb; have BK2 := Aside0.mk hbox; have GW2 := mGw HB hg; have GE2 := GW2; replace HB := mSt HB hb; have NB1_2 := mNe BK1 hg; have NB2_1 := mSy NB1_2; replace BK1 := mBb BK1 hb; clear hb hbox hg) | ((with_reducible refine gate_dst (N := 5) rfl ?_); refine box_event rfl (N := 5) rfl (cs := #[.int .i64 a2_0, .int .i64 a2_1, .int .i64 a2_2]) (t := 48) (by first | (go_simp; done) | (go_simp; rfl)) ?_; intro gb3 hg w20 hbox hb; have BK3 := Aside0.mk hbox; have GW3 := mGw HB hg; have GE3 := GW3; replace HB := mSt HB hb; have NB1_3 := mNe BK1 hg; have NB3_1 := mSy NB1_3; replace BK1 := mBb BK1 hb; have NB2_3 := mNe BK2 hg; have NB3_2 := mSy NB2_3; replace BK2 := mBb BK2 hb; clear hb hbox hg; have hnb21 := NB2_1.out; have hnc21 := NB1_2.out; have hnb22 := NB2_3.out; have hnc22 := NB3_2.out; have hcz23 := blk_cell BK2.out; have hfz23 := blk_frozen BK2.out; have hnb24 := NB3_1.out; have hnc24 := NB1_3.out; have hcz25 := blk_cell BK3.out; have hfz25 := blk_frozen BK3.out; have hcz26 := blk_cell BK1.out; have hfz26 := blk_frozen BK1.out; have p449 : 0 ≤ (a2_0 : Int) := of_decide_eq_true (by assumption); have q449 : a2_0 < (l0_0.length : Int) := of_decide_eq_true (by assumption); obtain ⟨ad449, A449_2, c449_2, e449, hx449_0, hx449_1, hx449_2, hl449_2, hi449_2⟩ := at_T53 HR0_0.out a2_0 p449 q449; cases e449; replace hx449_0 := mHx HB hx449_0; replace hx449_1 := mHx HB hx449_1; replace hx449_2 := mHx HB hx449_2; have HR449_2 := Aside0.mk hi449_2; have HC449_2 := Aside0.mk hl449_2; clear hi449_2 hl449_2; replace p449 := eq_true p449; replace q449 := eq_true q449)))
  go_ret
  exact ⟨rfl, hO HB⟩
 rw [if_pos c6] at H
 have c6b0 := decide_eq_true c6
 clear c6
 obtain ⟨c7, H⟩ : (0 ≤ a1_0) ∧ _ := mIf H
 have c7b0 := decide_eq_true c7
 clear c7
 obtain ⟨c8, H⟩ : (a1_0 < (l0_0.length : Int)) ∧ _ := mIf H
 have c8b0 := decide_eq_true c8
 clear c8
 obtain rfl := Option.some.inj H
 go_enter Try.func38, Try.ntmps38
 go_wp2_with (first | ((with_reducible refine gate_dst (N := 3) rfl ?_); refine box_event rfl (N := 3) rfl (cs := #[.slice A0_0 l0_0.length c0_0, .slice A0_1 l0_1.length c0_1, .slice A0_2 l0_2.length c0_2, .int .i64 a0_3]) (t := 26) (by first | (go_simp; done) | (go_simp; rfl)) ?_; intro gb1 hg w9 hbox hb; have BK1 := Aside0.mk hbox; have GW1 := mGw HB hg; have GE1 := GW1; replace HB := mSt HB hb; clear hb hbox hg) | ((with_reducible refine gate_dst (N := 4) rfl ?_); refine box_event rfl (N := 4) rfl (cs := #[.int .i64 a1_0, .int .i64 a1_1, .int .i64 a1_2]) (t := 48) (by first | (go_simp; done) | (go_simp; rfl)) ?_; intro gb2 hg w10 hbox hb; have BK2 := Aside0.mk hbox; have GW2 := mGw HB hg; have GE2 := GW2; replace HB := mSt HB hb; have NB1_2 := mNe BK1 hg; have NB2_1 := mSy NB1_2; replace BK1 := mBb BK1 hb; clear hb hbox hg) | ((with_reducible refine gate_dst (N := 5) rfl ?_); refine box_event rfl (N := 5) rfl (cs := #[.int .i64 a2_0, .int .i64 a2_1, .int .i64 a2_2]) (t := 48) (by first | (go_simp; done) | (go_simp; rfl)) ?_; intro gb3 hg w11 hbox hb; have BK3 := Aside0.mk hbox; have GW3 := mGw HB hg; have GE3 := GW3; replace HB := mSt HB hb; have NB1_3 := mNe BK1 hg; have NB3_1 := mSy NB1_3; replace BK1 := mBb BK1 hb; have NB2_3 := mNe BK2 hg; have NB3_2 := mSy NB2_3; replace BK2 := mBb BK2 hb; clear hb hbox hg; have hnb12 := NB2_1.out; have hnc12 := NB1_2.out; have hnb13 := NB2_3.out; have hnc13 := NB3_2.out; have hcz14 := blk_cell BK2.out; have hfz14 := blk_frozen BK2.out; have hnb15 := NB3_1.out; have hnc15 := NB1_3.out; have hcz16 := blk_cell BK3.out; have hfz16 := blk_frozen BK3.out; have hcz17 := blk_cell BK1.out; have hfz17 := blk_frozen BK1.out; have p449 : 0 ≤ (a2_0 : Int) := of_decide_eq_true (by assumption); have q449 : a2_0 < (l0_0.length : Int) := of_decide_eq_true (by assumption); obtain ⟨ad449, A449_2, c449_2, e449, hx449_0, hx449_1, hx449_2, hl449_2, hi449_2⟩ := at_T53 HR0_0.out a2_0 p449 q449; cases e449; replace hx449_0 := mHx HB hx449_0; replace hx449_1 := mHx HB hx449_1; replace hx449_2 := mHx HB hx449_2; have HR449_2 := Aside0.mk hi449_2; have HC449_2 := Aside0.mk hl449_2; clear hi449_2 hl449_2; replace p449 := eq_true p449; replace q449 := eq_true q449; have p450 : 0 ≤ (a1_0 : Int) := of_decide_eq_true (by assumption); have q450 : a1_0 < (l0_0.length : Int) := of_decide_eq_true (by assumption); obtain ⟨ad450, A450_2, c450_2, e450, hx450_0, hx450_1, hx450_2, hl450_2, hi450_2⟩ := at_T53 HR0_0.out a1_0 p450 q450; obtain rfl : ad449 = ad450 := (by injection e450); replace hx450_0 := mHx HB hx450_0; replace hx450_1 := mHx HB hx450_1; replace hx450_2 := mHx HB hx450_2; have HR450_2 := Aside0.mk hi450_2; have HC450_2 := Aside0.mk hl450_2; clear hi450_2 hl450_2; replace p450 := eq_true p450; replace q450 := eq_true q450))
 repeat (go_quiet (first | ((with_reducible refine gate_dst (N := 3) rfl ?_); refine box_event rfl (N := 3) rfl (cs := #[.slice A0_0 l0_0.length c0_0, .slice A0_1 l0_1.length c0_1, .slice A0_2 l0_2.length c0_2, .int .i64 a0_3]) (t := 26) (by first | (go_simp; done) | (go_simp; rfl)) ?_; intro gb1 hg w9 hbox hb; have BK1 := Aside0.mk hbox; have GW1 := mGw HB hg; have GE1 := GW1; replace HB := mSt HB hb; clear hb hbox hg) | ((with_reducible refine gate_dst (N := 4) rfl ?_); refine box_event rfl (N := 4) rfl (cs := #[.int .i64 a1_0, .int .i64 a1_1, .int .i64 a1_2]) (t := 48) (by first | (go_simp; done) | (go_simp; rfl)) ?_; intro gb2 hg w10 hbox hb; have BK2 := Aside0.mk hbox; have GW2 := mGw HB hg; have GE2 := GW2; replace HB := mSt HB hb; have NB1_2 := mNe BK1 hg; have NB2_1 := mSy NB1_2; replace BK1 := mBb BK1 hb; clear hb hbox hg) | ((with_reducible refine gate_dst (N := 5) rfl ?_); refine box_event rfl (N := 5) rfl (cs := #[.int .i64 a2_0, .int .i64 a2_1, .int .i64 a2_2]) (t := 48) (by first | (go_simp; done) | (go_simp; rfl)) ?_; intro gb3 hg w11 hbox hb; have BK3 := Aside0.mk hbox; have GW3 := mGw HB hg; have GE3 := GW3; replace HB := mSt HB hb; have NB1_3 := mNe BK1 hg; have NB3_1 := mSy NB1_3; replace BK1 := mBb BK1 hb; have NB2_3 := mNe BK2 hg; have NB3_2 := mSy NB2_3; replace BK2 := mBb BK2 hb; clear hb hbox hg; have hnb12 := NB2_1.out; have hnc12 := NB1_2.out; have hnb13 := NB2_3.out; have hnc13 := NB3_2.out; have hcz14 := blk_cell BK2.out; have hfz14 := blk_frozen BK2.out; have hnb15 := NB3_1.out; have hnc15 := NB1_3.out; have hcz16 := blk_cell BK3.out; have hfz16 := blk_frozen BK3.out; have hcz17 := blk_cell BK1.out; have hfz17 := blk_frozen BK1.out; have p449 : 0 ≤ (a2_0 : Int) := of_decide_eq_true (by assumption); have q449 : a2_0 < (l0_0.length : Int) := of_decide_eq_true (by assumption); obtain ⟨ad449, A449_2, c449_2, e449, hx449_0, hx449_1, hx449_2, hl449_2, hi449_2⟩ := at_T53 HR0_0.out a2_0 p449 q449; cases e449; replace hx449_0 := mHx HB hx449_0; replace hx449_1 := mHx HB hx449_1; replace hx449_2 := mHx HB hx449_2; have HR449_2 := Aside0.mk hi449_2; have HC449_2 := Aside0.mk hl449_2; clear hi449_2 hl449_2; replace p449 := eq_true p449; replace q449 := eq_true q449; have p450 : 0 ≤ (a1_0 : Int) := of_decide_eq_true (by assumption); have q450 : a1_0 < (l0_0.length : Int) := of_decide_eq_true (by assumption); obtain ⟨ad450, A450_2, c450_2, e450, hx450_0, hx450_1, hx450_2, hl450_2, hi450_2⟩ := at_T53 HR0_0.out a1_0 p450 q450; obtain rfl : ad449 = ad450 := (by injection e450); replace hx450_0 := mHx HB hx450_0; replace hx450_1 := mHx HB hx450_1; replace hx450_2 := mHx HB hx450_2; have HR450_2 := Aside0.mk hi450_2; have HC450_2 := Aside0.mk hl450_2; clear hi450_2 hl450_2; replace p450 := eq_true p450; replace q450 := eq_true q450)); try go_wp2_with (first | ((with_reducible refine gate_dst (N := 3) rfl ?_); refine box_event rfl (N := 3) rfl (cs := #[.slice A0_0 l0_0.length c0_0, .slice A0_1 l0_1.length c0_1, .slice A0_2 l0_2.length c0_2, .int .i64 a0_3]) (t := 26) (by first | (go_simp; done) | (go_simp; rfl)) ?_; intro gb1 hg w9 hbox hb; have BK1 := Aside0.mk hbox; have GW1 := mGw HB hg; have GE1 := GW1; replace HB := mSt HB hb; clear hb hbox hg) | ((with_reducible refine gate_dst (N := 4) rfl ?_); refine box_event rfl (N := 4) rfl (cs := #[.int .i64 a1_0, .int .i64 a1_1, .int .i64 a1_2]) (t := 48) (by first | (go_simp; done) | (go_simp; rfl)) ?_; intro gb2 hg w10 hbox hb; have BK2 := Aside0.mk hbox; have GW2 := mGw HB hg; have GE2 := GW2; replace HB := mSt HB hb; have NB1_2 := mNe BK1 hg; have NB2_1 := mSy NB1_2; replace BK1 := mBb BK1 hb; clear hb hbox hg) | ((with_reducible refine gate_dst (N := 5) rfl ?_); refine box_event rfl (N := 5) rfl (cs := #[.int .i64 a2_0, .int .i64 a2_1, .int .i64 a2_2]) (t := 48) (by first | (go_simp; done) | (go_simp; rfl)) ?_; intro gb3 hg w11 hbox hb; have BK3 := Aside0.mk hbox; have GW3 := mGw HB hg; have GE3 := GW3; replace HB := mSt HB hb; have NB1_3 := mNe BK1 hg; have NB3_1 := mSy NB1_3; replace BK1 := mBb BK1 hb; have NB2_3 := mNe BK2 hg; have NB3_2 := mSy NB2_3; replace BK2 := mBb BK2 hb; clear hb hbox hg; have hnb12 := NB2_1.out; have hnc12 := NB1_2.out; have hnb13 := NB2_3.out; have hnc13 := NB3_2.out; have hcz14 := blk_cell BK2.out; have hfz14 := blk_frozen BK2.out; have hnb15 := NB3_1.out; have hnc15 := NB1_3.out; have hcz16 := blk_cell BK3.out; have hfz16 := blk_frozen BK3.out; have hcz17 := blk_cell BK1.out; have hfz17 := blk_frozen BK1.out; have p449 : 0 ≤ (a2_0 : Int) := of_decide_eq_true (by assumption); have q449 : a2_0 < (l0_0.length : Int) := of_decide_eq_true (by assumption); obtain ⟨ad449, A449_2, c449_2, e449, hx449_0, hx449_1, hx449_2, hl449_2, hi449_2⟩ := at_T53 HR0_0.out a2_0 p449 q449; cases e449; replace hx449_0 := mHx HB hx449_0; replace hx449_1 := mHx HB hx449_1; replace hx449_2 := mHx HB hx449_2; have HR449_2 := Aside0.mk hi449_2; have HC449_2 := Aside0.mk hl449_2; clear hi449_2 hl449_2; replace p449 := eq_true p449; replace q449 := eq_true q449; have p450 : 0 ≤ (a1_0 : Int) := of_decide_eq_true (by assumption); have q450 : a1_0 < (l0_0.length : Int) := of_decide_eq_true (by assumption); obtain ⟨ad450, A450_2, c450_2, e450, hx450_0, hx450_1, hx450_2, hl450_2, hi450_2⟩ := at_T53 HR0_0.out a1_0 p450 q450; obtain rfl : ad449 = ad450 := (by injection e450); replace hx450_0 := mHx HB hx450_0; replace hx450_1 := mHx HB hx450_1; replace hx450_2 := mHx HB hx450_2; have HR450_2 := Aside0.mk hi450_2; have HC450_2 := Aside0.mk hl450_2; clear hi450_2 hl450_2; replace p450 := eq_true p450; replace q450 := eq_true q450)))
 go_ret
 exact ⟨rfl, hO HB⟩
def dancestudioref50_common.l0 : Nat → Int → ByteArray → Int → List Int → ByteArray → Int → List Int → Option (Bool)
 | 0, _, _, _, _, _, _, _ => none
 | k + 1, x5, x452000, x452001, x452002, x453000, x453001, x453002 => if x5 < (x452002.length : Int) then (if 0 ≤ x5 then ((dancestudioref50_has.f k x453002 (rd x452002 x5)).bind fun t454 => (if t454 = true then (some true) else (dancestudioref50_common.l0 k (wrap64 (x5 + 1)) x452000 x452001 x452002 x453000 x453001 x453002))) else (none)) else (some false)
def dancestudioref50_common.f (k : Nat) (a0_0 : ByteArray) (a0_1 : Int) (l0_2 : List Int) (a1_0 : ByteArray) (a1_1 : Int) (l1_2 : List Int) : Option (Bool) := dancestudioref50_common.l0 k 0 a0_0 a0_1 l0_2 a1_0 a1_1 l1_2
set_option maxHeartbeats 8000000 in
set_option maxRecDepth 100000 in
theorem dancestudioref50_common.calls (k : Nat) (a0_0 : ByteArray) (a0_1 : Int) (A0_2 : Option Addr) (c0_2 : Nat) (l0_2 : List Int) (a1_0 : ByteArray) (a1_1 : Int) (A1_2 : Option Addr) (c1_2 : Nat) (l1_2 : List Int) (r : Bool) (w : World) (hr0_2 : Kd.C (Kd.int .i64) w A0_2 l0_2.length l0_2) (hc0_2 : l0_2.length ≤ c0_2) (hr1_2 : Kd.C (Kd.int .i64) w A1_2 l1_2.length l1_2) (hc1_2 : l1_2.length ≤ c1_2) (h : dancestudioref50_common.f k a0_0 a0_1 l0_2 a1_0 a1_1 l1_2 = some r) :
  Calls Try.prog 39 #[.agg #[.string a0_0, .int .i64 a0_1, .slice A0_2 l0_2.length c0_2], .agg #[.string a1_0, .int .i64 a1_1, .slice A1_2 l1_2.length c1_2]] w fun e w' => e = .returned (.bool r) ∧ Below w.heap.size w w' := by
 have hu53 := Try.underlying53
 have HR0_2 := Aside0.mk hr0_2
 have HC0_2 := Aside0.mk hc0_2
 clear hr0_2 hc0_2
 have HR1_2 := Aside0.mk hr1_2
 have HC1_2 := Aside0.mk hc1_2
 clear hr1_2 hc1_2
 have HB := Aside0.mk (Below.refl w.heap.size w)
 have H := h
 unfold dancestudioref50_common.f at H
 clear h
 have H' := Aside0.mk H
 clear H
 go_enter Try.func39, Try.ntmps39
 go_wp2_with (first | ((with_reducible refine gate_dst (N := 2) rfl ?_); refine box_event rfl (N := 2) rfl (cs := #[.string a0_0, .int .i64 a0_1, .slice A0_2 l0_2.length c0_2]) (t := 53) (by first | (go_simp; done) | (go_simp; rfl)) ?_; intro gb1 hg w3 hbox hb; have BK1 := Aside0.mk hbox; have GW1 := mGw HB hg; have GE1 := GW1; replace HB := mSt HB hb; clear hb hbox hg) | ((with_reducible refine gate_dst (N := 3) rfl ?_); refine box_event rfl (N := 3) rfl (cs := #[.string a1_0, .int .i64 a1_1, .slice A1_2 l1_2.length c1_2]) (t := 53) (by first | (go_simp; done) | (go_simp; rfl)) ?_; intro gb2 hg w4 hbox hb; have BK2 := Aside0.mk hbox; have GW2 := mGw HB hg; have GE2 := GW2; replace HB := mSt HB hb; have NB1_2 := mNe BK1 hg; have NB2_1 := mSy NB1_2; replace BK1 := mBb BK1 hb; clear hb hbox hg))
 skip
 go_loopg [5] k (fun kq v5 w' => ∃ (x5_1 : Int), v5 = .int .i64 x5_1 ∧ Aside0 (dancestudioref50_common.l0 kq x5_1 a0_0 a0_1 l0_2 a1_0 a1_1 l1_2 = some r) ∧ Aside0 (kq ≤ k) ∧ Aside0 (w'.heap[gb1]? = some (.cells #[.string a0_0, .int .i64 a0_1, (.slice A0_2 l0_2.length c0_2)] 53 (0, 0))) ∧ Aside0 (w'.heap[gb2]? = some (.cells #[.string a1_0, .int .i64 a1_1, (.slice A1_2 l1_2.length c1_2)] 53 (0, 0))) ∧ Aside0 (Below w.heap.size w w'))
 case atStart => exact ⟨(0), rfl, H', ⟨Nat.le_refl _⟩, ⟨BK1.out⟩, ⟨BK2.out⟩, ⟨HB.out⟩⟩
 case round =>
  clear H'
  skip
  obtain ⟨x5_1, rfl, HA, HK1, BK1, BK2, HB⟩ := hrel
  cases gk with
  | zero => exact absurd HA.out (by simp [dancestudioref50_common.l0])
  | succ k1 =>
   have H := HA.out
   clear HA
   simp only [dancestudioref50_common.l0] at H
   by_cases c5 : x5_1 < (l0_2.length : Int)
   rotate_left
   ·
    rw [if_neg c5] at H
    have c5b0 := decide_eq_false c5
    clear c5
    obtain rfl := Option.some.inj H
    have hnb15 := NB1_2.out
    have hnc15 := NB2_1.out
    have hcz16 := blk_cell BK1.out; have hfz16 := blk_frozen BK1.out
    go_wp2
    repeat (go_quiet (fail); try go_wp2)
    go_ret
    exact ⟨rfl, HB.out⟩
   rw [if_pos c5] at H
   have c5b0 := decide_eq_true c5
   clear c5
   obtain ⟨c6, H⟩ : (0 ≤ x5_1) ∧ _ := mIf H
   have c6b0 := decide_eq_true c6
   clear c6
   replace H := Option.bind_eq_some_iff.mp H
   obtain ⟨t454, A70, H⟩ := H
   try dsimp only at H
   have A7 := Aside0.mk A70
   clear A70
   by_cases c8 : t454 = true
   ·
    subst c8
    rw [if_pos rfl] at H
    obtain rfl := Option.some.inj H
    have hnb9 := NB1_2.out
    have hnc9 := NB2_1.out
    have hcz10 := blk_cell BK1.out; have hfz10 := blk_frozen BK1.out; have hcz11 := blk_cell BK2.out; have hfz11 := blk_frozen BK2.out
    have p453 : 0 ≤ (x5_1 : Int) := of_decide_eq_true (by assumption)
    have q453 : x5_1 < (l0_2.length : Int) := of_decide_eq_true (by assumption)
    obtain ⟨ad453, e453, hx453_0⟩ := Kd.at_int HR0_2.out x5_1 p453 q453
    cases e453
    replace hx453_0 := mHx HB hx453_0
    replace p453 := eq_true p453
    replace q453 := eq_true q453
    go_wp2_with (first | (go_at_call 27; (with_reducible refine (dancestudioref50_has.calls k1 _ _ l1_2 (rd l0_2 x5_1) true _ (Kd.C_below HR1_2.out HB.out) HC1_2.out A7.out).mono ?_); rintro e w' ⟨rfl, ⟨nd, rfl⟩⟩; (try first | exact ⟨rfl, _, World.drewN_drewN _ _ _⟩ | exact ⟨rfl, _, Eq.trans (World.drewN_drewN _ _ _) (congrArg (World.drewN _) (Nat.add_assoc _ _ _))⟩)))
    repeat (go_quiet (first | (go_at_call 27; (with_reducible refine (dancestudioref50_has.calls k1 _ _ l1_2 (rd l0_2 x5_1) true _ (cO (Kd.C_below HR1_2.out HB.out)) HC1_2.out A7.out).mono ?_); rintro e w' ⟨rfl, ⟨nd, rfl⟩⟩; (try first | exact ⟨rfl, _, World.drewN_drewN _ _ _⟩ | exact ⟨rfl, _, Eq.trans (World.drewN_drewN _ _ _) (congrArg (World.drewN _) (Nat.add_assoc _ _ _))⟩))); try go_wp2_with (first | (go_at_call 27; (with_reducible refine (dancestudioref50_has.calls k1 _ _ l1_2 (rd l0_2 x5_1) true _ (cO (Kd.C_below HR1_2.out HB.out)) HC1_2.out A7.out).mono ?_); rintro e w' ⟨rfl, ⟨nd, rfl⟩⟩; (try first | exact ⟨rfl, _, World.drewN_drewN _ _ _⟩ | exact ⟨rfl, _, Eq.trans (World.drewN_drewN _ _ _) (congrArg (World.drewN _) (Nat.add_assoc _ _ _))⟩))))
    go_ret
    exact ⟨rfl, hO HB⟩
   replace c8 := Bool.eq_false_iff.mpr c8
   subst c8
   rw [if_neg (show ¬ (false = true) by decide)] at H
   have H' := Aside0.mk H
   clear H
   have hnb12 := NB1_2.out
   have hnc12 := NB2_1.out
   have hcz13 := blk_cell BK1.out; have hfz13 := blk_frozen BK1.out; have hcz14 := blk_cell BK2.out; have hfz14 := blk_frozen BK2.out
   have p453 : 0 ≤ (x5_1 : Int) := of_decide_eq_true (by assumption)
   have q453 : x5_1 < (l0_2.length : Int) := of_decide_eq_true (by assumption)
   obtain ⟨ad453, e453, hx453_0⟩ := Kd.at_int HR0_2.out x5_1 p453 q453
   cases e453
   replace hx453_0 := mHx HB hx453_0
   replace p453 := eq_true p453
   replace q453 := eq_true q453
   go_wp2_with (first | (go_at_call 27; (with_reducible refine (dancestudioref50_has.calls k1 _ _ l1_2 (rd l0_2 x5_1) false _ (Kd.C_below HR1_2.out HB.out) HC1_2.out A7.out).mono ?_); rintro e w' ⟨rfl, ⟨nd, rfl⟩⟩; (try first | exact ⟨rfl, _, World.drewN_drewN _ _ _⟩ | exact ⟨rfl, _, Eq.trans (World.drewN_drewN _ _ _) (congrArg (World.drewN _) (Nat.add_assoc _ _ _))⟩)))
   repeat (go_quiet (first | (go_at_call 27; (with_reducible refine (dancestudioref50_has.calls k1 _ _ l1_2 (rd l0_2 x5_1) false _ (cO (Kd.C_below HR1_2.out HB.out)) HC1_2.out A7.out).mono ?_); rintro e w' ⟨rfl, ⟨nd, rfl⟩⟩; (try first | exact ⟨rfl, _, World.drewN_drewN _ _ _⟩ | exact ⟨rfl, _, Eq.trans (World.drewN_drewN _ _ _) (congrArg (World.drewN _) (Nat.add_assoc _ _ _))⟩))); try go_wp2_with (first | (go_at_call 27; (with_reducible refine (dancestudioref50_has.calls k1 _ _ l1_2 (rd l0_2 x5_1) false _ (cO (Kd.C_below HR1_2.out HB.out)) HC1_2.out A7.out).mono ?_); rintro e w' ⟨rfl, ⟨nd, rfl⟩⟩; (try first | exact ⟨rfl, _, World.drewN_drewN _ _ _⟩ | exact ⟨rfl, _, Eq.trans (World.drewN_drewN _ _ _) (congrArg (World.drewN _) (Nat.add_assoc _ _ _))⟩))))
   go_roundg k1
   case measure => have := HK1.out; omega
   case rel => exact ⟨(wrap64 (x5_1 + 1)), rfl, H', ⟨by have := HK1.out; omega⟩, ⟨BK1.out⟩, ⟨BK2.out⟩, ⟨hO HB⟩⟩
def dancestudioref50_away.l0 : Nat → Int → Int → List (S53) → List (S55) → List (S59) → Int → ByteArray → Int → List Int → Option (Bool)
 | 0, _, _, _, _, _, _, _, _, _ => none
 | k + 1, x2, x7, x436000, x436001, x436002, x436003, x437000, x437001, x437002 => if x7 < (x436002.length : Int) then (if 0 ≤ x7 then ((dancestudioref50_has.f k x437002 ((rd_T59 x436002 x7).f0)).bind fun t439 => (if t439 = true then (if (mx ((rd_T59 x436002 x7).f1.f0) x2) < (mn ((rd_T59 x436002 x7).f1.f1) (wrap64 (x2 + x437001))) then (some true) else (dancestudioref50_away.l0 k x2 (wrap64 (x7 + 1)) x436000 x436001 x436002 x436003 x437000 x437001 x437002)) else (dancestudioref50_away.l0 k x2 (wrap64 (x7 + 1)) x436000 x436001 x436002 x436003 x437000 x437001 x437002))) else (none)) else (some false)
def dancestudioref50_away.f (k : Nat) (l0_0 : List (S53)) (l0_1 : List (S55)) (l0_2 : List (S59)) (a0_3 : Int) (a1_0 : ByteArray) (a1_1 : Int) (l1_2 : List Int) (a2 : Int) : Option (Bool) := dancestudioref50_away.l0 k a2 0 l0_0 l0_1 l0_2 a0_3 a1_0 a1_1 l1_2
set_option maxHeartbeats 8000000 in
set_option maxRecDepth 100000 in
theorem dancestudioref50_away.calls (k : Nat) (A0_0 : Option Addr) (c0_0 : Nat) (l0_0 : List (S53)) (A0_1 : Option Addr) (c0_1 : Nat) (l0_1 : List (S55)) (A0_2 : Option Addr) (c0_2 : Nat) (l0_2 : List (S59)) (a0_3 : Int) (a1_0 : ByteArray) (a1_1 : Int) (A1_2 : Option Addr) (c1_2 : Nat) (l1_2 : List Int) (a2 : Int) (r : Bool) (w : World) (hr0_0 : Kd.C k53 w A0_0 l0_0.length l0_0) (hc0_0 : l0_0.length ≤ c0_0) (hr0_1 : Kd.C k55 w A0_1 l0_1.length l0_1) (hc0_1 : l0_1.length ≤ c0_1) (hr0_2 : Kd.C k59 w A0_2 l0_2.length l0_2) (hc0_2 : l0_2.length ≤ c0_2) (hr1_2 : Kd.C (Kd.int .i64) w A1_2 l1_2.length l1_2) (hc1_2 : l1_2.length ≤ c1_2) (h : dancestudioref50_away.f k l0_0 l0_1 l0_2 a0_3 a1_0 a1_1 l1_2 a2 = some r) :
  Calls Try.prog 52 #[.agg #[.slice A0_0 l0_0.length c0_0, .slice A0_1 l0_1.length c0_1, .slice A0_2 l0_2.length c0_2, .int .i64 a0_3], .agg #[.string a1_0, .int .i64 a1_1, .slice A1_2 l1_2.length c1_2], .int .i64 a2] w fun e w' => e = .returned (.bool r) ∧ Below w.heap.size w w' := by
 have hu30 := Try.underlying26
 have hu53 := Try.underlying53
 have hu59 := Try.underlying59
 have HR0_0 := Aside0.mk hr0_0
 have HC0_0 := Aside0.mk hc0_0
 clear hr0_0 hc0_0
 have HR0_1 := Aside0.mk hr0_1
 have HC0_1 := Aside0.mk hc0_1
 clear hr0_1 hc0_1
 have HR0_2 := Aside0.mk hr0_2
 have HC0_2 := Aside0.mk hc0_2
 clear hr0_2 hc0_2
 have HR1_2 := Aside0.mk hr1_2
 have HC1_2 := Aside0.mk hc1_2
 clear hr1_2 hc1_2
 have HB := Aside0.mk (Below.refl w.heap.size w)
 have H := h
 unfold dancestudioref50_away.f at H
 clear h
 have H' := Aside0.mk H
 clear H
 go_enter Try.func52, Try.ntmps52
 go_wp2_with (first | ((with_reducible refine gate_dst (N := 3) rfl ?_); (try (refine gate_guard (by rfl) ?_; dsimp only)); refine box_event rfl (N := 3) rfl (cs := #[.slice A0_0 l0_0.length c0_0, .slice A0_1 l0_1.length c0_1, .slice A0_2 l0_2.length c0_2, .int .i64 a0_3]) (t := 26) (by first | (go_simp; done) | (go_simp; rfl)) ?_; intro gb1 hg w4 hbox hb; have BK1 := Aside0.mk hbox; have GW1 := mGw HB hg; have GE1 := GW1; replace HB := mSt HB hb; clear hb hbox hg) | ((with_reducible refine gate_dst (N := 4) rfl ?_); (try (refine gate_guard (by rfl) ?_; dsimp only)); refine box_event rfl (N := 4) rfl (cs := #[.string a1_0, .int .i64 a1_1, .slice A1_2 l1_2.length c1_2]) (t := 53) (by first | (go_simp; done) | (go_simp; rfl)) ?_; intro gb2 hg w5 hbox hb; have BK2 := Aside0.mk hbox; have GW2 := mGw HB hg; have GE2 := GW2; replace HB := mSt HB hb; have NB1_2 := mNe BK1 hg; have NB2_1 := mSy NB1_2; replace BK1 := mBb BK1 hb; clear hb hbox hg))
 go_loopg [7] k (fun kq v7 w' => ∃ (x7_1 : Int), v7 = .int .i64 x7_1 ∧ Aside0 (dancestudioref50_away.l0 kq a2 x7_1 l0_0 l0_1 l0_2 a0_3 a1_0 a1_1 l1_2 = some r) ∧ Aside0 (kq ≤ k) ∧ Aside0 (w'.heap[gb1]? = some (.cells #[(.slice A0_0 l0_0.length c0_0), (.slice A0_1 l0_1.length c0_1), (.slice A0_2 l0_2.length c0_2), .int .i64 a0_3] 26 (0, 0))) ∧ Aside0 (w'.heap[gb2]? = some (.cells #[.string a1_0, .int .i64 a1_1, (.slice A1_2 l1_2.length c1_2)] 53 (0, 0))) ∧ Aside0 (Below w.heap.size w w'))
 case atStart => exact ⟨(0), rfl, H', ⟨Nat.le_refl _⟩, ⟨BK1.out⟩, ⟨BK2.out⟩, ⟨HB.out⟩⟩
 case round =>
  clear H'
  skip
  obtain ⟨x7_1, rfl, HA, HK1, BK1, BK2, HB⟩ := hrel
  cases gk with
  | zero => exact absurd HA.out (by simp [dancestudioref50_away.l0])
  | succ k1 =>
   have H := HA.out
   clear HA
   simp only [dancestudioref50_away.l0] at H
   by_cases c6 : x7_1 < (l0_2.length : Int)
   rotate_left
   ·
    rw [if_neg c6] at H
    have c6b0 := decide_eq_false c6
    clear c6
    obtain rfl := Option.some.inj H
    have hnb34 := NB1_2.out
    have hnc34 := NB2_1.out
    have hcz35 := blk_cell BK1.out; have hfz35 := blk_frozen BK1.out
    go_wp2
    go_ret
    exact ⟨rfl, HB.out⟩
   rw [if_pos c6] at H
   have c6b0 := decide_eq_true c6
   clear c6
   obtain ⟨c7, H⟩ : (0 ≤ x7_1) ∧ _ := mIf H
   have c7b0 := decide_eq_true c7
   clear c7
   replace H := Option.bind_eq_some_iff.mp H
   obtain ⟨t439, A80, H⟩ := H
   try dsimp only at H
   have A8 := Aside0.mk A80
   clear A80
   by_cases c9 : t439 = true
   rotate_left
   ·
    replace c9 := Bool.eq_false_iff.mpr c9
    subst c9
    rw [if_neg (show ¬ (false = true) by decide)] at H
    have H' := Aside0.mk H
    clear H
    have hnb27 := NB1_2.out
    have hnc27 := NB2_1.out
    have hcz28 := blk_cell BK1.out; have hfz28 := blk_frozen BK1.out
    have p437 : 0 ≤ (x7_1 : Int) := of_decide_eq_true (by assumption)
    have q437 : x7_1 < (l0_2.length : Int) := of_decide_eq_true (by assumption)
    obtain ⟨ad437, e437, hx437_0, hx437_1, hx437_2⟩ := at_T59 HR0_2.out x7_1 p437 q437
    cases e437
    replace hx437_0 := mHx HB hx437_0
    replace hx437_1 := mHx HB hx437_1
    replace hx437_2 := mHx HB hx437_2
    replace p437 := eq_true p437
    replace q437 := eq_true q437
    go_wp2_with (first | ((with_reducible refine gate_dst (N := 8) rfl ?_); (try (refine gate_guard (by rfl) ?_; dsimp only)); refine box_event rfl (N := 8) rfl (cs := #[.int .i64 0, .int .i64 0, .int .i64 0]) (t := 59) (by first | (go_simp; done) | (go_simp; rfl)) ?_; intro gb3 hg w29 hbox hb; have BK3 := Aside0.mk hbox; have GW3 := Aside0.mk ((by rw [hg]; exact (below_size (hO HB)) : w.heap.size ≤ gb3)); have GE3 := GW3; replace HB := mSx HB hb; have NB1_3 := mNe BK1 hg; have NB3_1 := mSy NB1_3; replace BK1 := mBb BK1 hb; have NB2_3 := mNe BK2 hg; have NB3_2 := mSy NB2_3; replace BK2 := mBb BK2 hb; clear hb hbox hg; have hnb30 := NB3_1.out; have hnc30 := NB1_3.out; have hnb31 := NB3_2.out; have hnc31 := NB2_3.out; have hcz32 := blk_cell BK3.out; have hfz32 := blk_frozen BK3.out; have hcz33 := blk_cell BK2.out; have hfz33 := blk_frozen BK2.out) | ((with_reducible refine gate_callee (f := 27) rfl ?_); refine goesL_ (some 25) rfl rfl Try.func27 (by kernel_rfl) rfl #[.slice A1_2 l1_2.length c1_2, .int .i64 ((rd_T59 l0_2 x7_1).f0)] rfl (mA2 rfl rfl) ?_; (with_reducible refine (dancestudioref50_has.calls k1 _ _ l1_2 ((rd_T59 l0_2 x7_1).f0) false _ (Kd.C_below HR1_2.out (hO HB)) HC1_2.out A8.out).mono ?_); rintro e w' ⟨rfl, ⟨nd, rfl⟩⟩; refine ⟨_, rfl, ?_⟩))
    go_roundg k1
    case measure => have := HK1.out; omega
    case rel => exact ⟨(wrap64 (x7_1 + 1)), rfl, H', ⟨by have := HK1.out; omega⟩, ⟨by refine blk_far ?_ NB1_3.out _; refine blk_far ?_ NB1_3.out _; refine blk_far ?_ NB1_3.out _; exact BK1.out⟩, ⟨by refine blk_far ?_ NB2_3.out _; refine blk_far ?_ NB2_3.out _; refine blk_far ?_ NB2_3.out _; exact BK2.out⟩, ⟨hO HB⟩⟩
   subst c9
   rw [if_pos rfl] at H
   obtain ⟨ji10, hji10⟩ : ∃ j_ : Int, (mx ((rd_T59 l0_2 x7_1).f1.f0) a2) = j_ := ⟨_, rfl⟩
   replace H : (if (ji10) < (mn ((rd_T59 l0_2 x7_1).f1.f1) (wrap64 (a2 + a1_1))) then (some true) else (dancestudioref50_away.l0 k1 a2 (wrap64 (x7_1 + 1)) l0_0 l0_1 l0_2 a0_3 a1_0 a1_1 l1_2)) = some r := by first | (rw [hji10] at H; exact H) | (simp only [hji10] at H ⊢; exact H)
   (try rw [hji10] at A8)
   have hji10_ : (if ((rd_T59 l0_2 x7_1).f1.f0) < a2 then a2 else ((rd_T59 l0_2 x7_1).f1.f0)) = ji10 := hji10
   obtain ⟨ji11, hji11⟩ : ∃ j_ : Int, (mn ((rd_T59 l0_2 x7_1).f1.f1) (wrap64 (a2 + a1_1))) = j_ := ⟨_, rfl⟩
   replace H : (if (ji10) < (ji11) then (some true) else (dancestudioref50_away.l0 k1 a2 (wrap64 (x7_1 + 1)) l0_0 l0_1 l0_2 a0_3 a1_0 a1_1 l1_2)) = some r := by first | (rw [hji11] at H; exact H) | (simp only [hji11] at H ⊢; exact H)
   (try rw [hji11] at A8)
   have hji11_ : (if (wrap64 (a2 + a1_1)) < ((rd_T59 l0_2 x7_1).f1.f1) then (wrap64 (a2 + a1_1)) else ((rd_T59 l0_2 x7_1).f1.f1)) = ji11 := hji11
   by_cases c12 : (ji10) < (ji11)
   ·
    rw [if_pos c12] at H
    have c12b0 := decide_eq_true c12
    clear c12
    obtain rfl := Option.some.inj H
    have hnb13 := NB1_2.out
    have hnc13 := NB2_1.out
    have hcz14 := blk_cell BK1.out; have hfz14 := blk_frozen BK1.out
    have p437 : 0 ≤ (x7_1 : Int) := of_decide_eq_true (by assumption)
    have q437 : x7_1 < (l0_2.length : Int) := of_decide_eq_true (by assumption)
    obtain ⟨ad437, e437, hx437_0, hx437_1, hx437_2⟩ := at_T59 HR0_2.out x7_1 p437 q437
    cases e437
    replace hx437_0 := mHx HB hx437_0
    replace hx437_1 := mHx HB hx437_1
    replace hx437_2 := mHx HB hx437_2
    replace p437 := eq_true p437
    replace q437 := eq_true q437
    go_wp2_with (first | ((with_reducible refine gate_dst (N := 8) rfl ?_); (try (refine gate_guard (by rfl) ?_; dsimp only)); refine box_event rfl (N := 8) rfl (cs := #[.int .i64 0, .int .i64 0, .int .i64 0]) (t := 59) (by first | (go_simp; done) | (go_simp; rfl)) ?_; intro gb3 hg w15 hbox hb; have BK3 := Aside0.mk hbox; have GW3 := Aside0.mk ((by rw [hg]; exact (below_size (hO HB)) : w.heap.size ≤ gb3)); have GE3 := GW3; replace HB := mSx HB hb; have NB1_3 := mNe BK1 hg; have NB3_1 := mSy NB1_3; replace BK1 := mBb BK1 hb; have NB2_3 := mNe BK2 hg; have NB3_2 := mSy NB2_3; replace BK2 := mBb BK2 hb; clear hb hbox hg; have hnb16 := NB3_1.out; have hnc16 := NB1_3.out; have hnb17 := NB3_2.out; have hnc17 := NB2_3.out; have hcz18 := blk_cell BK3.out; have hfz18 := blk_frozen BK3.out; have hcz19 := blk_cell BK2.out; have hfz19 := blk_frozen BK2.out) | ((with_reducible refine gate_callee (f := 27) rfl ?_); refine goesL_ (some 25) rfl rfl Try.func27 (by kernel_rfl) rfl #[.slice A1_2 l1_2.length c1_2, .int .i64 ((rd_T59 l0_2 x7_1).f0)] rfl (mA2 rfl rfl) ?_; (with_reducible refine (dancestudioref50_has.calls k1 _ _ l1_2 ((rd_T59 l0_2 x7_1).f0) true _ (Kd.C_below HR1_2.out (hO HB)) HC1_2.out A8.out).mono ?_); rintro e w' ⟨rfl, ⟨nd, rfl⟩⟩; refine ⟨_, rfl, ?_⟩))
    go_ret
    exact ⟨by first | rfl | (simp [errW_none, errW_some] <;> rfl) | (simp only [← hji10, ← hji11]; first | rfl | (simp [errW_none, errW_some] <;> rfl)) | (simp [*, errW_none, errW_some] <;> rfl), hO HB⟩
   rw [if_neg c12] at H
   have c12b0 := decide_eq_false c12
   clear c12
   have H' := Aside0.mk H
   clear H
   have hnb20 := NB1_2.out
   have hnc20 := NB2_1.out
   have hcz21 := blk_cell BK1.out; have hfz21 := blk_frozen BK1.out
   have p437 : 0 ≤ (x7_1 : Int) := of_decide_eq_true (by assumption)
   have q437 : x7_1 < (l0_2.length : Int) := of_decide_eq_true (by assumption)
   obtain ⟨ad437, e437, hx437_0, hx437_1, hx437_2⟩ := at_T59 HR0_2.out x7_1 p437 q437
   cases e437
   replace hx437_0 := mHx HB hx437_0
   replace hx437_1 := mHx HB hx437_1
   replace hx437_2 := mHx HB hx437_2
   replace p437 := eq_true p437
   replace q437 := eq_true q437
   go_wp2_with (first | ((with_reducible refine gate_dst (N := 8) rfl ?_); (try (refine gate_guard (by rfl) ?_; dsimp only)); refine box_event rfl (N := 8) rfl (cs := #[.int .i64 0, .int .i64 0, .int .i64 0]) (t := 59) (by first | (go_simp; done) | (go_simp; rfl)) ?_; intro gb3 hg w22 hbox hb; have BK3 := Aside0.mk hbox; have GW3 := Aside0.mk ((by rw [hg]; exact (below_size (hO HB)) : w.heap.size ≤ gb3)); have GE3 := GW3; replace HB := mSx HB hb; have NB1_3 := mNe BK1 hg; have NB3_1 := mSy NB1_3; replace BK1 := mBb BK1 hb; have NB2_3 := mNe BK2 hg; have NB3_2 := mSy NB2_3; replace BK2 := mBb BK2 hb; clear hb hbox hg; have hnb23 := NB3_1.out; have hnc23 := NB1_3.out; have hnb24 := NB3_2.out; have hnc24 := NB2_3.out; have hcz25 := blk_cell BK3.out; have hfz25 := blk_frozen BK3.out; have hcz26 := blk_cell BK2.out; have hfz26 := blk_frozen BK2.out) | ((with_reducible refine gate_callee (f := 27) rfl ?_); refine goesL_ (some 25) rfl rfl Try.func27 (by kernel_rfl) rfl #[.slice A1_2 l1_2.length c1_2, .int .i64 ((rd_T59 l0_2 x7_1).f0)] rfl (mA2 rfl rfl) ?_; (with_reducible refine (dancestudioref50_has.calls k1 _ _ l1_2 ((rd_T59 l0_2 x7_1).f0) true _ (Kd.C_below HR1_2.out (hO HB)) HC1_2.out A8.out).mono ?_); rintro e w' ⟨rfl, ⟨nd, rfl⟩⟩; refine ⟨_, rfl, ?_⟩))
   go_roundg k1
   case measure => have := HK1.out; omega
   case rel => exact ⟨(wrap64 (x7_1 + 1)), rfl, H', ⟨by have := HK1.out; omega⟩, ⟨by refine blk_far ?_ NB1_3.out _; refine blk_far ?_ NB1_3.out _; refine blk_far ?_ NB1_3.out _; exact BK1.out⟩, ⟨by refine blk_far ?_ NB2_3.out _; refine blk_far ?_ NB2_3.out _; refine blk_far ?_ NB2_3.out _; exact BK2.out⟩, ⟨hO HB⟩⟩
mutual
def dancestudioref50_alone.j0 : Nat → Bool → List (S53) → List (S55) → List (S59) → Int → Int → Int → Int → ByteArray → Int → List Int → Option (Int)
 | 0, _, _, _, _, _, _, _, _, _, _, _ => none
 | k + 1, x35, x441000, x441001, x441002, x441003, x442000, x442001, x442002, x444000, x444001, x444002 => if x35 = true then (some 41) else (if x442002 < 0 then (dancestudioref50_alone.j1 k true x441000 x441001 x441002 x441003 x442000 x442001 x442002 x444000 x444001 x444002) else (dancestudioref50_alone.j1 k (decide (x442002 > (wrap64 (x441003 - x444001)))) x441000 x441001 x441002 x441003 x442000 x442001 x442002 x444000 x444001 x444002))
def dancestudioref50_alone.j1 : Nat → Bool → List (S53) → List (S55) → List (S59) → Int → Int → Int → Int → ByteArray → Int → List Int → Option (Int)
 | 0, _, _, _, _, _, _, _, _, _, _, _ => none
 | k + 1, x48, x441000, x441001, x441002, x441003, x442000, x442001, x442002, x444000, x444001, x444002 => if x48 = true then (some 1) else ((dancestudioref50_away.f k x441000 x441001 x441002 x441003 x444000 x444001 x444002 x442002).bind fun t445 => (if t445 = true then (some 42) else (some 0)))
end
def dancestudioref50_alone.f (k : Nat) (l0_0 : List (S53)) (l0_1 : List (S55)) (l0_2 : List (S59)) (a0_3 : Int) (a1_0 : Int) (a1_1 : Int) (a1_2 : Int) : Option (Int) := if 0 ≤ a1_0 then (if a1_0 < (l0_0.length : Int) then (if a1_1 < 0 then (dancestudioref50_alone.j0 k true l0_0 l0_1 l0_2 a0_3 a1_0 a1_1 a1_2 ((rd_T53 l0_0 a1_0).f0) ((rd_T53 l0_0 a1_0).f1) ((rd_T53 l0_0 a1_0).f2)) else (if a1_1 ≥ (l0_1.length : Int) then (dancestudioref50_alone.j0 k true l0_0 l0_1 l0_2 a0_3 a1_0 a1_1 a1_2 ((rd_T53 l0_0 a1_0).f0) ((rd_T53 l0_0 a1_0).f1) ((rd_T53 l0_0 a1_0).f2)) else (if 0 ≤ a1_1 then (if a1_1 < (l0_1.length : Int) then (dancestudioref50_alone.j0 k (decide (((rd_T55 l0_1 a1_1).f0) < (((rd_T53 l0_0 a1_0).f2).length : Int))) l0_0 l0_1 l0_2 a0_3 a1_0 a1_1 a1_2 ((rd_T53 l0_0 a1_0).f0) ((rd_T53 l0_0 a1_0).f1) ((rd_T53 l0_0 a1_0).f2)) else (none)) else (none)))) else (none)) else (none)
set_option maxHeartbeats 8000000 in
set_option maxRecDepth 100000 in
theorem dancestudioref50_alone.calls (k : Nat) (A0_0 : Option Addr) (c0_0 : Nat) (l0_0 : List (S53)) (A0_1 : Option Addr) (c0_1 : Nat) (l0_1 : List (S55)) (A0_2 : Option Addr) (c0_2 : Nat) (l0_2 : List (S59)) (a0_3 : Int) (a1_0 : Int) (a1_1 : Int) (a1_2 : Int) (r : Int) (w : World) (hr0_0 : Kd.C k53 w A0_0 l0_0.length l0_0) (hc0_0 : l0_0.length ≤ c0_0) (hr0_1 : Kd.C k55 w A0_1 l0_1.length l0_1) (hc0_1 : l0_1.length ≤ c0_1) (hr0_2 : Kd.C k59 w A0_2 l0_2.length l0_2) (hc0_2 : l0_2.length ≤ c0_2) (h : dancestudioref50_alone.f k l0_0 l0_1 l0_2 a0_3 a1_0 a1_1 a1_2 = some r) :
  Calls Try.prog 37 #[.agg #[.slice A0_0 l0_0.length c0_0, .slice A0_1 l0_1.length c0_1, .slice A0_2 l0_2.length c0_2, .int .i64 a0_3], .agg #[.int .i64 a1_0, .int .i64 a1_1, .int .i64 a1_2]] w fun e w' => e = .returned (.int .i64 r) ∧ Below w.heap.size w w' := by
 have hu30 := Try.underlying26
 have hu48 := Try.underlying48
 have hu53 := Try.underlying53
 have HR0_0 := Aside0.mk hr0_0
 have HC0_0 := Aside0.mk hc0_0
 clear hr0_0 hc0_0
 have HR0_1 := Aside0.mk hr0_1
 have HC0_1 := Aside0.mk hc0_1
 clear hr0_1 hc0_1
 have HR0_2 := Aside0.mk hr0_2
 have HC0_2 := Aside0.mk hc0_2
 clear hr0_2 hc0_2
 have HB := Aside0.mk (Below.refl w.heap.size w)
 have H := h
 unfold dancestudioref50_alone.f at H
 clear h
 obtain ⟨c3, H⟩ : (0 ≤ a1_0) ∧ _ := mIf H
 have c3b0 := decide_eq_true c3
 clear c3
 obtain ⟨c4, H⟩ : (a1_0 < (l0_0.length : Int)) ∧ _ := mIf H
 have c4b0 := decide_eq_true c4
 clear c4
 have HC5 := Aside0.mk H
 clear H
 go_enter Try.func37, Try.ntmps37
 go_upto_region 2 with (first | ((with_reducible refine gate_dst (N := 2) rfl ?_); (try (refine gate_guard (by rfl) ?_; dsimp only)); refine box_event rfl (N := 2) rfl (cs := #[.slice A0_0 l0_0.length c0_0, .slice A0_1 l0_1.length c0_1, .slice A0_2 l0_2.length c0_2, .int .i64 a0_3]) (t := 26) (by first | (go_simp; done) | (go_simp; rfl)) ?_; intro gb1 hg w6 hbox hb; have BK1 := Aside0.mk hbox; have GW1 := mGw HB hg; have GE1 := GW1; replace HB := mSt HB hb; clear hb hbox hg) | ((with_reducible refine gate_dst (N := 3) rfl ?_); (try (refine gate_guard (by rfl) ?_; dsimp only)); refine box_event rfl (N := 3) rfl (cs := #[.int .i64 a1_0, .int .i64 a1_1, .int .i64 a1_2]) (t := 48) (by first | (go_simp; done) | (go_simp; rfl)) ?_; intro gb2 hg w7 hbox hb; have BK2 := Aside0.mk hbox; have GW2 := mGw HB hg; have GE2 := GW2; replace HB := mSt HB hb; have NB1_2 := mNe BK1 hg; have NB2_1 := mSy NB1_2; replace BK1 := mBb BK1 hb; clear hb hbox hg; have hnb8 := NB1_2.out; have hnc8 := NB2_1.out; have hcz9 := blk_cell BK1.out; have hfz9 := blk_frozen BK1.out; have hcz10 := blk_cell BK2.out; have hfz10 := blk_frozen BK2.out; have p442 : 0 ≤ (a1_0 : Int) := of_decide_eq_true (by assumption); have q442 : a1_0 < (l0_0.length : Int) := of_decide_eq_true (by assumption); obtain ⟨ad442, A442_2, c442_2, e442, hx442_0, hx442_1, hx442_2, hl442_2, hi442_2⟩ := at_T53 HR0_0.out a1_0 p442 q442; cases e442; replace hx442_0 := mHx HB hx442_0; replace hx442_1 := mHx HB hx442_1; replace hx442_2 := mHx HB hx442_2; have HR442_2 := Aside0.mk hi442_2; have HC442_2 := Aside0.mk hl442_2; clear hi442_2 hl442_2; replace p442 := eq_true p442; replace q442 := eq_true q442) | ((with_reducible refine gate_dst (N := 5) rfl ?_); (try (refine gate_guard (by rfl) ?_; dsimp only)); refine box_event rfl (N := 5) rfl (cs := #[.string (⟨#[]⟩ : ByteArray), .int .i64 0, .slice none 0 0]) (t := 53) (by first | (go_simp; done) | (go_simp; rfl)) ?_; intro gb3 hg w11 hbox hb; have BK3 := Aside0.mk hbox; have GW3 := mGw HB hg; have GE3 := GW3; replace HB := mSt HB hb; have NB1_3 := mNe BK1 hg; have NB3_1 := mSy NB1_3; replace BK1 := mBb BK1 hb; have NB2_3 := mNe BK2 hg; have NB3_2 := mSy NB2_3; replace BK2 := mBb BK2 hb; clear hb hbox hg; have hnb12 := NB3_1.out; have hnc12 := NB1_3.out; have hnb13 := NB3_2.out; have hnc13 := NB2_3.out; have hcz14 := blk_cell BK3.out; have hfz14 := blk_frozen BK3.out))
 skip
 (try simp only [Act.put, List.setIfInBounds_toArray, List.set_cons_zero, List.set_cons_succ])
 go_cut [35] (fun v35 wc => ∃ (kq : Nat) (x35_4 : Bool), v35 = .bool x35_4 ∧ Aside0 (dancestudioref50_alone.j0 kq x35_4 l0_0 l0_1 l0_2 a0_3 a1_0 a1_1 a1_2 ((rd_T53 l0_0 a1_0).f0) ((rd_T53 l0_0 a1_0).f1) ((rd_T53 l0_0 a1_0).f2) = some r) ∧ Aside0 (kq ≤ k) ∧ Aside0 (wc.heap[gb1]? = some (.cells #[(.slice (some ad442) l0_0.length c0_0), (.slice A0_1 l0_1.length c0_1), (.slice A0_2 l0_2.length c0_2), .int .i64 a0_3] 26 (0, 0))) ∧ Aside0 (wc.heap[gb2]? = some (.cells #[.int .i64 a1_0, .int .i64 a1_1, .int .i64 a1_2] 48 (0, 0))) ∧ Aside0 (wc.heap[gb3]? = some (.cells #[.string ((rd_T53 l0_0 a1_0).f0), .int .i64 ((rd_T53 l0_0 a1_0).f1), (.slice A442_2 ((rd_T53 l0_0 a1_0).f2).length c442_2)] 53 (0, 0))) ∧ Aside0 (Below w.heap.size w wc))
 case first =>
  have H := HC5.out
  clear HC5
  by_cases c15 : a1_1 < 0
  ·
   rw [if_pos c15] at H
   have c15b0 := decide_eq_true c15
   clear c15
   (first | rw [c15b0] | (simp only [i64_w, i32_w]; rw [c15b0]) | skip)
   have H' := Aside0.mk H
   clear H
   have hnb16 := NB2_1.out
   have hnc16 := NB1_2.out
   have hnb17 := NB2_3.out
   have hnc17 := NB3_2.out
   have hcz18 := blk_cell BK2.out; have hfz18 := blk_frozen BK2.out
   go_wp2
   repeat (go_quiet (fail); try go_wp2)
   go_meet
   case rel => exact ⟨_, (true), rfl, H', ⟨by first | omega | exact Nat.le_refl _⟩, ⟨by refine blk_far ?_ NB1_3.out _; refine blk_far ?_ NB1_3.out _; refine blk_far ?_ NB1_3.out _; exact BK1.out⟩, ⟨by refine blk_far ?_ NB2_3.out _; refine blk_far ?_ NB2_3.out _; refine blk_far ?_ NB2_3.out _; exact BK2.out⟩, ⟨by refine blk_put (cs := #[.string ((rd_T53 l0_0 a1_0).f0), .int .i64 ((rd_T53 l0_0 a1_0).f1), .slice none 0 0]) ?_ 2 _ rfl; refine blk_put (cs := #[.string ((rd_T53 l0_0 a1_0).f0), .int .i64 0, .slice none 0 0]) ?_ 1 _ rfl; refine blk_put (cs := #[.string (⟨#[]⟩ : ByteArray), .int .i64 0, .slice none 0 0]) ?_ 0 _ rfl; exact BK3.out⟩, ⟨hO HB⟩⟩
  rw [if_neg c15] at H
  have c15b0 := decide_eq_false c15
  clear c15
  (first | rw [c15b0] | (simp only [i64_w, i32_w]; rw [c15b0]) | skip)
  by_cases c19 : a1_1 ≥ (l0_1.length : Int)
  ·
   rw [if_pos c19] at H
   have c19b0 := decide_eq_true c19
   clear c19
   have H' := Aside0.mk H
   clear H
   have hnb20 := NB2_1.out
   have hnc20 := NB1_2.out
   have hnb21 := NB2_3.out
   have hnc21 := NB3_2.out
   have hcz22 := blk_cell BK2.out; have hfz22 := blk_frozen BK2.out
   have hnb23 := NB1_3.out
   have hnc23 := NB3_1.out
   have hcz24 := blk_cell BK1.out; have hfz24 := blk_frozen BK1.out
   go_wp2
   repeat (go_quiet (fail); try go_wp2)
   go_meet
   case rel => exact ⟨_, (true), rfl, H', ⟨by first | omega | exact Nat.le_refl _⟩, ⟨by refine blk_far ?_ NB1_3.out _; refine blk_far ?_ NB1_3.out _; refine blk_far ?_ NB1_3.out _; exact BK1.out⟩, ⟨by refine blk_far ?_ NB2_3.out _; refine blk_far ?_ NB2_3.out _; refine blk_far ?_ NB2_3.out _; exact BK2.out⟩, ⟨by refine blk_put (cs := #[.string ((rd_T53 l0_0 a1_0).f0), .int .i64 ((rd_T53 l0_0 a1_0).f1), .slice none 0 0]) ?_ 2 _ rfl; refine blk_put (cs := #[.string ((rd_T53 l0_0 a1_0).f0), .int .i64 0, .slice none 0 0]) ?_ 1 _ rfl; refine blk_put (cs := #[.string (⟨#[]⟩ : ByteArray), .int .i64 0, .slice none 0 0]) ?_ 0 _ rfl; exact BK3.out⟩, ⟨hO HB⟩⟩
  rw [if_neg c19] at H
  have c19b0 := decide_eq_false c19
  clear c19
  obtain ⟨c25, H⟩ : (0 ≤ a1_1) ∧ _ := mIf H
  have c25b0 := decide_eq_true c25
  clear c25
  obtain ⟨c26, H⟩ : (a1_1 < (l0_1.length : Int)) ∧ _ := mIf H
  have c26b0 := decide_eq_true c26
  clear c26
  have H' := Aside0.mk H
  clear H
  have hnb27 := NB2_1.out
  have hnc27 := NB1_2.out
  have hnb28 := NB2_3.out
  have hnc28 := NB3_2.out
  have hcz29 := blk_cell BK2.out; have hfz29 := blk_frozen BK2.out
  have hnb30 := NB1_3.out
  have hnc30 := NB3_1.out
  have hcz31 := blk_cell BK1.out; have hfz31 := blk_frozen BK1.out
  have p444 : 0 ≤ (a1_1 : Int) := of_decide_eq_true (by assumption)
  have q444 : a1_1 < (l0_1.length : Int) := of_decide_eq_true (by assumption)
  obtain ⟨ad444, e444, hx444_0⟩ := at_T55 HR0_1.out a1_1 p444 q444
  cases e444
  have hn444_0 : ad444.block ≠ gb3 := Nat.ne_of_lt (Nat.lt_of_lt_of_le (by have := World.block_lt_of_cell? _ _ hx444_0; first | rwa [add_block] at this | exact this) GW3.out)
  have hn444_1 : ad444.block ≠ gb3 := Nat.ne_of_lt (Nat.lt_of_lt_of_le (by have := World.block_lt_of_cell? _ _ hx444_0; first | rwa [add_block] at this | exact this) GW3.out)
  have hn444_2 : ad444.block ≠ gb3 := Nat.ne_of_lt (Nat.lt_of_lt_of_le (by have := World.block_lt_of_cell? _ _ hx444_0; first | rwa [add_block] at this | exact this) GW3.out)
  replace hx444_0 := mHx HB hx444_0
  replace hx444_0 := (cell_far (p := ⟨gb3, 0, none⟩) (by first | (rw [add_block]; exact hn444_0) | (show (Addr.add _ _).block ≠ _; rw [add_block]; exact hn444_0) | exact hn444_0) (.string ((rd_T53 l0_0 a1_0).f0))).trans hx444_0
  replace hx444_0 := (cell_far (p := ⟨gb3, 1, none⟩) (by first | (rw [add_block]; exact hn444_1) | (show (Addr.add _ _).block ≠ _; rw [add_block]; exact hn444_1) | exact hn444_1) (.int .i64 ((rd_T53 l0_0 a1_0).f1))).trans hx444_0
  replace hx444_0 := (cell_far (p := ⟨gb3, 2, none⟩) (by first | (rw [add_block]; exact hn444_2) | (show (Addr.add _ _).block ≠ _; rw [add_block]; exact hn444_2) | exact hn444_2) (.slice A442_2 ((rd_T53 l0_0 a1_0).f2).length c442_2)).trans hx444_0
  (try have hy444_0 := fun (n_ : Nat) => (show (((((w11.drewN n_).setCell ⟨gb3, 0, none⟩ (.string ((rd_T53 l0_0 a1_0).f0))).setCell ⟨gb3, 1, none⟩ (.int .i64 ((rd_T53 l0_0 a1_0).f1))).setCell ⟨gb3, 2, none⟩ (.slice A442_2 ((rd_T53 l0_0 a1_0).f2).length c442_2))).cell? _ = some _ from hx444_0))
  clear hn444_0; clear hn444_1; clear hn444_2
  replace p444 := eq_true p444
  replace q444 := eq_true q444
  have hcz32 := blk_cell BK3.out; have hfz32 := blk_frozen BK3.out
  go_wp2
  repeat (go_quiet (fail); try go_wp2)
  go_meet
  case rel => exact ⟨_, (decide (((rd_T55 l0_1 a1_1).f0) < (((rd_T53 l0_0 a1_0).f2).length : Int))), rfl, H', ⟨by first | omega | exact Nat.le_refl _⟩, ⟨by refine blk_far ?_ NB1_3.out _; refine blk_far ?_ NB1_3.out _; refine blk_far ?_ NB1_3.out _; exact BK1.out⟩, ⟨by refine blk_far ?_ NB2_3.out _; refine blk_far ?_ NB2_3.out _; refine blk_far ?_ NB2_3.out _; exact BK2.out⟩, ⟨by refine blk_put (cs := #[.string ((rd_T53 l0_0 a1_0).f0), .int .i64 ((rd_T53 l0_0 a1_0).f1), .slice none 0 0]) ?_ 2 _ rfl; refine blk_put (cs := #[.string ((rd_T53 l0_0 a1_0).f0), .int .i64 0, .slice none 0 0]) ?_ 1 _ rfl; refine blk_put (cs := #[.string (⟨#[]⟩ : ByteArray), .int .i64 0, .slice none 0 0]) ?_ 0 _ rfl; exact BK3.out⟩, ⟨hO HB⟩⟩
 case rest =>
  clear HC5; try clear c1; try clear c2; try clear p2; try clear c3; try clear c3b0; try clear c4; try clear c4b0; try clear p4; try clear q4; try clear hx4; try clear c8; try clear c12; try clear c13; try clear c15; try clear c15b0; try clear c16; try clear c17; try clear c19; try clear c19b0; try clear c20; try clear c21; try clear c23; try clear c25; try clear c25b0; try clear c26; try clear c26b0; try clear c27; try clear c28; try clear c30; try clear hcz10_0; try clear hcz10_1; try clear hcz10_2; try clear hcz14_0; try clear hcz14_1; try clear hcz14_2; try clear hcz18_0; try clear hcz18_1; try clear hcz18_2; try clear hcz22_0; try clear hcz22_1; try clear hcz22_2; try clear hcz24_0; try clear hcz24_1; try clear hcz24_2; try clear hcz24_3; try clear hcz29_0; try clear hcz29_1; try clear hcz29_2; try clear hcz31_0; try clear hcz31_1; try clear hcz31_2; try clear hcz31_3; try clear hcz32_0; try clear hcz32_1; try clear hcz32_2; try clear hcz9_0; try clear hcz9_1; try clear hcz9_2; try clear hcz9_3; try clear hfz10_0; try clear hfz10_1; try clear hfz10_2; try clear hfz14_0; try clear hfz14_1; try clear hfz14_2; try clear hfz18_0; try clear hfz18_1; try clear hfz18_2; try clear hfz22_0; try clear hfz22_1; try clear hfz22_2; try clear hfz24_0; try clear hfz24_1; try clear hfz24_2; try clear hfz24_3; try clear hfz29_0; try clear hfz29_1; try clear hfz29_2; try clear hfz31_0; try clear hfz31_1; try clear hfz31_2; try clear hfz31_3; try clear hfz32_0; try clear hfz32_1; try clear hfz32_2; try clear hfz9_0; try clear hfz9_1; try clear hfz9_2; try clear hfz9_3; try clear hx442_0; try clear hx442_1; try clear hx442_2; try clear hx444_0; try clear p442; try clear p444; try clear q442; try clear q444
  obtain ⟨kq, x35_4, rfl, HA, HJ4, BK1, BK2, BK3, HB⟩ := hcut
  cases kq with
  | zero => exact absurd HA.out (by simp [dancestudioref50_alone.j0])
  | succ kj4 =>
   have H := HA.out
   clear HA
   simp only [dancestudioref50_alone.j0] at H
   by_cases c33 : x35_4 = true
   ·
    subst c33
    rw [if_pos rfl] at H
    obtain rfl := Option.some.inj H
    go_wp2
    repeat (go_quiet (fail); try go_wp2)
    go_ret
    exact ⟨rfl, HB.out⟩
   replace c33 := Bool.eq_false_iff.mpr c33
   subst c33
   rw [if_neg (show ¬ (false = true) by decide)] at H
   have HC34 := Aside0.mk H
   clear H
   go_upto_region 4 with (fail)
   repeat (go_quiet (fail); go_upto_region 4 with (fail))
   go_cut [48] (fun v48 wc => ∃ (kq : Nat) (x48_33 : Bool), v48 = .bool x48_33 ∧ Aside0 (dancestudioref50_alone.j1 kq x48_33 l0_0 l0_1 l0_2 a0_3 a1_0 a1_1 a1_2 ((rd_T53 l0_0 a1_0).f0) ((rd_T53 l0_0 a1_0).f1) ((rd_T53 l0_0 a1_0).f2) = some r) ∧ Aside0 (kq ≤ kj4) ∧ Aside0 (wc.heap[gb1]? = some (.cells #[(.slice (some ad442) l0_0.length c0_0), (.slice A0_1 l0_1.length c0_1), (.slice A0_2 l0_2.length c0_2), .int .i64 a0_3] 26 (0, 0))) ∧ Aside0 (wc.heap[gb2]? = some (.cells #[.int .i64 a1_0, .int .i64 a1_1, .int .i64 a1_2] 48 (0, 0))) ∧ Aside0 (wc.heap[gb3]? = some (.cells #[.string ((rd_T53 l0_0 a1_0).f0), .int .i64 ((rd_T53 l0_0 a1_0).f1), (.slice A442_2 ((rd_T53 l0_0 a1_0).f2).length c442_2)] 53 (0, 0))) ∧ Aside0 (Below w.heap.size w wc))
   case first =>
    have H := HC34.out
    clear HC34
    by_cases c35 : a1_2 < 0
    ·
     rw [if_pos c35] at H
     have c35b0 := decide_eq_true c35
     clear c35
     (first | rw [c35b0] | (simp only [i64_w, i32_w]; rw [c35b0]) | skip)
     have H' := Aside0.mk H
     clear H
     have hnb36 := NB2_1.out
     have hnc36 := NB1_2.out
     have hnb37 := NB2_3.out
     have hnc37 := NB3_2.out
     have hcz38 := blk_cell BK2.out; have hfz38 := blk_frozen BK2.out
     go_wp2
     repeat (go_quiet (fail); try go_wp2)
     go_meet
     case rel => exact ⟨_, (true), rfl, H', ⟨by have := HJ4.out; first | omega | exact Nat.le_refl _⟩, ⟨BK1.out⟩, ⟨BK2.out⟩, ⟨BK3.out⟩, ⟨HB.out⟩⟩
    rw [if_neg c35] at H
    have c35b0 := decide_eq_false c35
    clear c35
    (first | rw [c35b0] | (simp only [i64_w, i32_w]; rw [c35b0]) | skip)
    have H' := Aside0.mk H
    clear H
    have hnb39 := NB2_1.out
    have hnc39 := NB1_2.out
    have hnb40 := NB2_3.out
    have hnc40 := NB3_2.out
    have hcz41 := blk_cell BK2.out; have hfz41 := blk_frozen BK2.out
    have hnb42 := NB1_3.out
    have hnc42 := NB3_1.out
    have hcz43 := blk_cell BK1.out; have hfz43 := blk_frozen BK1.out; have hcz44 := blk_cell BK3.out; have hfz44 := blk_frozen BK3.out
    go_wp2
    repeat (go_quiet (fail); try go_wp2)
    go_meet
    case rel => exact ⟨_, (decide (a1_2 > (wrap64 (a0_3 - ((rd_T53 l0_0 a1_0).f1))))), rfl, H', ⟨by have := HJ4.out; first | omega | exact Nat.le_refl _⟩, ⟨BK1.out⟩, ⟨BK2.out⟩, ⟨BK3.out⟩, ⟨HB.out⟩⟩
   case rest =>
    clear HC34; try clear c1; try clear c2; try clear p2; try clear c3; try clear c3b0; try clear c4; try clear c4b0; try clear p4; try clear q4; try clear hx4; try clear p6; try clear c8; try clear c12; try clear c13; try clear c15; try clear c15b0; try clear c16; try clear c17; try clear c19; try clear c19b0; try clear c20; try clear c21; try clear c23; try clear c25; try clear c25b0; try clear c26; try clear c26b0; try clear c27; try clear c28; try clear c30; try clear c33; try clear c35; try clear c35b0; try clear c36; try clear c37; try clear c39; try clear c40; try clear c42; try clear c44; try clear p44; try clear q44; try clear hx44; try clear hcz10_0; try clear hcz10_1; try clear hcz10_2; try clear hcz14_0; try clear hcz14_1; try clear hcz14_2; try clear hcz18_0; try clear hcz18_1; try clear hcz18_2; try clear hcz22_0; try clear hcz22_1; try clear hcz22_2; try clear hcz24_0; try clear hcz24_1; try clear hcz24_2; try clear hcz24_3; try clear hcz29_0; try clear hcz29_1; try clear hcz29_2; try clear hcz31_0; try clear hcz31_1; try clear hcz31_2; try clear hcz31_3; try clear hcz32_0; try clear hcz32_1; try clear hcz32_2; try clear hcz38_0; try clear hcz38_1; try clear hcz38_2; try clear hcz41_0; try clear hcz41_1; try clear hcz41_2; try clear hcz43_0; try clear hcz43_1; try clear hcz43_2; try clear hcz43_3; try clear hcz44_0; try clear hcz44_1; try clear hcz44_2; try clear hcz9_0; try clear hcz9_1; try clear hcz9_2; try clear hcz9_3; try clear hfz10_0; try clear hfz10_1; try clear hfz10_2; try clear hfz14_0; try clear hfz14_1; try clear hfz14_2; try clear hfz18_0; try clear hfz18_1; try clear hfz18_2; try clear hfz22_0; try clear hfz22_1; try clear hfz22_2; try clear hfz24_0; try clear hfz24_1; try clear hfz24_2; try clear hfz24_3; try clear hfz29_0; try clear hfz29_1; try clear hfz29_2; try clear hfz31_0; try clear hfz31_1; try clear hfz31_2; try clear hfz31_3; try clear hfz32_0; try clear hfz32_1; try clear hfz32_2; try clear hfz38_0; try clear hfz38_1; try clear hfz38_2; try clear hfz41_0; try clear hfz41_1; try clear hfz41_2; try clear hfz43_0; try clear hfz43_1; try clear hfz43_2; try clear hfz43_3; try clear hfz44_0; try clear hfz44_1; try clear hfz44_2; try clear hfz9_0; try clear hfz9_1; try clear hfz9_2; try clear hfz9_3; try clear hx442_0; try clear hx442_1; try clear hx442_2; try clear hx444_0; try clear p442; try clear p444; try clear q442; try clear q444
    obtain ⟨kq, x48_33, rfl, HA, HJ33, BK1, BK2, BK3, HB⟩ := hcut
    cases kq with
    | zero => exact absurd HA.out (by simp [dancestudioref50_alone.j1])
    | succ kj33 =>
     have H := HA.out
     clear HA
     simp only [dancestudioref50_alone.j1] at H
     by_cases c45 : x48_33 = true
     ·
      subst c45
      rw [if_pos rfl] at H
      obtain rfl := Option.some.inj H
      go_wp2
      repeat (go_quiet (fail); try go_wp2)
      go_ret
      exact ⟨rfl, HB.out⟩
     replace c45 := Bool.eq_false_iff.mpr c45
     subst c45
     rw [if_neg (show ¬ (false = true) by decide)] at H
     replace H := Option.bind_eq_some_iff.mp H
     obtain ⟨t445, A460, H⟩ := H
     try dsimp only at H
     have A46 := Aside0.mk A460
     clear A460
     by_cases c47 : t445 = true
     ·
      subst c47
      rw [if_pos rfl] at H
      obtain rfl := Option.some.inj H
      have hnb48 := NB1_2.out
      have hnc48 := NB2_1.out
      have hnb49 := NB1_3.out
      have hnc49 := NB3_1.out
      have hcz50 := blk_cell BK1.out; have hfz50 := blk_frozen BK1.out
      have hnb51 := NB3_2.out
      have hnc51 := NB2_3.out
      have hcz52 := blk_cell BK3.out; have hfz52 := blk_frozen BK3.out; have hcz53 := blk_cell BK2.out; have hfz53 := blk_frozen BK2.out
      go_wp2_with (first | (go_at_call 52; (with_reducible refine (dancestudioref50_away.calls kj33 _ _ l0_0 _ _ l0_1 _ _ l0_2 a0_3 ((rd_T53 l0_0 a1_0).f0) ((rd_T53 l0_0 a1_0).f1) _ _ ((rd_T53 l0_0 a1_0).f2) a1_2 true _ (Kd.C_below HR0_0.out HB.out) HC0_0.out (Kd.C_below HR0_1.out HB.out) HC0_1.out (Kd.C_below HR0_2.out HB.out) HC0_2.out (Kd.C_below HR442_2.out HB.out) HC442_2.out A46.out).mono ?_); rintro e w54 ⟨rfl, hb⟩; replace BK1 := mBb BK1 hb; replace BK2 := mBb BK2 hb; replace BK3 := mBb BK3 hb; replace HB := mSt HB hb; (try clear hb)))
      repeat (go_quiet (first | (go_at_call 52; (with_reducible refine (dancestudioref50_away.calls kj33 _ _ l0_0 _ _ l0_1 _ _ l0_2 a0_3 ((rd_T53 l0_0 a1_0).f0) ((rd_T53 l0_0 a1_0).f1) _ _ ((rd_T53 l0_0 a1_0).f2) a1_2 true _ (Kd.C_below HR0_0.out HB.out) HC0_0.out (Kd.C_below HR0_1.out HB.out) HC0_1.out (Kd.C_below HR0_2.out HB.out) HC0_2.out (Kd.C_below HR442_2.out HB.out) HC442_2.out A46.out).mono ?_); rintro e w54 ⟨rfl, hb⟩; replace BK1 := mBb BK1 hb; replace BK2 := mBb BK2 hb; replace BK3 := mBb BK3 hb; replace HB := mSt HB hb; (try clear hb))); try go_wp2_with (first | (go_at_call 52; (with_reducible refine (dancestudioref50_away.calls kj33 _ _ l0_0 _ _ l0_1 _ _ l0_2 a0_3 ((rd_T53 l0_0 a1_0).f0) ((rd_T53 l0_0 a1_0).f1) _ _ ((rd_T53 l0_0 a1_0).f2) a1_2 true _ (Kd.C_below HR0_0.out HB.out) HC0_0.out (Kd.C_below HR0_1.out HB.out) HC0_1.out (Kd.C_below HR0_2.out HB.out) HC0_2.out (Kd.C_below HR442_2.out HB.out) HC442_2.out A46.out).mono ?_); rintro e w54 ⟨rfl, hb⟩; replace BK1 := mBb BK1 hb; replace BK2 := mBb BK2 hb; replace BK3 := mBb BK3 hb; replace HB := mSt HB hb; (try clear hb))))
      go_ret
      exact ⟨rfl, HB.out⟩
     replace c47 := Bool.eq_false_iff.mpr c47
     subst c47
     rw [if_neg (show ¬ (false = true) by decide)] at H
     obtain rfl := Option.some.inj H
     have hnb55 := NB1_2.out
     have hnc55 := NB2_1.out
     have hnb56 := NB1_3.out
     have hnc56 := NB3_1.out
     have hcz57 := blk_cell BK1.out; have hfz57 := blk_frozen BK1.out
     have hnb58 := NB3_2.out
     have hnc58 := NB2_3.out
     have hcz59 := blk_cell BK3.out; have hfz59 := blk_frozen BK3.out; have hcz60 := blk_cell BK2.out; have hfz60 := blk_frozen BK2.out
     go_wp2_with (first | (go_at_call 52; (with_reducible refine (dancestudioref50_away.calls kj33 _ _ l0_0 _ _ l0_1 _ _ l0_2 a0_3 ((rd_T53 l0_0 a1_0).f0) ((rd_T53 l0_0 a1_0).f1) _ _ ((rd_T53 l0_0 a1_0).f2) a1_2 false _ (Kd.C_below HR0_0.out HB.out) HC0_0.out (Kd.C_below HR0_1.out HB.out) HC0_1.out (Kd.C_below HR0_2.out HB.out) HC0_2.out (Kd.C_below HR442_2.out HB.out) HC442_2.out A46.out).mono ?_); rintro e w61 ⟨rfl, hb⟩; replace BK1 := mBb BK1 hb; replace BK2 := mBb BK2 hb; replace BK3 := mBb BK3 hb; replace HB := mSt HB hb; (try clear hb)))
     repeat (go_quiet (first | (go_at_call 52; (with_reducible refine (dancestudioref50_away.calls kj33 _ _ l0_0 _ _ l0_1 _ _ l0_2 a0_3 ((rd_T53 l0_0 a1_0).f0) ((rd_T53 l0_0 a1_0).f1) _ _ ((rd_T53 l0_0 a1_0).f2) a1_2 false _ (Kd.C_below HR0_0.out HB.out) HC0_0.out (Kd.C_below HR0_1.out HB.out) HC0_1.out (Kd.C_below HR0_2.out HB.out) HC0_2.out (Kd.C_below HR442_2.out HB.out) HC442_2.out A46.out).mono ?_); rintro e w61 ⟨rfl, hb⟩; replace BK1 := mBb BK1 hb; replace BK2 := mBb BK2 hb; replace BK3 := mBb BK3 hb; replace HB := mSt HB hb; (try clear hb))); try go_wp2_with (first | (go_at_call 52; (with_reducible refine (dancestudioref50_away.calls kj33 _ _ l0_0 _ _ l0_1 _ _ l0_2 a0_3 ((rd_T53 l0_0 a1_0).f0) ((rd_T53 l0_0 a1_0).f1) _ _ ((rd_T53 l0_0 a1_0).f2) a1_2 false _ (Kd.C_below HR0_0.out HB.out) HC0_0.out (Kd.C_below HR0_1.out HB.out) HC0_1.out (Kd.C_below HR0_2.out HB.out) HC0_2.out (Kd.C_below HR442_2.out HB.out) HC442_2.out A46.out).mono ?_); rintro e w61 ⟨rfl, hb⟩; replace BK1 := mBb BK1 hb; replace BK2 := mBb BK2 hb; replace BK3 := mBb BK3 hb; replace HB := mSt HB hb; (try clear hb))))
     go_ret
     exact ⟨rfl, HB.out⟩
def dancestudioref50_end.l0 : Nat → List (S48) → Int → Int → List (S53) → List (S55) → List (S59) → Int → Option (Int)
 | 0, _, _, _, _, _, _, _ => none
 | k + 1, x1, x5, x6, x472000, x472001, x472002, x472003 => if x6 < (x1.length : Int) then (if 0 ≤ x6 then (if 0 ≤ ((rd_T48 x1 x6).f0) then (if ((rd_T48 x1 x6).f0) < (x472000.length : Int) then (dancestudioref50_end.l0 k x1 (mx x5 (wrap64 (((rd_T48 x1 x6).f2) + ((rd_T53 x472000 ((rd_T48 x1 x6).f0)).f1)))) (wrap64 (x6 + 1)) x472000 x472001 x472002 x472003) else (none)) else (none)) else (none)) else (some x5)
def dancestudioref50_end.f (k : Nat) (l0_0 : List (S53)) (l0_1 : List (S55)) (l0_2 : List (S59)) (a0_3 : Int) (l1 : List (S48)) : Option (Int) := dancestudioref50_end.l0 k l1 0 0 l0_0 l0_1 l0_2 a0_3
set_option maxHeartbeats 8000000 in
set_option maxRecDepth 100000 in
theorem dancestudioref50_end.calls (k : Nat) (A0_0 : Option Addr) (c0_0 : Nat) (l0_0 : List (S53)) (A0_1 : Option Addr) (c0_1 : Nat) (l0_1 : List (S55)) (A0_2 : Option Addr) (c0_2 : Nat) (l0_2 : List (S59)) (a0_3 : Int) (A1 : Option Addr) (c1 : Nat) (l1 : List (S48)) (r : Int) (w : World) (hr0_0 : Kd.C k53 w A0_0 l0_0.length l0_0) (hc0_0 : l0_0.length ≤ c0_0) (hr0_1 : Kd.C k55 w A0_1 l0_1.length l0_1) (hc0_1 : l0_1.length ≤ c0_1) (hr0_2 : Kd.C k59 w A0_2 l0_2.length l0_2) (hc0_2 : l0_2.length ≤ c0_2) (hr1 : Kd.C k48 w A1 l1.length l1) (hc1 : l1.length ≤ c1) (h : dancestudioref50_end.f k l0_0 l0_1 l0_2 a0_3 l1 = some r) :
  Calls Try.prog 33 #[.agg #[.slice A0_0 l0_0.length c0_0, .slice A0_1 l0_1.length c0_1, .slice A0_2 l0_2.length c0_2, .int .i64 a0_3], .slice A1 l1.length c1] w fun e w' => e = .returned (.int .i64 r) ∧ Below w.heap.size w w' := by
 have hu30 := Try.underlying26
 have HR0_0 := Aside0.mk hr0_0
 have HC0_0 := Aside0.mk hc0_0
 clear hr0_0 hc0_0
 have HR0_1 := Aside0.mk hr0_1
 have HC0_1 := Aside0.mk hc0_1
 clear hr0_1 hc0_1
 have HR0_2 := Aside0.mk hr0_2
 have HC0_2 := Aside0.mk hc0_2
 clear hr0_2 hc0_2
 have HR1 := Aside0.mk hr1
 have HC1 := Aside0.mk hc1
 clear hr1 hc1
 have HB := Aside0.mk (Below.refl w.heap.size w)
 have H := h
 unfold dancestudioref50_end.f at H
 clear h
 have H' := Aside0.mk H
 clear H
 go_enter Try.func33, Try.ntmps33
 go_wp2_with (first | ((with_reducible refine gate_dst (N := 2) rfl ?_); refine box_event rfl (N := 2) rfl (cs := #[.slice A0_0 l0_0.length c0_0, .slice A0_1 l0_1.length c0_1, .slice A0_2 l0_2.length c0_2, .int .i64 a0_3]) (t := 26) (by first | (go_simp; done) | (go_simp; rfl)) ?_; intro gb1 hg w3 hbox hb; have BK1 := Aside0.mk hbox; have GW1 := mGw HB hg; have GE1 := GW1; replace HB := mSt HB hb; clear hb hbox hg))
 skip
 go_loopg [5, 6] k (fun kq v5 v6 w' => ∃ (x5_1 : Int) (x6_1 : Int), v5 = .int .i64 x5_1 ∧ v6 = .int .i64 x6_1 ∧ Aside0 (dancestudioref50_end.l0 kq l1 x5_1 x6_1 l0_0 l0_1 l0_2 a0_3 = some r) ∧ Aside0 (kq ≤ k) ∧ Aside0 (w'.heap[gb1]? = some (.cells #[(.slice A0_0 l0_0.length c0_0), (.slice A0_1 l0_1.length c0_1), (.slice A0_2 l0_2.length c0_2), .int .i64 a0_3] 26 (0, 0))) ∧ Aside0 (Below w.heap.size w w'))
 case atStart => exact ⟨(0), (0), rfl, rfl, H', ⟨Nat.le_refl _⟩, ⟨BK1.out⟩, ⟨HB.out⟩⟩
 case round =>
  clear H'
  skip
  obtain ⟨x5_1, x6_1, rfl, rfl, HA, HK1, BK1, HB⟩ := hrel
  cases gk with
  | zero => exact absurd HA.out (by simp [dancestudioref50_end.l0])
  | succ k1 =>
   have H := HA.out
   clear HA
   simp only [dancestudioref50_end.l0] at H
   by_cases c4 : x6_1 < (l1.length : Int)
   rotate_left
   ·
    rw [if_neg c4] at H
    have c4b0 := decide_eq_false c4
    clear c4
    obtain rfl := Option.some.inj H
    go_wp2
    repeat (go_quiet (fail); try go_wp2)
    go_ret
    exact ⟨rfl, HB.out⟩
   rw [if_pos c4] at H
   have c4b0 := decide_eq_true c4
   clear c4
   obtain ⟨c5, H⟩ : (0 ≤ x6_1) ∧ _ := mIf H
   have c5b0 := decide_eq_true c5
   clear c5
   obtain ⟨c6, H⟩ : (0 ≤ ((rd_T48 l1 x6_1).f0)) ∧ _ := mIf H
   have c6b0 := decide_eq_true c6
   clear c6
   obtain ⟨c7, H⟩ : (((rd_T48 l1 x6_1).f0) < (l0_0.length : Int)) ∧ _ := mIf H
   have c7b0 := decide_eq_true c7
   clear c7
   obtain ⟨ji8, hji8⟩ : ∃ j_ : Int, (mx x5_1 (wrap64 (((rd_T48 l1 x6_1).f2) + ((rd_T53 l0_0 ((rd_T48 l1 x6_1).f0)).f1)))) = j_ := ⟨_, rfl⟩
   replace H : (dancestudioref50_end.l0 k1 l1 ji8 (wrap64 (x6_1 + 1)) l0_0 l0_1 l0_2 a0_3) = some r := by first | (rw [hji8] at H; exact H) | (simp only [hji8] at H ⊢; exact H)
   have hji8_ : (if x5_1 < (wrap64 (((rd_T48 l1 x6_1).f2) + ((rd_T53 l0_0 ((rd_T48 l1 x6_1).f0)).f1))) then (wrap64 (((rd_T48 l1 x6_1).f2) + ((rd_T53 l0_0 ((rd_T48 l1 x6_1).f0)).f1))) else x5_1) = ji8 := hji8
   have H' := Aside0.mk H
   clear H
   have p472 : 0 ≤ (x6_1 : Int) := of_decide_eq_true (by assumption)
   have q472 : x6_1 < (l1.length : Int) := of_decide_eq_true (by assumption)
   obtain ⟨ad472, e472, hx472_0, hx472_1, hx472_2⟩ := at_T48 HR1.out x6_1 p472 q472
   cases e472
   replace hx472_0 := mHx HB hx472_0
   replace hx472_1 := mHx HB hx472_1
   replace hx472_2 := mHx HB hx472_2
   replace p472 := eq_true p472
   replace q472 := eq_true q472
   have hcz9 := blk_cell BK1.out; have hfz9 := blk_frozen BK1.out
   have p473 : 0 ≤ (x6_1 : Int) := of_decide_eq_true (by assumption)
   have q473 : x6_1 < (l1.length : Int) := of_decide_eq_true (by assumption)
   obtain ⟨ad473, e473, hx473_0, hx473_1, hx473_2⟩ := at_T48 HR1.out x6_1 p473 q473
   obtain rfl : ad472 = ad473 := (by injection e473)
   replace hx473_0 := mHx HB hx473_0
   replace hx473_1 := mHx HB hx473_1
   replace hx473_2 := mHx HB hx473_2
   replace p473 := eq_true p473
   replace q473 := eq_true q473
   have p474 : 0 ≤ (((rd_T48 l1 x6_1).f0) : Int) := of_decide_eq_true (by assumption)
   have q474 : ((rd_T48 l1 x6_1).f0) < (l0_0.length : Int) := of_decide_eq_true (by assumption)
   obtain ⟨ad474, A474_2, c474_2, e474, hx474_0, hx474_1, hx474_2, hl474_2, hi474_2⟩ := at_T53 HR0_0.out ((rd_T48 l1 x6_1).f0) p474 q474
   cases e474
   replace hx474_0 := mHx HB hx474_0
   replace hx474_1 := mHx HB hx474_1
   replace hx474_2 := mHx HB hx474_2
   have HR474_2 := Aside0.mk hi474_2
   have HC474_2 := Aside0.mk hl474_2
   clear hi474_2 hl474_2
   replace p474 := eq_true p474
   replace q474 := eq_true q474
   go_wp2
   repeat (go_quiet (fail); try go_wp2)
   go_roundg k1
   case measure => have := HK1.out; omega
   case rel => exact ⟨(ji8), (wrap64 (x6_1 + 1)), (by first | rfl | (simp; done) | (simp only [← hji8] <;> (first | rfl | simp)) | (simp [*]; done)), rfl, H', ⟨by have := HK1.out; omega⟩, ⟨BK1.out⟩, ⟨hO HB⟩⟩
mutual
def dancestudioref50_crowded.l0 : Nat → Int → Int → List (S53) → List (S55) → List (S59) → Int → Option (Bool)
 | 0, _, _, _, _, _, _ => none
 | k + 1, x1, x5, x490000, x490001, x490002, x490003 => if x5 < (x490000.length : Int) then (if 0 ≤ x5 then (dancestudioref50_crowded.l1 k x1 x5 (((rd_T53 x490000 x5).f2).length : Int) 0 0 0 x490000 x490001 x490002 x490003) else (none)) else (some false)
def dancestudioref50_crowded.l1 : Nat → Int → Int → Int → Int → Int → Int → List (S53) → List (S55) → List (S59) → Int → Option (Bool)
 | 0, _, _, _, _, _, _, _, _, _, _ => none
 | k + 1, x1, x5, x6, x7, x8, x9, x490000, x490001, x490002, x490003 => if x9 < (x490001.length : Int) then (if 0 ≤ x9 then (if ((rd_T55 x490001 x9).f0) ≥ x6 then (dancestudioref50_crowded.l1 k x1 x5 x6 (wrap64 (x7 + x1)) x8 (wrap64 (x9 + 1)) x490000 x490001 x490002 x490003) else (dancestudioref50_crowded.l1 k x1 x5 x6 x7 x8 (wrap64 (x9 + 1)) x490000 x490001 x490002 x490003)) else (none)) else (dancestudioref50_crowded.l2 k x1 x5 x6 x7 x8 0 x490000 x490001 x490002 x490003)
def dancestudioref50_crowded.l2 : Nat → Int → Int → Int → Int → Int → Int → List (S53) → List (S55) → List (S59) → Int → Option (Bool)
 | 0, _, _, _, _, _, _, _, _, _, _ => none
 | k + 1, x1, x5, x6, x7, x8, x10, x490000, x490001, x490002, x490003 => if x10 < (x490000.length : Int) then (if 0 ≤ x10 then (if (((rd_T53 x490000 x10).f2).length : Int) ≥ x6 then (dancestudioref50_crowded.l2 k x1 x5 x6 x7 (wrap64 (x8 + ((rd_T53 x490000 x10).f1))) (wrap64 (x10 + 1)) x490000 x490001 x490002 x490003) else (dancestudioref50_crowded.l2 k x1 x5 x6 x7 x8 (wrap64 (x10 + 1)) x490000 x490001 x490002 x490003)) else (none)) else (if x8 > x7 then (some true) else (dancestudioref50_crowded.l0 k x1 (wrap64 (x5 + 1)) x490000 x490001 x490002 x490003))
end
def dancestudioref50_crowded.f (k : Nat) (l0_0 : List (S53)) (l0_1 : List (S55)) (l0_2 : List (S59)) (a0_3 : Int) (a1 : Int) : Option (Bool) := dancestudioref50_crowded.l0 k a1 0 l0_0 l0_1 l0_2 a0_3
set_option maxHeartbeats 8000000 in
set_option maxRecDepth 100000 in
theorem dancestudioref50_crowded.calls (k : Nat) (A0_0 : Option Addr) (c0_0 : Nat) (l0_0 : List (S53)) (A0_1 : Option Addr) (c0_1 : Nat) (l0_1 : List (S55)) (A0_2 : Option Addr) (c0_2 : Nat) (l0_2 : List (S59)) (a0_3 : Int) (a1 : Int) (r : Bool) (w : World) (hr0_0 : Kd.C k53 w A0_0 l0_0.length l0_0) (hc0_0 : l0_0.length ≤ c0_0) (hr0_1 : Kd.C k55 w A0_1 l0_1.length l0_1) (hc0_1 : l0_1.length ≤ c0_1) (hr0_2 : Kd.C k59 w A0_2 l0_2.length l0_2) (hc0_2 : l0_2.length ≤ c0_2) (h : dancestudioref50_crowded.f k l0_0 l0_1 l0_2 a0_3 a1 = some r) :
  Calls Try.prog 43 #[.agg #[.slice A0_0 l0_0.length c0_0, .slice A0_1 l0_1.length c0_1, .slice A0_2 l0_2.length c0_2, .int .i64 a0_3], .int .i64 a1] w fun e w' => e = .returned (.bool r) ∧ Below w.heap.size w w' := by
 have hu30 := Try.underlying26
 have HR0_0 := Aside0.mk hr0_0
 have HC0_0 := Aside0.mk hc0_0
 clear hr0_0 hc0_0
 have HR0_1 := Aside0.mk hr0_1
 have HC0_1 := Aside0.mk hc0_1
 clear hr0_1 hc0_1
 have HR0_2 := Aside0.mk hr0_2
 have HC0_2 := Aside0.mk hc0_2
 clear hr0_2 hc0_2
 have HB := Aside0.mk (Below.refl w.heap.size w)
 have H := h
 unfold dancestudioref50_crowded.f at H
 clear h
 have H' := Aside0.mk H
 clear H
 go_enter Try.func43, Try.ntmps43
 go_wp2_with (first | ((with_reducible refine gate_dst (N := 2) rfl ?_); refine box_event rfl (N := 2) rfl (cs := #[.slice A0_0 l0_0.length c0_0, .slice A0_1 l0_1.length c0_1, .slice A0_2 l0_2.length c0_2, .int .i64 a0_3]) (t := 26) (by first | (go_simp; done) | (go_simp; rfl)) ?_; intro gb1 hg w3 hbox hb; have BK1 := Aside0.mk hbox; have GW1 := mGw HB hg; have GE1 := GW1; replace HB := mSt HB hb; clear hb hbox hg))
 go_loopg [5] k (fun kq v5 w' => ∃ (x5_1 : Int), v5 = .int .i64 x5_1 ∧ Aside0 (dancestudioref50_crowded.l0 kq a1 x5_1 l0_0 l0_1 l0_2 a0_3 = some r) ∧ Aside0 (kq ≤ k) ∧ Aside0 (w'.heap[gb1]? = some (.cells #[(.slice A0_0 l0_0.length c0_0), (.slice A0_1 l0_1.length c0_1), (.slice A0_2 l0_2.length c0_2), .int .i64 a0_3] 26 (0, 0))) ∧ Aside0 (Below w.heap.size w w'))
 case atStart => exact ⟨(0), rfl, H', ⟨Nat.le_refl _⟩, ⟨BK1.out⟩, ⟨HB.out⟩⟩
 case round =>
  clear H'
  skip
  obtain ⟨x5_1, rfl, HA, HK1, BK1, HB⟩ := hrel
  cases gk with
  | zero => exact absurd HA.out (by simp [dancestudioref50_crowded.l0])
  | succ k1 =>
   have H := HA.out
   clear HA
   simp only [dancestudioref50_crowded.l0] at H
   by_cases c4 : x5_1 < (l0_0.length : Int)
   rotate_left
   ·
    rw [if_neg c4] at H
    have c4b0 := decide_eq_false c4
    clear c4
    obtain rfl := Option.some.inj H
    have hcz21 := blk_cell BK1.out; have hfz21 := blk_frozen BK1.out
    go_wp2
    go_ret
    exact ⟨rfl, HB.out⟩
   rw [if_pos c4] at H
   have c4b0 := decide_eq_true c4
   clear c4
   obtain ⟨c5, H⟩ : (0 ≤ x5_1) ∧ _ := mIf H
   have c5b0 := decide_eq_true c5
   clear c5
   have H' := Aside0.mk H
   clear H
   have hcz6 := blk_cell BK1.out; have hfz6 := blk_frozen BK1.out
   have p490 : 0 ≤ (x5_1 : Int) := of_decide_eq_true (by assumption)
   have q490 : x5_1 < (l0_0.length : Int) := of_decide_eq_true (by assumption)
   obtain ⟨ad490, A490_2, c490_2, e490, hx490_0, hx490_1, hx490_2, hl490_2, hi490_2⟩ := at_T53 HR0_0.out x5_1 p490 q490
   cases e490
   replace hx490_0 := mHx HB hx490_0
   replace hx490_1 := mHx HB hx490_1
   replace hx490_2 := mHx HB hx490_2
   have HR490_2 := Aside0.mk hi490_2
   have HC490_2 := Aside0.mk hl490_2
   clear hi490_2 hl490_2
   replace p490 := eq_true p490
   replace q490 := eq_true q490
   go_wp2
   go_loopg [7, 9] k1 (fun kq v7 v9 w' => ∃ (x7_2 : Int) (x9_2 : Int), v7 = .int .i64 x7_2 ∧ v9 = .int .i64 x9_2 ∧ Aside0 (dancestudioref50_crowded.l1 kq a1 x5_1 (((rd_T53 l0_0 x5_1).f2).length : Int) x7_2 0 x9_2 l0_0 l0_1 l0_2 a0_3 = some r) ∧ Aside0 (kq ≤ k1) ∧ Aside0 (w'.heap[gb1]? = some (.cells #[(.slice (some ad490) l0_0.length c0_0), (.slice A0_1 l0_1.length c0_1), (.slice A0_2 l0_2.length c0_2), .int .i64 a0_3] 26 (0, 0))) ∧ Aside0 (Below w.heap.size w w'))
   case atStart => exact ⟨(0), (0), rfl, rfl, H', ⟨Nat.le_refl _⟩, ⟨BK1.out⟩, ⟨HB.out⟩⟩
   case round =>
    clear H'
    clear c4b0 c5b0 hx490_0 hx490_1 hx490_2 p490 q490
    obtain ⟨x7_2, x9_2, rfl, rfl, HA, HK2, BK1, HB⟩ := hrel
    cases gk with
    | zero => exact absurd HA.out (by simp [dancestudioref50_crowded.l1])
    | succ k2 =>
     have H := HA.out
     clear HA
     simp only [dancestudioref50_crowded.l1] at H
     by_cases c7 : x9_2 < (l0_1.length : Int)
     ·
      rw [if_pos c7] at H
      have c7b0 := decide_eq_true c7
      clear c7
      obtain ⟨c8, H⟩ : (0 ≤ x9_2) ∧ _ := mIf H
      have c8b0 := decide_eq_true c8
      clear c8
      by_cases c9 : ((rd_T55 l0_1 x9_2).f0) ≥ (((rd_T53 l0_0 x5_1).f2).length : Int)
      rotate_left
      ·
       rw [if_neg c9] at H
       have c9b0 := decide_eq_false c9
       clear c9
       have H' := Aside0.mk H
       clear H
       have hcz11 := blk_cell BK1.out; have hfz11 := blk_frozen BK1.out
       have p491 : 0 ≤ (x9_2 : Int) := of_decide_eq_true (by assumption)
       have q491 : x9_2 < (l0_1.length : Int) := of_decide_eq_true (by assumption)
       obtain ⟨ad491, e491, hx491_0⟩ := at_T55 HR0_1.out x9_2 p491 q491
       cases e491
       replace hx491_0 := mHx HB hx491_0
       replace p491 := eq_true p491
       replace q491 := eq_true q491
       go_wp2
       go_roundg k2
       case measure => have := HK1.out; have := HK2.out; omega
       case rel => exact ⟨(x7_2), (wrap64 (x9_2 + 1)), rfl, rfl, H', ⟨by have := HK1.out; have := HK2.out; omega⟩, ⟨BK1.out⟩, ⟨HB.out⟩⟩
      rw [if_pos c9] at H
      have c9b0 := decide_eq_true c9
      clear c9
      have H' := Aside0.mk H
      clear H
      have hcz10 := blk_cell BK1.out; have hfz10 := blk_frozen BK1.out
      have p491 : 0 ≤ (x9_2 : Int) := of_decide_eq_true (by assumption)
      have q491 : x9_2 < (l0_1.length : Int) := of_decide_eq_true (by assumption)
      obtain ⟨ad491, e491, hx491_0⟩ := at_T55 HR0_1.out x9_2 p491 q491
      cases e491
      replace hx491_0 := mHx HB hx491_0
      replace p491 := eq_true p491
      replace q491 := eq_true q491
      go_wp2
      go_roundg k2
      case measure => have := HK1.out; have := HK2.out; omega
      case rel => exact ⟨(wrap64 (x7_2 + a1)), (wrap64 (x9_2 + 1)), rfl, rfl, H', ⟨by have := HK1.out; have := HK2.out; omega⟩, ⟨BK1.out⟩, ⟨HB.out⟩⟩
     rw [if_neg c7] at H
     have c7b0 := decide_eq_false c7
     clear c7
     have H' := Aside0.mk H
     clear H
     have hcz12 := blk_cell BK1.out; have hfz12 := blk_frozen BK1.out
     go_wp2
     go_loopg [8, 10] k2 (fun kq v8 v10 w' => ∃ (x8_3 : Int) (x10_3 : Int), v8 = .int .i64 x8_3 ∧ v10 = .int .i64 x10_3 ∧ Aside0 (dancestudioref50_crowded.l2 kq a1 x5_1 (((rd_T53 l0_0 x5_1).f2).length : Int) x7_2 x8_3 x10_3 l0_0 l0_1 l0_2 a0_3 = some r) ∧ Aside0 (kq ≤ k2) ∧ Aside0 (w'.heap[gb1]? = some (.cells #[(.slice (some ad490) l0_0.length c0_0), (.slice A0_1 l0_1.length c0_1), (.slice A0_2 l0_2.length c0_2), .int .i64 a0_3] 26 (0, 0))) ∧ Aside0 (Below w.heap.size w w'))
     case atStart => exact ⟨(0), (0), rfl, rfl, H', ⟨Nat.le_refl _⟩, ⟨BK1.out⟩, ⟨HB.out⟩⟩
     case round =>
      clear H'
      clear c7b0
      obtain ⟨x8_3, x10_3, rfl, rfl, HA, HK3, BK1, HB⟩ := hrel
      cases gk with
      | zero => exact absurd HA.out (by simp [dancestudioref50_crowded.l2])
      | succ k3 =>
       have H := HA.out
       clear HA
       simp only [dancestudioref50_crowded.l2] at H
       by_cases c13 : x10_3 < (l0_0.length : Int)
       rotate_left
       ·
        rw [if_neg c13] at H
        have c13b0 := decide_eq_false c13
        clear c13
        by_cases c18 : x8_3 > x7_2
        ·
         rw [if_pos c18] at H
         have c18b0 := decide_eq_true c18
         clear c18
         obtain rfl := Option.some.inj H
         have hcz19 := blk_cell BK1.out; have hfz19 := blk_frozen BK1.out
         go_wp2
         go_ret
         exact ⟨rfl, HB.out⟩
        rw [if_neg c18] at H
        have c18b0 := decide_eq_false c18
        clear c18
        have H' := Aside0.mk H
        clear H
        have hcz20 := blk_cell BK1.out; have hfz20 := blk_frozen BK1.out
        go_wp2
        go_roundg k3
        case measure => have := HK1.out; have := HK2.out; have := HK3.out; omega
        case rel => exact ⟨(wrap64 (x5_1 + 1)), rfl, H', ⟨by have := HK1.out; have := HK2.out; have := HK3.out; omega⟩, ⟨BK1.out⟩, ⟨HB.out⟩⟩
       rw [if_pos c13] at H
       have c13b0 := decide_eq_true c13
       clear c13
       obtain ⟨c14, H⟩ : (0 ≤ x10_3) ∧ _ := mIf H
       have c14b0 := decide_eq_true c14
       clear c14
       by_cases c15 : (((rd_T53 l0_0 x10_3).f2).length : Int) ≥ (((rd_T53 l0_0 x5_1).f2).length : Int)
       rotate_left
       ·
        rw [if_neg c15] at H
        have c15b0 := decide_eq_false c15
        have c15b1 : decide (((rd_T53 l0_0 x5_1).f2).length ≤ ((rd_T53 l0_0 x10_3).f2).length) = false := decide_eq_false (fun h => c15 (Int.ofNat_le.mpr h))
        clear c15
        have H' := Aside0.mk H
        clear H
        have hcz17 := blk_cell BK1.out; have hfz17 := blk_frozen BK1.out
        have p492 : 0 ≤ (x10_3 : Int) := of_decide_eq_true (by assumption)
        have q492 : x10_3 < (l0_0.length : Int) := of_decide_eq_true (by assumption)
        obtain ⟨ad492, A492_2, c492_2, e492, hx492_0, hx492_1, hx492_2, hl492_2, hi492_2⟩ := at_T53 HR0_0.out x10_3 p492 q492
        obtain rfl : ad490 = ad492 := (by injection e492)
        replace hx492_0 := mHx HB hx492_0
        replace hx492_1 := mHx HB hx492_1
        replace hx492_2 := mHx HB hx492_2
        have HR492_2 := Aside0.mk hi492_2
        have HC492_2 := Aside0.mk hl492_2
        clear hi492_2 hl492_2
        replace p492 := eq_true p492
        replace q492 := eq_true q492
        go_wp2
        go_roundg k3
        case measure => have := HK1.out; have := HK2.out; have := HK3.out; omega
        case rel => exact ⟨(x8_3), (wrap64 (x10_3 + 1)), rfl, rfl, H', ⟨by have := HK1.out; have := HK2.out; have := HK3.out; omega⟩, ⟨BK1.out⟩, ⟨HB.out⟩⟩
       rw [if_pos c15] at H
       have c15b0 := decide_eq_true c15
       have c15b1 : decide (((rd_T53 l0_0 x5_1).f2).length ≤ ((rd_T53 l0_0 x10_3).f2).length) = true := decide_eq_true (Int.ofNat_le.mp c15)
       clear c15
       have H' := Aside0.mk H
       clear H
       have hcz16 := blk_cell BK1.out; have hfz16 := blk_frozen BK1.out
       have p492 : 0 ≤ (x10_3 : Int) := of_decide_eq_true (by assumption)
       have q492 : x10_3 < (l0_0.length : Int) := of_decide_eq_true (by assumption)
       obtain ⟨ad492, A492_2, c492_2, e492, hx492_0, hx492_1, hx492_2, hl492_2, hi492_2⟩ := at_T53 HR0_0.out x10_3 p492 q492
       obtain rfl : ad490 = ad492 := (by injection e492)
       replace hx492_0 := mHx HB hx492_0
       replace hx492_1 := mHx HB hx492_1
       replace hx492_2 := mHx HB hx492_2
       have HR492_2 := Aside0.mk hi492_2
       have HC492_2 := Aside0.mk hl492_2
       clear hi492_2 hl492_2
       replace p492 := eq_true p492
       replace q492 := eq_true q492
       have p493 : 0 ≤ (x10_3 : Int) := of_decide_eq_true (by assumption)
       have q493 : x10_3 < (l0_0.length : Int) := of_decide_eq_true (by assumption)
       obtain ⟨ad493, A493_2, c493_2, e493, hx493_0, hx493_1, hx493_2, hl493_2, hi493_2⟩ := at_T53 HR0_0.out x10_3 p493 q493
       obtain rfl : ad490 = ad493 := (by injection e493)
       replace hx493_0 := mHx HB hx493_0
       replace hx493_1 := mHx HB hx493_1
       replace hx493_2 := mHx HB hx493_2
       have HR493_2 := Aside0.mk hi493_2
       have HC493_2 := Aside0.mk hl493_2
       clear hi493_2 hl493_2
       replace p493 := eq_true p493
       replace q493 := eq_true q493
       have ea_ := Option.some.inj (hx492_2.symm.trans hx493_2)
       injection ea_ with ea_ en_ ec_
       subst ea_
       subst ec_
       clear en_
       go_wp2
       go_roundg k3
       case measure => have := HK1.out; have := HK2.out; have := HK3.out; omega
       case rel => exact ⟨(wrap64 (x8_3 + ((rd_T53 l0_0 x10_3).f1))), (wrap64 (x10_3 + 1)), rfl, rfl, H', ⟨by have := HK1.out; have := HK2.out; have := HK3.out; omega⟩, ⟨BK1.out⟩, ⟨HB.out⟩⟩
end Go.Proofs.Ytjppjppapdflmaa.PAll
