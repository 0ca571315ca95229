/- Texts of the proof, laid end to end. -/
import Derived.Test.YtimikhbnihedkaaDoorZMm
import Derived.Test.YtimikhbnihedkaaDoorZMC0
import Derived.Test.YtimikhbnihedkaaDoorZMC1
import Derived.Defers
import Derived.Recover
/- The reader's failing runs: what ends by the panic that 'read' recovers from. -/
namespace Go.Proofs.YtimikhbnihedkaaDoor.PAll
open Go.RowKit Go.Proofs.YtimikhbnihedkaaDoorW.PrintWords Go.Proofs.YtimikhbnihedkaaDoorW.PrintLast Go.Proofs.YtimikhbnihedkaaDoorW.PrintMore
attribute [local go_sem] max2_int min2_int max_two min_two max_three min_three max_four min_four
set_option linter.unusedVariables false
set_option linter.unusedSimpArgs false
def lang_reader_must.p (k : Nat) (s0_0 : ByteArray) (s0_1 : Int) (a1 : Int) : Option Unit := (lang_reader_is.f k s0_0 s0_1 a1).bind fun bt => if bt.1 = true then none else some ()
theorem lang_reader_must.dies (k : Nat) (g : Nat) (s0_0 : ByteArray) (s0_1 : Int) (a1 : Int) (w0 w : World) (hI : IsS81 w0 w g s0_0 s0_1) (hB : Below w0.heap.size w0 w) (h : lang_reader_must.p k s0_0 s0_1 a1 = some ()) :
  Calls Tryd.prog 85 #[.pointer (some ⟨g, 0, none⟩), .int .u8 a1] w fun e w' => e = .panicked formPanic ∧ Below w0.heap.size w0 w' ∧ KeepBut w w' g none := by
 have HI0 := Aside0.mk hI
 have HK := Aside0.mk (KeepBut.refl w g none)
 have HL := Aside0.mk hB.size
 clear hI
 have HW0 := Aside0.mk hB.size
 have HB := Aside0.mk hB
 clear hB
 have H : ((lang_reader_is.f k s0_0 s0_1 a1).bind fun bt => if bt.1 = true then none else some ()) = some () := h
 clear h
 replace H := Option.bind_eq_some_iff.mp H
 obtain ⟨⟨t177, t178, t179⟩, A30, H⟩ := H
 have A3 := Aside0.mk A30
 clear A30
 by_cases c4 : t177 = true
 · rw [if_pos c4] at H
   exact absurd H (by simp)
 · replace c4 := Bool.eq_false_iff.mpr c4
   subst c4
   clear H
   go_enter Tryd.func85, Tryd.ntmps85
   go_wp2_with (first | ((with_reducible refine gate_callee (f := 84) rfl ?_); refine goesL_ (some 6) rfl rfl Tryd.func84 (by kernel_rfl) rfl #[.pointer (some ⟨g, 0, none⟩), .int .u8 a1] rfl (mA2 rfl rfl) ?_; (with_reducible refine (lang_reader_is.calls k g s0_0 s0_1 a1 false t178 t179 w0 _ ?side1 ?side2 A3.out).mono ?_); (case side1 => repeat (first | (with_reducible first | exact HI0.out | apply IsS81.alloc | apply IsS81.drewN | apply IsS81.drew | apply IsS81.set_0 | apply IsS81.set_1) | exact HI0.out)); (case side2 => repeat (first | (with_reducible first | exact HB.out | apply below_alloc | apply pw_below_drewN | apply below_drew1 | refine below_set ?_ (IsS81.ge HI0.out)) | exact HB.out)); rintro e w7 ⟨rfl, hi, hb, hk⟩; refine ⟨_, rfl, ?_⟩; replace HK := Aside0.mk (KeepBut.trans (by repeat (first | (with_reducible first | exact HK.out | apply KeepBut.set_ | apply keep_drewN | apply keep_drew | apply keep_alloc) | exact HK.out)) hk (.inl rfl)); replace HB := Aside0.mk hb; replace HI0 := Aside0.mk (hi); (try clear hb)) | (go_at_call 63; refine (lang_reader_fail.dies _ _).mono ?_; rintro e w9_ ⟨rfl, rfl⟩))
   exact ⟨rfl, rfl, HB.out, (by repeat (first | (with_reducible first | exact HK.out | apply KeepBut.set_ | apply keep_drewN | apply keep_drew | apply keep_alloc) | exact HK.out))⟩
mutual
def lang_reader_number.pj1 : Nat → Int → ByteArray → Int → Option Unit
 | 0, _, _, _ => none
 | k + 1, x3, x1000, x1001 => if 0 ≤ x3 then (if x3 ≤ x1001 then (if x1001 ≤ (x1000.size : Int) then (if (x1000.extract (x3 : Int).toNat (x1001 : Int).toNat).toList = ([] : List UInt8) then (lang_reader_number.pj2 k (x1000.extract (x3 : Int).toNat (x1001 : Int).toNat) true x1000 x1001) else (if ((x1000.extract (x3 : Int).toNat (x1001 : Int).toNat).size : Int) > 2 then (lang_reader_number.pj2 k (x1000.extract (x3 : Int).toNat (x1001 : Int).toNat) true x1000 x1001) else (if ((x1000.extract (x3 : Int).toNat (x1001 : Int).toNat).size : Int) = 2 then (if 0 < ((x1000.extract (x3 : Int).toNat (x1001 : Int).toNat).size : Int) then (lang_reader_number.pj2 k (x1000.extract (x3 : Int).toNat (x1001 : Int).toNat) ((bt (x1000.extract (x3 : Int).toNat (x1001 : Int).toNat) 0) == 48) x1000 x1001) else (none)) else (lang_reader_number.pj2 k (x1000.extract (x3 : Int).toNat (x1001 : Int).toNat) false x1000 x1001)))) else (none)) else (none)) else (none)
def lang_reader_number.pj2 : Nat → ByteArray → Bool → ByteArray → Int → Option Unit
 | 0, _, _, _, _ => none
 | k + 1, x4, x69, x1000, x1001 => if x69 = true then some () else none
def lang_reader_number.pl0 : Nat → Int → ByteArray → Int → Option Unit
 | 0, _, _, _ => none
 | k + 1, x3, x1000, x1001 => if x1001 < (x1000.size : Int) then (if 0 ≤ x1001 then ((lang_digit.f (bt x1000 x1001)).bind fun t184 => (if t184 = true then (lang_reader_number.pl0 k x3 x1000 (wrap64 (x1001 + 1))) else (lang_reader_number.pj1 k x3 x1000 x1001))) else (none)) else (lang_reader_number.pj1 k x3 x1000 x1001)
end
def lang_reader_number.p (k : Nat) (s0_0 : ByteArray) (s0_1 : Int) : Option Unit := (lang_reader_space.f k s0_0 s0_1).bind fun bt182 => (lang_reader_number.pl0 k bt182.2 bt182.1 bt182.2)
set_option maxHeartbeats 8000000 in
set_option maxRecDepth 100000 in
theorem lang_reader_number.dies (k : Nat) (g : Nat) (s0_0 : ByteArray) (s0_1 : Int) (w0 w : World) (hI : IsS81 w0 w g s0_0 s0_1) (hB : Below w0.heap.size w0 w) (h : lang_reader_number.p k s0_0 s0_1 = some ()) :
  Calls Tryd.prog 86 #[.pointer (some ⟨g, 0, none⟩)] w fun e w' => e = .panicked formPanic ∧ Below w0.heap.size w0 w' ∧ KeepBut w w' g none := by
 have HI0 := Aside0.mk hI
 have HK := Aside0.mk (KeepBut.refl w g none)
 have HL := Aside0.mk hB.size
 clear hI
 have HW0 := Aside0.mk hB.size
 have HB := Aside0.mk hB
 clear hB
 have H : ((lang_reader_space.f k s0_0 s0_1).bind fun bt182 => (lang_reader_number.pl0 k bt182.2 bt182.1 bt182.2)) = some () := h
 clear h
 replace H := Option.bind_eq_some_iff.mp H
 obtain ⟨⟨t182, t183⟩, A20, H⟩ := H
 try dsimp only at H
 have A2 := Aside0.mk A20
 clear A20
 have HC3 := Aside0.mk H
 clear H
 go_enter Tryd.func86, Tryd.ntmps86
 go_upto_block 0 with (first | (go_at_call 62; (with_reducible refine (lang_reader_space.calls k g s0_0 s0_1 t182 t183 w0 _ ?side1 ?side2 A2.out).mono ?_); (case side1 => repeat (first | (with_reducible first | exact HI0.out | apply IsS81.alloc | apply IsS81.drewN | apply IsS81.drew | apply IsS81.set_0 | apply IsS81.set_1) | exact HI0.out)); (case side2 => repeat (first | (with_reducible first | exact HB.out | apply below_alloc | apply pw_below_drewN | apply below_drew1 | refine below_set ?_ (IsS81.ge HI0.out)) | exact HB.out)); rintro e w4 ⟨rfl, hi, hb, hk⟩; replace HK := Aside0.mk (KeepBut.trans (by repeat (first | (with_reducible first | exact HK.out | apply KeepBut.set_ | apply keep_drewN | apply keep_drew | apply keep_alloc) | exact HK.out)) hk (.inl rfl)); replace HB := Aside0.mk hb; replace HI0 := Aside0.mk (hi); (try clear hb); obtain ⟨HGz5, hgz5⟩ := HI0.out; have hcz5_0 := cellS81_0 HGz5; have hcz5_1 := cellS81_1 HGz5; have hfz5_0 := blk_frozen HGz5 0; have hfz5_1 := blk_frozen HGz5 1; clear HGz5 hgz5))
 repeat (go_quiet (first | (go_at_call 62; (with_reducible refine (lang_reader_space.calls k g s0_0 s0_1 t182 t183 w0 _ ?side1 ?side2 A2.out).mono ?_); (case side1 => repeat (first | (with_reducible first | exact HI0.out | apply IsS81.alloc | apply IsS81.drewN | apply IsS81.drew | apply IsS81.set_0 | apply IsS81.set_1) | exact HI0.out)); (case side2 => repeat (first | (with_reducible first | exact HB.out | apply below_alloc | apply pw_below_drewN | apply below_drew1 | refine below_set ?_ (IsS81.ge HI0.out)) | exact HB.out)); rintro e w4 ⟨rfl, hi, hb, hk⟩; replace HK := Aside0.mk (KeepBut.trans (by repeat (first | (with_reducible first | exact HK.out | apply KeepBut.set_ | apply keep_drewN | apply keep_drew | apply keep_alloc) | exact HK.out)) hk (.inl rfl)); replace HB := Aside0.mk hb; replace HI0 := Aside0.mk (hi); (try clear hb); obtain ⟨HGz5, hgz5⟩ := HI0.out; have hcz5_0 := cellS81_0 HGz5; have hcz5_1 := cellS81_1 HGz5; have hfz5_0 := blk_frozen HGz5 0; have hfz5_1 := blk_frozen HGz5 1; clear HGz5 hgz5)); go_upto_block 0 with (first | (go_at_call 62; (with_reducible refine (lang_reader_space.calls k g s0_0 s0_1 t182 t183 w0 _ ?side1 ?side2 A2.out).mono ?_); (case side1 => repeat (first | (with_reducible first | exact HI0.out | apply IsS81.alloc | apply IsS81.drewN | apply IsS81.drew | apply IsS81.set_0 | apply IsS81.set_1) | exact HI0.out)); (case side2 => repeat (first | (with_reducible first | exact HB.out | apply below_alloc | apply pw_below_drewN | apply below_drew1 | refine below_set ?_ (IsS81.ge HI0.out)) | exact HB.out)); rintro e w4 ⟨rfl, hi, hb, hk⟩; replace HK := Aside0.mk (KeepBut.trans (by repeat (first | (with_reducible first | exact HK.out | apply KeepBut.set_ | apply keep_drewN | apply keep_drew | apply keep_alloc) | exact HK.out)) hk (.inl rfl)); replace HB := Aside0.mk hb; replace HI0 := Aside0.mk (hi); (try clear hb); obtain ⟨HGz5, hgz5⟩ := HI0.out; have hcz5_0 := cellS81_0 HGz5; have hcz5_1 := cellS81_1 HGz5; have hfz5_0 := blk_frozen HGz5 0; have hfz5_1 := blk_frozen HGz5 1; clear HGz5 hgz5)))
 (try simp only [Act.put, List.setIfInBounds_toArray, List.set_cons_zero, List.set_cons_succ])
 go_cut [] (fun wc => ∃ (kq : Nat) (x1001_2 : Int), Aside0 (lang_reader_number.pj1 kq t183 t182 x1001_2 = some ()) ∧ Aside0 (kq ≤ k) ∧ Aside0 (IsS81 w0 wc g t182 x1001_2) ∧ Aside0 (KeepBut w wc g none) ∧ Aside0 (Below w0.heap.size w0 wc))
 case first =>
  have H := HC3.out
  clear HC3
  have H' := Aside0.mk H
  clear H
  go_wp2
  repeat (go_quiet (fail); try go_wp2)
  go_loopg [] k (fun kq w' => ∃ (x1001_1 : Int), Aside0 (lang_reader_number.pl0 kq t183 t182 x1001_1 = some ()) ∧ Aside0 (kq ≤ k) ∧ Aside0 (IsS81 w0 w' g t182 x1001_1) ∧ Aside0 (KeepBut w w' g none) ∧ Aside0 (Below w0.heap.size w0 w'))
  case atStart => exact ⟨(t183), H', ⟨Nat.le_refl _⟩, HI0, HK, ⟨HB.out⟩⟩
  case round =>
   clear H' hcz5_0 hcz5_1 hfz5_0 hfz5_1
   obtain ⟨x1001_1, HA, HK1, HI0, HK, HB⟩ := hrel
   cases gk with
   | zero => exact absurd HA.out (by simp [lang_reader_number.pl0])
   | succ k1 =>
    have H := HA.out
    clear HA
    simp only [lang_reader_number.pl0] at H
    by_cases c6 : x1001_1 < (t182.size : Int)
    rotate_left
    ·
     rw [if_neg c6] at H
     have c6b0 := decide_eq_false c6
     clear c6
     (first | rw [c6b0] | (simp only [i64_w, i32_w]; rw [c6b0]) | skip)
     have H' := Aside0.mk H
     clear H
     obtain ⟨HGz13, hgz13⟩ := HI0.out
     have hcz13_0 := cellS81_0 HGz13; have hcz13_1 := cellS81_1 HGz13; have hfz13_0 := blk_frozen HGz13 0; have hfz13_1 := blk_frozen HGz13 1
     clear HGz13 hgz13
     go_wp2
     repeat (go_quiet (fail); try go_wp2)
     go_meet
     case rel => exact ⟨_, (x1001_1), H', ⟨by have := HK1.out; first | omega | exact Nat.le_refl _⟩, HI0, HK, ⟨hO HB⟩⟩
    rw [if_pos c6] at H
    have c6b0 := decide_eq_true c6
    clear c6
    (first | rw [c6b0] | (simp only [i64_w, i32_w]; rw [c6b0]) | skip)
    obtain ⟨c7, H⟩ : (0 ≤ x1001_1) ∧ _ := mIf H
    have c7b0 := decide_eq_true c7
    clear c7
    replace H := Option.bind_eq_some_iff.mp H
    obtain ⟨t184, A90, H⟩ := H
    try dsimp only at H
    have A9 := Aside0.mk A90
    clear A90
    by_cases c10 : t184 = true
    rotate_left
    ·
     replace c10 := Bool.eq_false_iff.mpr c10
     subst c10
     rw [if_neg (show ¬ (false = true) by decide)] at H
     have H' := Aside0.mk H
     clear H
     obtain ⟨HGz12, hgz12⟩ := HI0.out
     have hcz12_0 := cellS81_0 HGz12; have hcz12_1 := cellS81_1 HGz12; have hfz12_0 := blk_frozen HGz12 0; have hfz12_1 := blk_frozen HGz12 1
     clear HGz12 hgz12
     have p8 : 0 ≤ (x1001_1 : Int) := of_decide_eq_true (by assumption)
     have q8 : x1001_1 < (t182.size : Int) := of_decide_eq_true (by assumption)
     have hx8 := bt_at t182 x1001_1
     replace p8 := eq_true p8
     replace q8 := eq_true q8
     go_wp2_with (first | (go_at_call 93; (with_reducible refine (lang_digit.calls (bt t182 x1001_1) false _ A9.out).mono ?_); rintro e w' ⟨rfl, ⟨nd, rfl⟩⟩; (try first | exact ⟨rfl, _, World.drewN_drewN _ _ _⟩ | exact ⟨rfl, _, Eq.trans (World.drewN_drewN _ _ _) (congrArg (World.drewN _) (Nat.add_assoc _ _ _))⟩)))
     repeat (go_quiet (first | (go_at_call 93; (with_reducible refine (lang_digit.calls (bt t182 x1001_1) false _ A9.out).mono ?_); rintro e w' ⟨rfl, ⟨nd, rfl⟩⟩; (try first | exact ⟨rfl, _, World.drewN_drewN _ _ _⟩ | exact ⟨rfl, _, Eq.trans (World.drewN_drewN _ _ _) (congrArg (World.drewN _) (Nat.add_assoc _ _ _))⟩))); try go_wp2_with (first | (go_at_call 93; (with_reducible refine (lang_digit.calls (bt t182 x1001_1) false _ A9.out).mono ?_); rintro e w' ⟨rfl, ⟨nd, rfl⟩⟩; (try first | exact ⟨rfl, _, World.drewN_drewN _ _ _⟩ | exact ⟨rfl, _, Eq.trans (World.drewN_drewN _ _ _) (congrArg (World.drewN _) (Nat.add_assoc _ _ _))⟩))))
     go_meet
     case rel => exact ⟨_, (x1001_1), H', ⟨by have := HK1.out; first | omega | exact Nat.le_refl _⟩, HI0, HK, ⟨hO HB⟩⟩
    subst c10
    rw [if_pos rfl] at H
    have H' := Aside0.mk H
    clear H
    obtain ⟨HGz11, hgz11⟩ := HI0.out
    have hcz11_0 := cellS81_0 HGz11; have hcz11_1 := cellS81_1 HGz11; have hfz11_0 := blk_frozen HGz11 0; have hfz11_1 := blk_frozen HGz11 1
    clear HGz11 hgz11
    have p8 : 0 ≤ (x1001_1 : Int) := of_decide_eq_true (by assumption)
    have q8 : x1001_1 < (t182.size : Int) := of_decide_eq_true (by assumption)
    have hx8 := bt_at t182 x1001_1
    replace p8 := eq_true p8
    replace q8 := eq_true q8
    go_wp2_with (first | (go_at_call 93; (with_reducible refine (lang_digit.calls (bt t182 x1001_1) true _ A9.out).mono ?_); rintro e w' ⟨rfl, ⟨nd, rfl⟩⟩; (try first | exact ⟨rfl, _, World.drewN_drewN _ _ _⟩ | exact ⟨rfl, _, Eq.trans (World.drewN_drewN _ _ _) (congrArg (World.drewN _) (Nat.add_assoc _ _ _))⟩)))
    repeat (go_quiet (first | (go_at_call 93; (with_reducible refine (lang_digit.calls (bt t182 x1001_1) true _ A9.out).mono ?_); rintro e w' ⟨rfl, ⟨nd, rfl⟩⟩; (try first | exact ⟨rfl, _, World.drewN_drewN _ _ _⟩ | exact ⟨rfl, _, Eq.trans (World.drewN_drewN _ _ _) (congrArg (World.drewN _) (Nat.add_assoc _ _ _))⟩))); try go_wp2_with (first | (go_at_call 93; (with_reducible refine (lang_digit.calls (bt t182 x1001_1) true _ A9.out).mono ?_); rintro e w' ⟨rfl, ⟨nd, rfl⟩⟩; (try first | exact ⟨rfl, _, World.drewN_drewN _ _ _⟩ | exact ⟨rfl, _, Eq.trans (World.drewN_drewN _ _ _) (congrArg (World.drewN _) (Nat.add_assoc _ _ _))⟩))))
    go_roundg k1
    case measure => have := HK1.out; omega
    case rel => exact ⟨(wrap64 (x1001_1 + 1)), H', ⟨by have := HK1.out; omega⟩, ⟨by repeat (first | (with_reducible first | exact HI0.out | apply IsS81.alloc | apply IsS81.drewN | apply IsS81.drew | apply IsS81.set_0 | apply IsS81.set_1) | exact HI0.out)⟩, ⟨by repeat (first | (with_reducible first | exact HK.out | apply KeepBut.set_ | apply keep_drewN | apply keep_drew | apply keep_alloc) | exact HK.out)⟩, ⟨by repeat (first | (with_reducible first | exact HB.out | apply below_alloc | apply pw_below_drewN | apply below_drew1 | refine below_set ?_ (IsS81.ge HI0.out)) | exact HB.out)⟩⟩
 case rest =>
  clear HC3; try clear c1; try clear p2; try clear c6; try clear c6b0; try clear p6; try clear c7; try clear c7b0; try clear c8; try clear p8; try clear q8; try clear hx8; try clear c10; try clear hcz11_0; try clear hcz11_1; try clear hcz12_0; try clear hcz12_1; try clear hcz13_0; try clear hcz13_1; try clear hcz5_0; try clear hcz5_1; try clear hfz11_0; try clear hfz11_1; try clear hfz12_0; try clear hfz12_1; try clear hfz13_0; try clear hfz13_1; try clear hfz5_0; try clear hfz5_1
  obtain ⟨kq, x1001_2, HA, HJ2, HI0, HK, HB⟩ := hcut
  cases kq with
  | zero => exact absurd HA.out (by simp [lang_reader_number.pj1])
  | succ kj2 =>
   have H := HA.out
   clear HA
   simp only [lang_reader_number.pj1] at H
   obtain ⟨c14, H⟩ : (0 ≤ t183) ∧ _ := mIf H
   have c14b0 := eq_true c14
   have c14b1 := decide_eq_true c14
   clear c14
   obtain ⟨c15, H⟩ : (t183 ≤ x1001_2) ∧ _ := mIf H
   have c15b0 := eq_true c15
   have c15b1 := decide_eq_true c15
   clear c15
   obtain ⟨c16, H⟩ : (x1001_2 ≤ (t182.size : Int)) ∧ _ := mIf H
   have c16b0 := eq_true c16
   have c16b1 := decide_eq_true c16
   clear c16
   have HC17 := Aside0.mk H
   clear H
   obtain ⟨HGz18, hgz18⟩ := HI0.out
   have hcz18_0 := cellS81_0 HGz18; have hcz18_1 := cellS81_1 HGz18; have hfz18_0 := blk_frozen HGz18 0; have hfz18_1 := blk_frozen HGz18 1
   clear HGz18 hgz18
   go_upto_region 6 with (fail)
   repeat (go_quiet (fail); go_upto_region 6 with (fail))
   obtain ⟨yS, hyS⟩ : ∃ y_ : ByteArray, y_ = (t182.extract (t183 : Int).toNat (x1001_2 : Int).toNat) := ⟨_, rfl⟩
   rw [← hyS] at HC17 ⊢
   clear hyS
   go_cut [69] (fun v69 wc => ∃ (kq : Nat) (x69_16 : Bool), v69 = .bool x69_16 ∧ Aside0 (lang_reader_number.pj2 kq yS x69_16 t182 x1001_2 = some ()) ∧ Aside0 (kq ≤ kj2) ∧ Aside0 (IsS81 w0 wc g t182 x1001_2) ∧ Aside0 (KeepBut w wc g none) ∧ Aside0 (Below w0.heap.size w0 wc))
   case first =>
    have H := HC17.out
    clear HC17
    by_cases c19 : yS.toList = ([] : List UInt8)
    ·
     rw [if_pos c19] at H
     have c19b0 := beq_iff_eq.mpr c19
     have c19b1 := bne_eq_false_iff_eq.mpr c19
     clear c19
     (first | rw [c19b0] | (simp only [i64_w, i32_w]; rw [c19b0]) | skip)
     have H' := Aside0.mk H
     clear H
     go_wp2
     repeat (go_quiet (fail); try go_wp2)
     go_meet
     case rel => exact ⟨_, (true), rfl, H', ⟨by have := HJ2.out; first | omega | exact Nat.le_refl _⟩, HI0, HK, ⟨hO HB⟩⟩
    rw [if_neg c19] at H
    have c19b0 := beq_eq_false_iff_ne.mpr c19
    have c19b1 := bne_iff_ne.mpr c19
    (first | rw [c19b0] | (simp only [i64_w, i32_w]; rw [c19b0]) | skip)
    by_cases c20 : (yS.size : Int) > 2
    ·
     rw [if_pos c20] at H
     have c20b0 := decide_eq_true c20
     have c20b1 : decide (2 < yS.size) = true := decide_eq_true (by omega)
     clear c20
     have H' := Aside0.mk H
     clear H
     go_wp2
     repeat (go_quiet (fail); try go_wp2)
     go_meet
     case rel => exact ⟨_, (true), rfl, H', ⟨by have := HJ2.out; first | omega | exact Nat.le_refl _⟩, HI0, HK, ⟨hO HB⟩⟩
    rw [if_neg c20] at H
    have c20b0 := decide_eq_false c20
    have c20b1 : decide (2 < yS.size) = false := decide_eq_false (by omega)
    clear c20
    by_cases c21 : (yS.size : Int) = 2
    rotate_left
    ·
     rw [if_neg c21] at H
     have c21b0 := beq_eq_false_iff_ne.mpr c21
     have c21b1 := bne_iff_ne.mpr c21
     have H' := Aside0.mk H
     clear H
     go_wp2
     repeat (go_quiet (fail); try go_wp2)
     go_meet
     case rel => exact ⟨_, (false), rfl, H', ⟨by have := HJ2.out; first | omega | exact Nat.le_refl _⟩, HI0, HK, ⟨hO HB⟩⟩
    rw [if_pos c21] at H
    have c21b0 := beq_iff_eq.mpr c21
    have c21b1 := bne_eq_false_iff_eq.mpr c21
    clear c21
    obtain ⟨c22, H⟩ : (0 < (yS.size : Int)) ∧ _ := mIf H
    have c22b0 := decide_eq_true c22
    have c22b1 : decide (0 < yS.size) = true := decide_eq_true (by omega)
    clear c22
    have H' := Aside0.mk H
    clear H
    have p23 : 0 ≤ (0 : Int) := (by omega)
    have q23 : 0 < yS.size := (by have : (0 : Int) < (yS.size : Int) := of_decide_eq_true (by assumption); omega)
    have hx23 : ∀ h : 0 < yS.size, ((yS[0]'h).toNat : Int) = bt yS 0 := bt_at yS 0
    clear p23
    have qi23 : (0 < (yS.size : Int)) = True := eq_true (of_decide_eq_true (by assumption))
    replace q23 := eq_true q23
    go_wp2
    repeat (go_quiet (fail); try go_wp2)
    go_meet
    case rel => exact ⟨_, (((bt yS 0) == 48)), rfl, H', ⟨by have := HJ2.out; first | omega | exact Nat.le_refl _⟩, HI0, HK, ⟨hO HB⟩⟩
   case rest =>
    clear HC17; try clear c1; try clear c2; try clear p2; try clear q2; try clear hx2; try clear qi2; try clear c6; try clear c6b0; try clear p6; try clear c7; try clear c7b0; try clear c8; try clear p8; try clear q8; try clear hx8; try clear c10; try clear c14; try clear c14b0; try clear c14b1; try clear c15; try clear c15b0; try clear c15b1; try clear c16; try clear c16b0; try clear c16b1; try clear c19; try clear c19b0; try clear c19b1; try clear c20; try clear c20b0; try clear c20b1; try clear c21; try clear c21b0; try clear c21b1; try clear c22; try clear c22b0; try clear c22b1; try clear p23; try clear q23; try clear hx23; try clear qi23; try clear hcz11_0; try clear hcz11_1; try clear hcz12_0; try clear hcz12_1; try clear hcz13_0; try clear hcz13_1; try clear hcz18_0; try clear hcz18_1; try clear hcz5_0; try clear hcz5_1; try clear hfz11_0; try clear hfz11_1; try clear hfz12_0; try clear hfz12_1; try clear hfz13_0; try clear hfz13_1; try clear hfz18_0; try clear hfz18_1; try clear hfz5_0; try clear hfz5_1
    obtain ⟨kq, x69_16, rfl, HA, HJ16, HI0, HK, HB⟩ := hcut
    cases kq with
    | zero => exact absurd HA.out (by simp [lang_reader_number.pj2])
    | succ kj16 =>
     have H := HA.out
     clear HA
     simp only [lang_reader_number.pj2] at H
     by_cases c90 : x69_16 = true
     rotate_left
     ·
      exact mNo c90 H
     subst c90
     clear H
     obtain ⟨HGz90, hgz90⟩ := HI0.out
     have hcz90_0 := cellS81_0 HGz90; have hcz90_1 := cellS81_1 HGz90; have hfz90_0 := blk_frozen HGz90 0; have hfz90_1 := blk_frozen HGz90 1
     clear HGz90 hgz90
     go_wp2_with (first | (go_at_call 63; refine (lang_reader_fail.dies _ _).mono ?_; rintro e w9_ ⟨rfl, rfl⟩))
     exact ⟨rfl, rfl, HB.out, (by repeat (first | (with_reducible first | exact HK.out | apply KeepBut.set_ | apply keep_drewN | apply keep_drew | apply keep_alloc) | exact HK.out))⟩
mutual
def lang_reader_word.pl0 : Nat → Int → ByteArray → Int → Option Unit
 | 0, _, _, _ => none
 | k + 1, x3, x1000, x1001 => if x1001 < (x1000.size : Int) then (if 0 ≤ x1001 then ((lang_letter.f (bt x1000 x1001)).bind fun t171 => (if t171 = true then (lang_reader_word.pj1 k x3 true x1000 x1001) else (if x1001 > x3 then ((lang_digit.f (bt x1000 x1001)).bind fun t172 => (if t172 = true then (lang_reader_word.pj1 k x3 true x1000 x1001) else (lang_reader_word.pj1 k x3 ((bt x1000 x1001) == 45) x1000 x1001))) else (lang_reader_word.pj1 k x3 false x1000 x1001)))) else (none)) else (lang_reader_word.pj1 k x3 false x1000 x1001)
def lang_reader_word.pj1 : Nat → Int → Bool → ByteArray → Int → Option Unit
 | 0, _, _, _, _ => none
 | k + 1, x3, x63, x1000, x1001 => if x63 = true then (lang_reader_word.pl0 k x3 x1000 (wrap64 (x1001 + 1))) else (if x1001 = x3 then some () else none)
end
def lang_reader_word.p (k : Nat) (s0_0 : ByteArray) (s0_1 : Int) : Option Unit := (lang_reader_space.f k s0_0 s0_1).bind fun bt169 => (lang_reader_word.pl0 k bt169.2 bt169.1 bt169.2)
set_option maxHeartbeats 8000000 in
set_option maxRecDepth 100000 in
theorem lang_reader_word.dies (k : Nat) (g : Nat) (s0_0 : ByteArray) (s0_1 : Int) (w0 w : World) (hI : IsS81 w0 w g s0_0 s0_1) (hB : Below w0.heap.size w0 w) (h : lang_reader_word.p k s0_0 s0_1 = some ()) :
  Calls Tryd.prog 83 #[.pointer (some ⟨g, 0, none⟩)] w fun e w' => e = .panicked formPanic ∧ Below w0.heap.size w0 w' ∧ KeepBut w w' g none := by
 have HI0 := Aside0.mk hI
 have HK := Aside0.mk (KeepBut.refl w g none)
 have HL := Aside0.mk hB.size
 clear hI
 have HW0 := Aside0.mk hB.size
 have HB := Aside0.mk hB
 clear hB
 have H : ((lang_reader_space.f k s0_0 s0_1).bind fun bt169 => (lang_reader_word.pl0 k bt169.2 bt169.1 bt169.2)) = some () := h
 clear h
 replace H := Option.bind_eq_some_iff.mp H
 obtain ⟨⟨t169, t170⟩, A20, H⟩ := H
 try dsimp only at H
 have A2 := Aside0.mk A20
 clear A20
 have H' := Aside0.mk H
 clear H
 go_enter Tryd.func83, Tryd.ntmps83
 go_wp2_with (first | ((with_reducible refine gate_callee (f := 62) rfl ?_); refine goesL_ (some 5) rfl rfl Tryd.func62 (by kernel_rfl) rfl #[.pointer (some ⟨g, 0, none⟩)] rfl (mA1 rfl) ?_; (with_reducible refine (lang_reader_space.calls k g s0_0 s0_1 t169 t170 w0 _ ?side1 ?side2 A2.out).mono ?_); (case side1 => repeat (first | (with_reducible first | exact HI0.out | apply IsS81.alloc | apply IsS81.drewN | apply IsS81.drew | apply IsS81.set_0 | apply IsS81.set_1) | exact HI0.out)); (case side2 => repeat (first | (with_reducible first | exact HB.out | apply below_alloc | apply pw_below_drewN | apply below_drew1 | refine below_set ?_ (IsS81.ge HI0.out)) | exact HB.out)); rintro e w3 ⟨rfl, hi, hb, hk⟩; refine ⟨_, rfl, ?_⟩; replace HK := Aside0.mk (KeepBut.trans (by repeat (first | (with_reducible first | exact HK.out | apply KeepBut.set_ | apply keep_drewN | apply keep_drew | apply keep_alloc) | exact HK.out)) hk (.inl rfl)); replace HB := Aside0.mk hb; replace HI0 := Aside0.mk (hi); (try clear hb); obtain ⟨HGz4, hgz4⟩ := HI0.out; have hcz4_0 := cellS81_0 HGz4; have hcz4_1 := cellS81_1 HGz4; have hfz4_0 := blk_frozen HGz4 0; have hfz4_1 := blk_frozen HGz4 1; clear HGz4 hgz4))
 go_loopg [] k (fun kq w' => ∃ (x1001_1 : Int), Aside0 (lang_reader_word.pl0 kq t170 t169 x1001_1 = some ()) ∧ Aside0 (kq ≤ k) ∧ Aside0 (IsS81 w0 w' g t169 x1001_1) ∧ Aside0 (KeepBut w w' g none) ∧ Aside0 (Below w0.heap.size w0 w'))
 case atStart => exact ⟨(t170), H', ⟨Nat.le_refl _⟩, HI0, HK, ⟨HB.out⟩⟩
 case round =>
  clear H' hcz4_0 hcz4_1 hfz4_0 hfz4_1
  obtain ⟨x1001_1, HA, HK1, HI0, HK, HB⟩ := hrel
  cases gk with
  | zero => exact absurd HA.out (by simp [lang_reader_word.pl0])
  | succ k1 =>
   have H := HA.out
   clear HA
   simp only [lang_reader_word.pl0] at H
   have HC5 := Aside0.mk H
   clear H
   obtain ⟨HGz6, hgz6⟩ := HI0.out
   have hcz6_0 := cellS81_0 HGz6; have hcz6_1 := cellS81_1 HGz6; have hfz6_0 := blk_frozen HGz6 0; have hfz6_1 := blk_frozen HGz6 1
   clear HGz6 hgz6
   go_upto_region 3 with (fail)
   go_cut [63] (fun v63 wc => ∃ (kq : Nat) (x63_4 : Bool), v63 = .bool x63_4 ∧ Aside0 (lang_reader_word.pj1 kq t170 x63_4 t169 x1001_1 = some ()) ∧ Aside0 (kq ≤ k1) ∧ Aside0 (IsS81 w0 wc g t169 x1001_1) ∧ Aside0 (KeepBut w wc g none) ∧ Aside0 (Below w0.heap.size w0 wc))
   case first =>
    have H := HC5.out
    clear HC5
    by_cases c7 : x1001_1 < (t169.size : Int)
    rotate_left
    ·
     rw [if_neg c7] at H
     have c7b0 := decide_eq_false c7
     clear c7
     (first | rw [c7b0] | (simp only [i64_w, i32_w]; rw [c7b0]) | skip)
     have H' := Aside0.mk H
     clear H
     try go_wp2
     replace HI0 := Aside0.mk (IsS81.drew HI0.out); replace HK := Aside0.mk (keep_drew HK.out); replace HB := Aside0.mk (below_drew1 HB.out)
     refine start_ (n := 54) (S := fun w' => w'.cell? ⟨g, 0, none⟩ = some (.string t169) ∧ w'.cell? ⟨g, 1, none⟩ = some (.int .i64 x1001_1)) (ds := []) #[false, false, false, false, false, false, false, false, false, false, false, false, false, false, false, false, false, false, false, false, false, false, false, false, false, false, false, false, false, false, false, false, false, false, false, false, false, false, false, false, false, false, false, false, false, false, false, false, false, false, false, false, false, false] (by kernel_rfl) rfl rfl ⟨cellS81_0 HI0.out.1, cellS81_1 HI0.out.1⟩ (fun hHeld => ?_); refine with_tabW lang_reader_word.tab3 lang_reader_word.bits3 (fun HT_ HW_ => ?_)
     generalize wr.drew = w21 at HI0 HK HB hHeld ⊢
     refine pM 0 10 HT_ ?_
     refine pM 1 11 HT_ ?_
     refine pM 2 12 HT_ ?_
     refine tM 3 13 rfl HT_ HW_ (by rintro w' ⟨s0, s1⟩; go_simp; with_reducible rfl) hHeld ?_
     refine pM 4 14 HT_ ?_
     refine pM 5 15 HT_ ?_
     refine pM 6 16 HT_ ?_
     refine tM 7 17 rfl HT_ HW_ (by rintro w' ⟨s0, s1⟩; go_simp; with_reducible rfl) hHeld ?_
     refine pM 8 18 HT_ ?_
     refine pM 9 19 HT_ ?_
     refine pM 10 20 HT_ ?_
     refine uM 11 21 HT_ ?_
     refine uM 12 22 HT_ ?_
     refine uM 13 23 HT_ ?_
     refine uM 14 24 HT_ ?_
     refine uM 15 25 HT_ ?_
     refine uM 16 26 HT_ ?_
     refine uM 17 27 HT_ ?_
     refine uM 18 28 HT_ ?_
     refine uM 19 29 HT_ ?_
     refine uM 20 30 HT_ ?_
     refine uM 21 31 HT_ ?_
     refine uM 22 32 HT_ ?_
     refine uM 23 33 HT_ ?_
     refine uM 24 34 HT_ ?_
     refine uM 25 35 HT_ ?_
     refine uM 26 36 HT_ ?_
     refine uM 27 37 HT_ ?_
     refine uM 28 38 HT_ ?_
     refine uM 29 39 HT_ ?_
     refine uM 30 40 HT_ ?_
     refine uM 31 41 HT_ ?_
     refine uM 32 42 HT_ ?_
     refine uM 33 43 HT_ ?_
     refine uM 34 44 HT_ ?_
     refine uM 35 45 HT_ ?_
     refine uM 36 46 HT_ ?_
     refine uM 37 47 HT_ ?_
     refine uM 38 48 HT_ ?_
     refine uM 39 49 HT_ ?_
     refine uM 40 50 HT_ ?_
     refine uM 41 51 HT_ ?_
     refine uM 42 52 HT_ ?_
     refine uM 43 53 HT_ ?_
     refine uM 44 54 HT_ ?_
     refine uM 45 55 HT_ ?_
     refine uM 46 56 HT_ ?_
     refine uM 47 57 HT_ ?_
     refine uM 48 58 HT_ ?_
     refine uM 49 59 HT_ ?_
     refine uM 50 60 HT_ ?_
     refine uM 51 61 HT_ ?_
     refine uM 52 62 HT_ ?_
     refine pM 53 63 HT_ ?_
     refine done_ (done_of HT_.out (by kernel_rfl)) ?_
     try go_wp2
     go_meet
     case rel => exact ⟨_, (false), rfl, H', ⟨by have := HK1.out; first | omega | exact Nat.le_refl _⟩, HI0, HK, ⟨HB.out⟩⟩
    rw [if_pos c7] at H
    have c7b0 := decide_eq_true c7
    clear c7
    (first | rw [c7b0] | (simp only [i64_w, i32_w]; rw [c7b0]) | skip)
    obtain ⟨c8, H⟩ : (0 ≤ x1001_1) ∧ _ := mIf H
    have c8b0 := decide_eq_true c8
    clear c8
    replace H := Option.bind_eq_some_iff.mp H
    obtain ⟨t171, A100, H⟩ := H
    try dsimp only at H
    have A10 := Aside0.mk A100
    clear A100
    by_cases c11 : t171 = true
    ·
     subst c11
     rw [if_pos rfl] at H
     have H' := Aside0.mk H
     clear H
     try go_wp2
     replace HI0 := Aside0.mk (IsS81.drew HI0.out); replace HK := Aside0.mk (keep_drew HK.out); replace HB := Aside0.mk (below_drew1 HB.out)
     have p9 : 0 ≤ (x1001_1 : Int) := of_decide_eq_true (by assumption)
     have q9 : x1001_1 < (t169.size : Int) := of_decide_eq_true (by assumption)
     have hx9 := bt_at t169 x1001_1
     replace p9 := eq_true p9
     replace q9 := eq_true q9
     refine start_ (n := 54) (S := fun w' => w'.cell? ⟨g, 0, none⟩ = some (.string t169) ∧ w'.cell? ⟨g, 1, none⟩ = some (.int .i64 x1001_1)) (ds := []) #[false, false, false, false, false, false, false, false, false, false, false, false, false, false, false, false, false, false, false, false, false, false, false, false, false, false, false, false, false, false, false, false, false, false, false, false, false, false, false, false, false, false, false, false, false, false, false, false, false, false, false, false, false, false] (by kernel_rfl) rfl rfl ⟨cellS81_0 HI0.out.1, cellS81_1 HI0.out.1⟩ (fun hHeld => ?_); refine with_tabW lang_reader_word.tab3 lang_reader_word.bits3 (fun HT_ HW_ => ?_)
     generalize wr.drew = w12 at HI0 HK HB hHeld ⊢
     refine pM 0 10 HT_ ?_
     refine pM 1 11 HT_ ?_
     refine pM 2 12 HT_ ?_
     refine tM 3 13 rfl HT_ HW_ (by rintro w' ⟨s0, s1⟩; go_simp; with_reducible rfl) hHeld ?_
     refine pM 4 14 HT_ ?_
     refine pM 5 15 HT_ ?_
     refine pM 6 16 HT_ ?_
     refine tM 7 17 rfl HT_ HW_ (by rintro w' ⟨s0, s1⟩; go_simp; with_reducible rfl) hHeld ?_
     refine pM 8 18 HT_ ?_
     refine pM 9 19 HT_ ?_
     refine pM 10 20 HT_ ?_
     refine pM 11 21 HT_ ?_
     refine pM 12 22 HT_ ?_
     refine pM 13 23 HT_ ?_
     refine tM 14 24 rfl HT_ HW_ (by rintro w' ⟨s0, s1⟩; go_simp; with_reducible rfl) hHeld ?_
     refine pM 15 25 HT_ ?_
     refine pM 16 26 HT_ ?_
     refine pM 17 27 HT_ ?_
     refine tM 18 28 rfl HT_ HW_ (by rintro w' ⟨s0, s1⟩; go_simp; with_reducible rfl) hHeld ?_
     refine take_ (i := 19) (N := some 29) (v := ?_) (a' := ?_) #[true, true, true, true, true, true, true, true, true, true, true, true, true, true, true, true, true, true, true, true, false, false, false, false, false, false, false, false, false, false, false, false, false, false, false, false, false, false, false, false, false, false, false, false, false, false, false, false, false, false, false, false, false, false] rfl rfl (take_ofW HT_.out HW_.out (by kernel_rfl)) (fun _ _ _ h => h) (Or.inl ⟨by rfl, ?_⟩) hHeld ?_ ?_
     rotate_left
     ·
      intro w' _
      go_simp
      with_reducible rfl
     rotate_left
     ·
      simp only [mP]
      rfl
     refine one_ (i := 20) (N := some 30) #[true, true, true, true, true, true, true, true, true, true, true, true, true, true, true, true, true, true, true, true, true, false, false, false, false, false, false, false, false, false, false, false, false, false, false, false, false, false, false, false, false, false, false, false, false, false, false, false, false, false, false, false, false, false] rfl rfl (one_of HT_.out (by kernel_rfl)) (by decide) (fun K hK => ?_)
     refine goes_ Tryd.func92 (by kernel_rfl) rfl #[.int .u8 (bt t169 x1001_1)] (by rfl) rfl rfl (by (try simp only [List.map_toArray, List.map_cons, List.map_nil]); first | done | rfl | (simp only [List.length_drop, List.length_take]; rfl)) ?_
     with_reducible refine (lang_letter.calls (bt t169 x1001_1) true _ A10.out).mono ?_
     rintro e w' ⟨rfl, ⟨nd, rfl⟩⟩
     refine ⟨_, rfl, ?_⟩
     refine hK.out _ _ ⟨cellS81_0 HI0.out.1, cellS81_1 HI0.out.1⟩ (fun hHeld => ?_)
     clear hK K
     refine norm_ (by show Act.put _ (some 30) _ = _; simp only [mP]; rfl) ?_
     refine pM 21 31 HT_ ?_
     refine uM 22 32 HT_ ?_
     refine uM 23 33 HT_ ?_
     refine uM 24 34 HT_ ?_
     refine uM 25 35 HT_ ?_
     refine uM 26 36 HT_ ?_
     refine uM 27 37 HT_ ?_
     refine uM 28 38 HT_ ?_
     refine uM 29 39 HT_ ?_
     refine uM 30 40 HT_ ?_
     refine uM 31 41 HT_ ?_
     refine uM 32 42 HT_ ?_
     refine uM 33 43 HT_ ?_
     refine uM 34 44 HT_ ?_
     refine uM 35 45 HT_ ?_
     refine uM 36 46 HT_ ?_
     refine uM 37 47 HT_ ?_
     refine uM 38 48 HT_ ?_
     refine uM 39 49 HT_ ?_
     refine uM 40 50 HT_ ?_
     refine uM 41 51 HT_ ?_
     refine uM 42 52 HT_ ?_
     refine uM 43 53 HT_ ?_
     refine uM 44 54 HT_ ?_
     refine uM 45 55 HT_ ?_
     refine uM 46 56 HT_ ?_
     refine uM 47 57 HT_ ?_
     refine uM 48 58 HT_ ?_
     refine uM 49 59 HT_ ?_
     refine uM 50 60 HT_ ?_
     refine uM 51 61 HT_ ?_
     refine pM 52 62 HT_ ?_
     refine pM 53 63 HT_ ?_
     refine done_ (done_of HT_.out (by kernel_rfl)) ?_
     try go_wp2
     go_meet
     case rel => exact ⟨_, (true), rfl, H', ⟨by have := HK1.out; first | omega | exact Nat.le_refl _⟩, HI0, HK, ⟨hO HB⟩⟩
    replace c11 := Bool.eq_false_iff.mpr c11
    subst c11
    rw [if_neg (show ¬ (false = true) by decide)] at H
    by_cases c13 : x1001_1 > t170
    rotate_left
    ·
     rw [if_neg c13] at H
     have c13b0 := decide_eq_false c13
     clear c13
     have H' := Aside0.mk H
     clear H
     try go_wp2
     replace HI0 := Aside0.mk (IsS81.drew HI0.out); replace HK := Aside0.mk (keep_drew HK.out); replace HB := Aside0.mk (below_drew1 HB.out)
     have p9 : 0 ≤ (x1001_1 : Int) := of_decide_eq_true (by assumption)
     have q9 : x1001_1 < (t169.size : Int) := of_decide_eq_true (by assumption)
     have hx9 := bt_at t169 x1001_1
     replace p9 := eq_true p9
     replace q9 := eq_true q9
     refine start_ (n := 54) (S := fun w' => w'.cell? ⟨g, 0, none⟩ = some (.string t169) ∧ w'.cell? ⟨g, 1, none⟩ = some (.int .i64 x1001_1)) (ds := []) #[false, false, false, false, false, false, false, false, false, false, false, false, false, false, false, false, false, false, false, false, false, false, false, false, false, false, false, false, false, false, false, false, false, false, false, false, false, false, false, false, false, false, false, false, false, false, false, false, false, false, false, false, false, false] (by kernel_rfl) rfl rfl ⟨cellS81_0 HI0.out.1, cellS81_1 HI0.out.1⟩ (fun hHeld => ?_); refine with_tabW lang_reader_word.tab3 lang_reader_word.bits3 (fun HT_ HW_ => ?_)
     generalize wr.drew = w20 at HI0 HK HB hHeld ⊢
     refine pM 0 10 HT_ ?_
     refine pM 1 11 HT_ ?_
     refine pM 2 12 HT_ ?_
     refine tM 3 13 rfl HT_ HW_ (by rintro w' ⟨s0, s1⟩; go_simp; with_reducible rfl) hHeld ?_
     refine pM 4 14 HT_ ?_
     refine pM 5 15 HT_ ?_
     refine pM 6 16 HT_ ?_
     refine tM 7 17 rfl HT_ HW_ (by rintro w' ⟨s0, s1⟩; go_simp; with_reducible rfl) hHeld ?_
     refine pM 8 18 HT_ ?_
     refine pM 9 19 HT_ ?_
     refine pM 10 20 HT_ ?_
     refine pM 11 21 HT_ ?_
     refine pM 12 22 HT_ ?_
     refine pM 13 23 HT_ ?_
     refine tM 14 24 rfl HT_ HW_ (by rintro w' ⟨s0, s1⟩; go_simp; with_reducible rfl) hHeld ?_
     refine pM 15 25 HT_ ?_
     refine pM 16 26 HT_ ?_
     refine pM 17 27 HT_ ?_
     refine tM 18 28 rfl HT_ HW_ (by rintro w' ⟨s0, s1⟩; go_simp; with_reducible rfl) hHeld ?_
     refine take_ (i := 19) (N := some 29) (v := ?_) (a' := ?_) #[true, true, true, true, true, true, true, true, true, true, true, true, true, true, true, true, true, true, true, true, false, false, false, false, false, false, false, false, false, false, false, false, false, false, false, false, false, false, false, false, false, false, false, false, false, false, false, false, false, false, false, false, false, false] rfl rfl (take_ofW HT_.out HW_.out (by kernel_rfl)) (fun _ _ _ h => h) (Or.inl ⟨by rfl, ?_⟩) hHeld ?_ ?_
     rotate_left
     ·
      intro w' _
      go_simp
      with_reducible rfl
     rotate_left
     ·
      simp only [mP]
      rfl
     refine one_ (i := 20) (N := some 30) #[true, true, true, true, true, true, true, true, true, true, true, true, true, true, true, true, true, true, true, true, true, false, false, false, false, false, false, false, false, false, false, false, false, false, false, false, false, false, false, false, false, false, false, false, false, false, false, false, false, false, false, false, false, false] rfl rfl (one_of HT_.out (by kernel_rfl)) (by decide) (fun K hK => ?_)
     refine goes_ Tryd.func92 (by kernel_rfl) rfl #[.int .u8 (bt t169 x1001_1)] (by rfl) rfl rfl (by (try simp only [List.map_toArray, List.map_cons, List.map_nil]); first | done | rfl | (simp only [List.length_drop, List.length_take]; rfl)) ?_
     with_reducible refine (lang_letter.calls (bt t169 x1001_1) false _ A10.out).mono ?_
     rintro e w' ⟨rfl, ⟨nd, rfl⟩⟩
     refine ⟨_, rfl, ?_⟩
     refine hK.out _ _ ⟨cellS81_0 HI0.out.1, cellS81_1 HI0.out.1⟩ (fun hHeld => ?_)
     clear hK K
     refine norm_ (by show Act.put _ (some 30) _ = _; simp only [mP]; rfl) ?_
     refine pM 21 31 HT_ ?_
     refine pM 22 32 HT_ ?_
     refine pM 23 33 HT_ ?_
     refine pM 24 34 HT_ ?_
     refine tM 25 35 rfl HT_ HW_ (by rintro w' ⟨s0, s1⟩; go_simp; with_reducible rfl) hHeld ?_
     refine pM 26 36 HT_ ?_
     refine pM 27 37 HT_ ?_
     refine pM 28 38 HT_ ?_
     refine uM 29 39 HT_ ?_
     refine uM 30 40 HT_ ?_
     refine uM 31 41 HT_ ?_
     refine uM 32 42 HT_ ?_
     refine uM 33 43 HT_ ?_
     refine uM 34 44 HT_ ?_
     refine uM 35 45 HT_ ?_
     refine uM 36 46 HT_ ?_
     refine uM 37 47 HT_ ?_
     refine uM 38 48 HT_ ?_
     refine uM 39 49 HT_ ?_
     refine uM 40 50 HT_ ?_
     refine uM 41 51 HT_ ?_
     refine uM 42 52 HT_ ?_
     refine uM 43 53 HT_ ?_
     refine uM 44 54 HT_ ?_
     refine uM 45 55 HT_ ?_
     refine uM 46 56 HT_ ?_
     refine uM 47 57 HT_ ?_
     refine uM 48 58 HT_ ?_
     refine uM 49 59 HT_ ?_
     refine uM 50 60 HT_ ?_
     refine pM 51 61 HT_ ?_
     refine pM 52 62 HT_ ?_
     refine pM 53 63 HT_ ?_
     refine done_ (done_of HT_.out (by kernel_rfl)) ?_
     try go_wp2
     go_meet
     case rel => exact ⟨_, (false), rfl, H', ⟨by have := HK1.out; first | omega | exact Nat.le_refl _⟩, HI0, HK, ⟨hO HB⟩⟩
    rw [if_pos c13] at H
    have c13b0 := decide_eq_true c13
    clear c13
    replace H := Option.bind_eq_some_iff.mp H
    obtain ⟨t172, A150, H⟩ := H
    try dsimp only at H
    have A15 := Aside0.mk A150
    clear A150
    by_cases c16 : t172 = true
    ·
     subst c16
     rw [if_pos rfl] at H
     have H' := Aside0.mk H
     clear H
     try go_wp2
     replace HI0 := Aside0.mk (IsS81.drew HI0.out); replace HK := Aside0.mk (keep_drew HK.out); replace HB := Aside0.mk (below_drew1 HB.out)
     have p9 : 0 ≤ (x1001_1 : Int) := of_decide_eq_true (by assumption)
     have q9 : x1001_1 < (t169.size : Int) := of_decide_eq_true (by assumption)
     have hx9 := bt_at t169 x1001_1
     replace p9 := eq_true p9
     replace q9 := eq_true q9
     refine start_ (n := 54) (S := fun w' => w'.cell? ⟨g, 0, none⟩ = some (.string t169) ∧ w'.cell? ⟨g, 1, none⟩ = some (.int .i64 x1001_1)) (ds := []) #[false, false, false, false, false, false, false, false, false, false, false, false, false, false, false, false, false, false, false, false, false, false, false, false, false, false, false, false, false, false, false, false, false, false, false, false, false, false, false, false, false, false, false, false, false, false, false, false, false, false, false, false, false, false] (by kernel_rfl) rfl rfl ⟨cellS81_0 HI0.out.1, cellS81_1 HI0.out.1⟩ (fun hHeld => ?_); refine with_tabW lang_reader_word.tab3 lang_reader_word.bits3 (fun HT_ HW_ => ?_)
     generalize wr.drew = w17 at HI0 HK HB hHeld ⊢
     refine pM 0 10 HT_ ?_
     refine pM 1 11 HT_ ?_
     refine pM 2 12 HT_ ?_
     refine tM 3 13 rfl HT_ HW_ (by rintro w' ⟨s0, s1⟩; go_simp; with_reducible rfl) hHeld ?_
     refine pM 4 14 HT_ ?_
     refine pM 5 15 HT_ ?_
     refine pM 6 16 HT_ ?_
     refine tM 7 17 rfl HT_ HW_ (by rintro w' ⟨s0, s1⟩; go_simp; with_reducible rfl) hHeld ?_
     refine pM 8 18 HT_ ?_
     refine pM 9 19 HT_ ?_
     refine pM 10 20 HT_ ?_
     refine pM 11 21 HT_ ?_
     refine pM 12 22 HT_ ?_
     refine pM 13 23 HT_ ?_
     refine tM 14 24 rfl HT_ HW_ (by rintro w' ⟨s0, s1⟩; go_simp; with_reducible rfl) hHeld ?_
     refine pM 15 25 HT_ ?_
     refine pM 16 26 HT_ ?_
     refine pM 17 27 HT_ ?_
     refine tM 18 28 rfl HT_ HW_ (by rintro w' ⟨s0, s1⟩; go_simp; with_reducible rfl) hHeld ?_
     refine take_ (i := 19) (N := some 29) (v := ?_) (a' := ?_) #[true, true, true, true, true, true, true, true, true, true, true, true, true, true, true, true, true, true, true, true, false, false, false, false, false, false, false, false, false, false, false, false, false, false, false, false, false, false, false, false, false, false, false, false, false, false, false, false, false, false, false, false, false, false] rfl rfl (take_ofW HT_.out HW_.out (by kernel_rfl)) (fun _ _ _ h => h) (Or.inl ⟨by rfl, ?_⟩) hHeld ?_ ?_
     rotate_left
     ·
      intro w' _
      go_simp
      with_reducible rfl
     rotate_left
     ·
      simp only [mP]
      rfl
     refine one_ (i := 20) (N := some 30) #[true, true, true, true, true, true, true, true, true, true, true, true, true, true, true, true, true, true, true, true, true, false, false, false, false, false, false, false, false, false, false, false, false, false, false, false, false, false, false, false, false, false, false, false, false, false, false, false, false, false, false, false, false, false] rfl rfl (one_of HT_.out (by kernel_rfl)) (by decide) (fun K hK => ?_)
     refine goes_ Tryd.func92 (by kernel_rfl) rfl #[.int .u8 (bt t169 x1001_1)] (by rfl) rfl rfl (by (try simp only [List.map_toArray, List.map_cons, List.map_nil]); first | done | rfl | (simp only [List.length_drop, List.length_take]; rfl)) ?_
     with_reducible refine (lang_letter.calls (bt t169 x1001_1) false _ A10.out).mono ?_
     rintro e w' ⟨rfl, ⟨nd, rfl⟩⟩
     refine ⟨_, rfl, ?_⟩
     have p14 : 0 ≤ (x1001_1 : Int) := of_decide_eq_true (by assumption)
     have q14 : x1001_1 < (t169.size : Int) := of_decide_eq_true (by assumption)
     have hx14 := bt_at t169 x1001_1
     replace p14 := eq_true p14
     replace q14 := eq_true q14
     refine hK.out _ _ ⟨cellS81_0 HI0.out.1, cellS81_1 HI0.out.1⟩ (fun hHeld => ?_)
     clear hK K
     refine norm_ (by show Act.put _ (some 30) _ = _; simp only [mP]; rfl) ?_
     refine pM 21 31 HT_ ?_
     refine pM 22 32 HT_ ?_
     refine pM 23 33 HT_ ?_
     refine pM 24 34 HT_ ?_
     refine tM 25 35 rfl HT_ HW_ (by rintro w' ⟨s0, s1⟩; go_simp; with_reducible rfl) hHeld ?_
     refine pM 26 36 HT_ ?_
     refine pM 27 37 HT_ ?_
     refine pM 28 38 HT_ ?_
     refine pM 29 39 HT_ ?_
     refine pM 30 40 HT_ ?_
     refine pM 31 41 HT_ ?_
     refine tM 32 42 rfl HT_ HW_ (by rintro w' ⟨s0, s1⟩; go_simp; with_reducible rfl) hHeld ?_
     refine pM 33 43 HT_ ?_
     refine pM 34 44 HT_ ?_
     refine pM 35 45 HT_ ?_
     refine tM 36 46 rfl HT_ HW_ (by rintro w' ⟨s0, s1⟩; go_simp; with_reducible rfl) hHeld ?_
     refine take_ (i := 37) (N := some 47) (v := ?_) (a' := ?_) #[true, true, true, true, true, true, true, true, true, true, true, true, true, true, true, true, true, true, true, true, true, true, true, true, true, true, true, true, true, true, true, true, true, true, true, true, true, true, false, false, false, false, false, false, false, false, false, false, false, false, false, false, false, false] rfl rfl (take_ofW HT_.out HW_.out (by kernel_rfl)) (fun _ _ _ h => h) (Or.inl ⟨by rfl, ?_⟩) hHeld ?_ ?_
     rotate_left
     ·
      intro w' _
      go_simp
      with_reducible rfl
     rotate_left
     ·
      simp only [mP]
      rfl
     refine one_ (i := 38) (N := some 48) #[true, true, true, true, true, true, true, true, true, true, true, true, true, true, true, true, true, true, true, true, true, true, true, true, true, true, true, true, true, true, true, true, true, true, true, true, true, true, true, false, false, false, false, false, false, false, false, false, false, false, false, false, false, false] rfl rfl (one_of HT_.out (by kernel_rfl)) (by decide) (fun K hK => ?_)
     refine goes_ Tryd.func93 (by kernel_rfl) rfl #[.int .u8 (bt t169 x1001_1)] (by rfl) rfl rfl (by (try simp only [List.map_toArray, List.map_cons, List.map_nil]); first | done | rfl | (simp only [List.length_drop, List.length_take]; rfl)) ?_
     with_reducible refine (lang_digit.calls (bt t169 x1001_1) true _ A15.out).mono ?_
     rintro e w' ⟨rfl, ⟨nd, rfl⟩⟩
     refine ⟨_, rfl, ?_⟩
     refine hK.out _ _ ⟨cellS81_0 HI0.out.1, cellS81_1 HI0.out.1⟩ (fun hHeld => ?_)
     clear hK K
     refine norm_ (by show Act.put _ (some 48) _ = _; simp only [mP]; rfl) ?_
     refine pM 39 49 HT_ ?_
     refine uM 40 50 HT_ ?_
     refine uM 41 51 HT_ ?_
     refine uM 42 52 HT_ ?_
     refine uM 43 53 HT_ ?_
     refine uM 44 54 HT_ ?_
     refine uM 45 55 HT_ ?_
     refine uM 46 56 HT_ ?_
     refine uM 47 57 HT_ ?_
     refine uM 48 58 HT_ ?_
     refine uM 49 59 HT_ ?_
     refine pM 50 60 HT_ ?_
     refine pM 51 61 HT_ ?_
     refine pM 52 62 HT_ ?_
     refine pM 53 63 HT_ ?_
     refine done_ (done_of HT_.out (by kernel_rfl)) ?_
     try go_wp2
     go_meet
     case rel => exact ⟨_, (true), rfl, H', ⟨by have := HK1.out; first | omega | exact Nat.le_refl _⟩, HI0, HK, ⟨hO HB⟩⟩
    replace c16 := Bool.eq_false_iff.mpr c16
    subst c16
    rw [if_neg (show ¬ (false = true) by decide)] at H
    have H' := Aside0.mk H
    clear H
    try go_wp2
    replace HI0 := Aside0.mk (IsS81.drew HI0.out); replace HK := Aside0.mk (keep_drew HK.out); replace HB := Aside0.mk (below_drew1 HB.out)
    have p9 : 0 ≤ (x1001_1 : Int) := of_decide_eq_true (by assumption)
    have q9 : x1001_1 < (t169.size : Int) := of_decide_eq_true (by assumption)
    have hx9 := bt_at t169 x1001_1
    replace p9 := eq_true p9
    replace q9 := eq_true q9
    refine start_ (n := 54) (S := fun w' => w'.cell? ⟨g, 0, none⟩ = some (.string t169) ∧ w'.cell? ⟨g, 1, none⟩ = some (.int .i64 x1001_1)) (ds := []) #[false, false, false, false, false, false, false, false, false, false, false, false, false, false, false, false, false, false, false, false, false, false, false, false, false, false, false, false, false, false, false, false, false, false, false, false, false, false, false, false, false, false, false, false, false, false, false, false, false, false, false, false, false, false] (by kernel_rfl) rfl rfl ⟨cellS81_0 HI0.out.1, cellS81_1 HI0.out.1⟩ (fun hHeld => ?_); refine with_tabW lang_reader_word.tab3 lang_reader_word.bits3 (fun HT_ HW_ => ?_)
    generalize wr.drew = w19 at HI0 HK HB hHeld ⊢
    refine pM 0 10 HT_ ?_
    refine pM 1 11 HT_ ?_
    refine pM 2 12 HT_ ?_
    refine tM 3 13 rfl HT_ HW_ (by rintro w' ⟨s0, s1⟩; go_simp; with_reducible rfl) hHeld ?_
    refine pM 4 14 HT_ ?_
    refine pM 5 15 HT_ ?_
    refine pM 6 16 HT_ ?_
    refine tM 7 17 rfl HT_ HW_ (by rintro w' ⟨s0, s1⟩; go_simp; with_reducible rfl) hHeld ?_
    refine pM 8 18 HT_ ?_
    refine pM 9 19 HT_ ?_
    refine pM 10 20 HT_ ?_
    refine pM 11 21 HT_ ?_
    refine pM 12 22 HT_ ?_
    refine pM 13 23 HT_ ?_
    refine tM 14 24 rfl HT_ HW_ (by rintro w' ⟨s0, s1⟩; go_simp; with_reducible rfl) hHeld ?_
    refine pM 15 25 HT_ ?_
    refine pM 16 26 HT_ ?_
    refine pM 17 27 HT_ ?_
    refine tM 18 28 rfl HT_ HW_ (by rintro w' ⟨s0, s1⟩; go_simp; with_reducible rfl) hHeld ?_
    refine take_ (i := 19) (N := some 29) (v := ?_) (a' := ?_) #[true, true, true, true, true, true, true, true, true, true, true, true, true, true, true, true, true, true, true, true, false, false, false, false, false, false, false, false, false, false, false, false, false, false, false, false, false, false, false, false, false, false, false, false, false, false, false, false, false, false, false, false, false, false] rfl rfl (take_ofW HT_.out HW_.out (by kernel_rfl)) (fun _ _ _ h => h) (Or.inl ⟨by rfl, ?_⟩) hHeld ?_ ?_
    rotate_left
    ·
     intro w' _
     go_simp
     with_reducible rfl
    rotate_left
    ·
     simp only [mP]
     rfl
    refine one_ (i := 20) (N := some 30) #[true, true, true, true, true, true, true, true, true, true, true, true, true, true, true, true, true, true, true, true, true, false, false, false, false, false, false, false, false, false, false, false, false, false, false, false, false, false, false, false, false, false, false, false, false, false, false, false, false, false, false, false, false, false] rfl rfl (one_of HT_.out (by kernel_rfl)) (by decide) (fun K hK => ?_)
    refine goes_ Tryd.func92 (by kernel_rfl) rfl #[.int .u8 (bt t169 x1001_1)] (by rfl) rfl rfl (by (try simp only [List.map_toArray, List.map_cons, List.map_nil]); first | done | rfl | (simp only [List.length_drop, List.length_take]; rfl)) ?_
    with_reducible refine (lang_letter.calls (bt t169 x1001_1) false _ A10.out).mono ?_
    rintro e w' ⟨rfl, ⟨nd, rfl⟩⟩
    refine ⟨_, rfl, ?_⟩
    have p14 : 0 ≤ (x1001_1 : Int) := of_decide_eq_true (by assumption)
    have q14 : x1001_1 < (t169.size : Int) := of_decide_eq_true (by assumption)
    have hx14 := bt_at t169 x1001_1
    replace p14 := eq_true p14
    replace q14 := eq_true q14
    refine hK.out _ _ ⟨cellS81_0 HI0.out.1, cellS81_1 HI0.out.1⟩ (fun hHeld => ?_)
    clear hK K
    refine norm_ (by show Act.put _ (some 30) _ = _; simp only [mP]; rfl) ?_
    refine pM 21 31 HT_ ?_
    refine pM 22 32 HT_ ?_
    refine pM 23 33 HT_ ?_
    refine pM 24 34 HT_ ?_
    refine tM 25 35 rfl HT_ HW_ (by rintro w' ⟨s0, s1⟩; go_simp; with_reducible rfl) hHeld ?_
    refine pM 26 36 HT_ ?_
    refine pM 27 37 HT_ ?_
    refine pM 28 38 HT_ ?_
    refine pM 29 39 HT_ ?_
    refine pM 30 40 HT_ ?_
    refine pM 31 41 HT_ ?_
    refine tM 32 42 rfl HT_ HW_ (by rintro w' ⟨s0, s1⟩; go_simp; with_reducible rfl) hHeld ?_
    refine pM 33 43 HT_ ?_
    refine pM 34 44 HT_ ?_
    refine pM 35 45 HT_ ?_
    refine tM 36 46 rfl HT_ HW_ (by rintro w' ⟨s0, s1⟩; go_simp; with_reducible rfl) hHeld ?_
    refine take_ (i := 37) (N := some 47) (v := ?_) (a' := ?_) #[true, true, true, true, true, true, true, true, true, true, true, true, true, true, true, true, true, true, true, true, true, true, true, true, true, true, true, true, true, true, true, true, true, true, true, true, true, true, false, false, false, false, false, false, false, false, false, false, false, false, false, false, false, false] rfl rfl (take_ofW HT_.out HW_.out (by kernel_rfl)) (fun _ _ _ h => h) (Or.inl ⟨by rfl, ?_⟩) hHeld ?_ ?_
    rotate_left
    ·
     intro w' _
     go_simp
     with_reducible rfl
    rotate_left
    ·
     simp only [mP]
     rfl
    refine one_ (i := 38) (N := some 48) #[true, true, true, true, true, true, true, true, true, true, true, true, true, true, true, true, true, true, true, true, true, true, true, true, true, true, true, true, true, true, true, true, true, true, true, true, true, true, true, false, false, false, false, false, false, false, false, false, false, false, false, false, false, false] rfl rfl (one_of HT_.out (by kernel_rfl)) (by decide) (fun K hK => ?_)
    refine goes_ Tryd.func93 (by kernel_rfl) rfl #[.int .u8 (bt t169 x1001_1)] (by rfl) rfl rfl (by (try simp only [List.map_toArray, List.map_cons, List.map_nil]); first | done | rfl | (simp only [List.length_drop, List.length_take]; rfl)) ?_
    with_reducible refine (lang_digit.calls (bt t169 x1001_1) false _ A15.out).mono ?_
    rintro e w' ⟨rfl, ⟨nd, rfl⟩⟩
    refine ⟨_, rfl, ?_⟩
    have p18 : 0 ≤ (x1001_1 : Int) := of_decide_eq_true (by assumption)
    have q18 : x1001_1 < (t169.size : Int) := of_decide_eq_true (by assumption)
    have hx18 := bt_at t169 x1001_1
    replace p18 := eq_true p18
    replace q18 := eq_true q18
    refine hK.out _ _ ⟨cellS81_0 HI0.out.1, cellS81_1 HI0.out.1⟩ (fun hHeld => ?_)
    clear hK K
    refine norm_ (by show Act.put _ (some 48) _ = _; simp only [mP]; rfl) ?_
    refine pM 39 49 HT_ ?_
    refine pM 40 50 HT_ ?_
    refine pM 41 51 HT_ ?_
    refine pM 42 52 HT_ ?_
    refine tM 43 53 rfl HT_ HW_ (by rintro w' ⟨s0, s1⟩; go_simp; with_reducible rfl) hHeld ?_
    refine pM 44 54 HT_ ?_
    refine pM 45 55 HT_ ?_
    refine pM 46 56 HT_ ?_
    refine tM 47 57 rfl HT_ HW_ (by rintro w' ⟨s0, s1⟩; go_simp; with_reducible rfl) hHeld ?_
    refine take_ (i := 48) (N := some 58) (v := ?_) (a' := ?_) #[true, true, true, true, true, true, true, true, true, true, true, true, true, true, true, true, true, true, true, true, true, true, true, true, true, true, true, true, true, true, true, true, true, true, true, true, true, true, true, true, true, true, true, true, true, true, true, true, true, false, false, false, false, false] rfl rfl (take_ofW HT_.out HW_.out (by kernel_rfl)) (fun _ _ _ h => h) (Or.inl ⟨by rfl, ?_⟩) hHeld ?_ ?_
    rotate_left
    ·
     intro w' _
     go_simp
     with_reducible rfl
    rotate_left
    ·
     simp only [mP]
     rfl
    refine pM 49 59 HT_ ?_
    refine pM 50 60 HT_ ?_
    refine pM 51 61 HT_ ?_
    refine pM 52 62 HT_ ?_
    refine pM 53 63 HT_ ?_
    refine done_ (done_of HT_.out (by kernel_rfl)) ?_
    try go_wp2
    go_meet
    case rel => exact ⟨_, (((bt t169 x1001_1) == 45)), rfl, H', ⟨by have := HK1.out; first | omega | exact Nat.le_refl _⟩, HI0, HK, ⟨hO HB⟩⟩
   case rest =>
    clear HC5; try clear p2; try clear c7; try clear c7b0; try clear c8; try clear c9
    obtain ⟨kq, x63_4, rfl, HA, HJ4, HI0, HK, HB⟩ := hcut
    cases kq with
    | zero => exact absurd HA.out (by simp [lang_reader_word.pj1])
    | succ kj4 =>
     have H := HA.out
     clear HA
     simp only [lang_reader_word.pj1] at H
     by_cases c22 : x63_4 = true
     ·
      subst c22
      rw [if_pos rfl] at H
      have H' := Aside0.mk H
      clear H
      obtain ⟨HGz23, hgz23⟩ := HI0.out
      have hcz23_0 := cellS81_0 HGz23; have hcz23_1 := cellS81_1 HGz23; have hfz23_0 := blk_frozen HGz23 0; have hfz23_1 := blk_frozen HGz23 1
      clear HGz23 hgz23
      go_wp2
      go_roundg kj4
      case measure => have := HK1.out; have := HJ4.out; omega
      case rel => exact ⟨(wrap64 (x1001_1 + 1)), H', ⟨by have := HK1.out; have := HJ4.out; omega⟩, ⟨by repeat (first | (with_reducible first | exact HI0.out | apply IsS81.alloc | apply IsS81.drewN | apply IsS81.drew | apply IsS81.set_0 | apply IsS81.set_1) | exact HI0.out)⟩, ⟨by repeat (first | (with_reducible first | exact HK.out | apply KeepBut.set_ | apply keep_drewN | apply keep_drew | apply keep_alloc) | exact HK.out)⟩, ⟨by repeat (first | (with_reducible first | exact HB.out | apply below_alloc | apply pw_below_drewN | apply below_drew1 | refine below_set ?_ (IsS81.ge HI0.out)) | exact HB.out)⟩⟩
     replace c22 := Bool.eq_false_iff.mpr c22
     subst c22
     rw [if_neg (show ¬ (false = true) by decide)] at H
     by_cases c24 : x1001_1 = t170
     rotate_left
     ·
      exact mNo c24 H
     clear H
     obtain ⟨HGz90, hgz90⟩ := HI0.out
     have hcz90_0 := cellS81_0 HGz90; have hcz90_1 := cellS81_1 HGz90; have hfz90_0 := blk_frozen HGz90 0; have hfz90_1 := blk_frozen HGz90 1
     clear HGz90 hgz90
     have c24b0 := beq_iff_eq.mpr c24
     clear c24
     go_wp2_with (first | (go_at_call 63; refine (lang_reader_fail.dies _ _).mono ?_; rintro e w9_ ⟨rfl, rfl⟩))
     exact ⟨rfl, rfl, HB.out, (by repeat (first | (with_reducible first | exact HK.out | apply KeepBut.set_ | apply keep_drewN | apply keep_drew | apply keep_alloc) | exact HK.out))⟩
/-- What follows a success, or the failing run. -/
def or_ {α : Type} (x : Option α) (f : α → Option Unit) (y : Option Unit) : Option Unit := match x with | some a => f a | none => y
theorem or_cases {α : Type} {x : Option α} {f : α → Option Unit} {y : Option Unit} (h : or_ x f y = some ()) : y = some () ∨ ∃ a, x = some a ∧ f a = some () := by
  cases x with
  | none => exact .inl h
  | some a => exact .inr ⟨a, rfl, h⟩
mutual
def lang_reader_expr.pl0 : Nat → ByteArray → Int → Int → ByteArray → Int → Option Unit
 | 0, _, _, _, _, _ => none
 | k + 1, x3, x4, x5, x1000, x1001 => if x5 ≤ 7 then ((lang_word.f x5).bind fun t194 => (if t194.toList = x3.toList then (lang_reader_expr.pl0 k x3 x5 (wrap64 (x5 + 1)) x1000 x1001) else (lang_reader_expr.pl0 k x3 x4 (wrap64 (x5 + 1)) x1000 x1001))) else (if x4 = 0 then (lang_reader_expr.pj1 k x3 x4 true x1000 x1001) else ((lang_reader_is.f k x1000 x1001 40).bind fun bt195 => (lang_reader_expr.pj1 k x3 x4 (!bt195.1) bt195.2.1 bt195.2.2)))
def lang_reader_expr.pj1 : Nat → ByteArray → Int → Bool → ByteArray → Int → Option Unit
 | 0, _, _, _, _, _ => none
 | k + 1, x3, x4, x25, x1000, x1001 => if x25 = true then none else (or_ (lang_reader_expr.f k x1000 x1001) (fun bt201 => (lang_reader_expr.pl1 k x4 (([bt201.1] : List (List (S43)))) bt201.2.1 bt201.2.2)) (lang_reader_expr.p k x1000 x1001))
def lang_reader_expr.pj3 : Nat → Int → List (List (S43)) → ByteArray → Int → Option Unit
 | 0, _, _, _, _ => none
 | k + 1, x4, x6, x1000, x1001 => (lang_numbered.f x4).bind fun t220 => (if t220 = true then (or_ (lang_reader_must.f k x1000 x1001 44) (fun bt221 => or_ (lang_reader_number.f k bt221.1 bt221.2) (fun bt223 => or_ (lang_reader_must.f k bt223.2.1 bt223.2.2 41) (fun _ => none) (lang_reader_must.p k bt223.2.1 bt223.2.2 41)) (lang_reader_number.p k bt221.1 bt221.2)) (lang_reader_must.p k x1000 x1001 44)) else (or_ (lang_reader_must.f k x1000 x1001 41) (fun _ => none) (lang_reader_must.p k x1000 x1001 41)))
def lang_reader_expr.pl1 : Nat → Int → List (List (S43)) → ByteArray → Int → Option Unit
 | 0, _, _, _, _ => none
 | k + 1, x4, x6, x1000, x1001 => if x4 = 2 then ((lang_reader_is.f k x1000 x1001 44).bind fun bt209 => (if bt209.1 = true then (or_ (lang_reader_expr.f k bt209.2.1 bt209.2.2) (fun bt212 => (if x6.length < 5864062014805 then (lang_reader_expr.pl1 k x4 (x6 ++ [bt212.1]) bt212.2.1 bt212.2.2) else (none))) (lang_reader_expr.p k bt209.2.1 bt209.2.2)) else (lang_reader_expr.pj3 k x4 x6 bt209.2.1 bt209.2.2))) else (lang_reader_expr.pj3 k x4 x6 x1000 x1001)
def lang_reader_expr.p : Nat → ByteArray → Int → Option Unit
 | 0, _, _ => none
 | k + 1, s0_0, s0_1 => or_ (lang_reader_word.f k s0_0 s0_1) (fun bt191 => (lang_reader_expr.pl0 k bt191.1 0 2 bt191.2.1 bt191.2.2)) (lang_reader_word.p k s0_0 s0_1)
end
set_option maxHeartbeats 8000000 in
set_option maxRecDepth 100000 in
theorem lang_reader_expr.dies (k : Nat) : ∀ (g : Nat) (s0_0 : ByteArray) (s0_1 : Int) (w0 w : World) (hI : IsS81 w0 w g s0_0 s0_1) (hB : Below w0.heap.size w0 w) (h : lang_reader_expr.p k s0_0 s0_1 = some ()),
  Calls Tryd.prog 61 #[.pointer (some ⟨g, 0, none⟩)] w fun e w' => e = .panicked formPanic ∧ Below w0.heap.size w0 w' ∧ KeepBut w w' g none := by
 induction k using Nat.strongRecOn with
 | _ k ih =>
 intro g s0_0 s0_1 w0 w hI hB h
 cases k with
 | zero => exact absurd h (by simp [lang_reader_expr.p])
 | succ k =>
 simp only [lang_reader_expr.p] at h
 have hu43 := Tryd.underlying43
 have HI0 := Aside0.mk hI
 have HK := Aside0.mk (KeepBut.refl w g none)
 have HL := Aside0.mk hB.size
 clear hI
 have HW0 := Aside0.mk hB.size
 have HB := Aside0.mk hB
 clear hB
 have H := h
 clear h
 rcases or_cases H with H | H
 ·
  go_enter Tryd.func61, Tryd.ntmps61
  go_wp2_with (first | (go_at_call 83; refine (lang_reader_word.dies _ g _ _ w0 _ (by repeat (first | (with_reducible first | exact HI0.out | apply IsS81.alloc | apply IsS81.drewN | apply IsS81.drew | apply IsS81.set_0 | apply IsS81.set_1) | exact HI0.out)) HB.out H).mono ?_; rintro e w9_ ⟨rfl, hb_, hk_⟩))
  exact ⟨rfl, rfl, hb_, KeepBut.trans (by repeat (first | (with_reducible first | exact HK.out | apply KeepBut.set_ | apply keep_drewN | apply keep_drew | apply keep_alloc) | exact HK.out)) hk_ (.inl rfl)⟩
 obtain ⟨⟨t191, t192, t193⟩, A20, H⟩ := H
 try dsimp only at H
 have A2 := Aside0.mk A20
 clear A20
 have H' := Aside0.mk H
 clear H
 go_enter Tryd.func61, Tryd.ntmps61
 go_wp2_with (first | ((with_reducible refine gate_callee (f := 83) rfl ?_); refine goesL_ (some 9) rfl rfl Tryd.func83 (by kernel_rfl) rfl #[.pointer (some ⟨g, 0, none⟩)] rfl (mA1 rfl) ?_; (with_reducible refine (lang_reader_word.calls k g s0_0 s0_1 t191 t192 t193 w0 _ ?side1 ?side2 A2.out).mono ?_); (case side1 => repeat (first | (with_reducible first | exact HI0.out | apply IsS81.alloc | apply IsS81.drewN | apply IsS81.drew | apply IsS81.set_0 | apply IsS81.set_1) | exact HI0.out)); (case side2 => repeat (first | (with_reducible first | exact HB.out | apply below_alloc | apply pw_below_drewN | apply below_drew1 | refine below_set ?_ (IsS81.ge HI0.out)) | exact HB.out)); rintro e w3 ⟨rfl, hi, hb, hk⟩; refine ⟨_, rfl, ?_⟩; replace HK := Aside0.mk (KeepBut.trans (by repeat (first | (with_reducible first | exact HK.out | apply KeepBut.set_ | apply keep_drewN | apply keep_drew | apply keep_alloc) | exact HK.out)) hk (.inl rfl)); replace HB := Aside0.mk hb; replace HI0 := Aside0.mk (hi); (try clear hb)))
 go_loopg [4, 5] k (fun kq v4 v5 w' => ∃ (x4_1 : Int) (x5_1 : Int), v4 = .int .i64 x4_1 ∧ v5 = .int .i64 x5_1 ∧ Aside0 (lang_reader_expr.pl0 kq t191 x4_1 x5_1 t192 t193 = some ()) ∧ Aside0 (kq ≤ k) ∧ Aside0 (IsS81 w0 w' g t192 t193) ∧ Aside0 (KeepBut w w' g none) ∧ Aside0 (Below w0.heap.size w0 w'))
 case atStart => exact ⟨(0), (2), rfl, rfl, H', ⟨Nat.le_refl _⟩, HI0, HK, ⟨HB.out⟩⟩
 case round =>
  clear H'
  obtain ⟨x4_1, x5_1, rfl, rfl, HA, HK1, HI0, HK, HB⟩ := hrel
  cases gk with
  | zero => exact absurd HA.out (by simp [lang_reader_expr.pl0])
  | succ k1 =>
   have H := HA.out
   clear HA
   simp only [lang_reader_expr.pl0] at H
   by_cases c4 : x5_1 ≤ 7
   ·
    rw [if_pos c4] at H
    have c4b0 := decide_eq_true c4
    clear c4
    replace H := Option.bind_eq_some_iff.mp H
    obtain ⟨t194, A50, H⟩ := H
    try dsimp only at H
    have A5 := Aside0.mk A50
    clear A50
    by_cases c6 : t194.toList = t191.toList
    rotate_left
    ·
     rw [if_neg c6] at H
     have c6b0 := beq_eq_false_iff_ne.mpr c6
     have c6b1 := bne_iff_ne.mpr c6
     have H' := Aside0.mk H
     clear H
     go_wp2_with (first | ((with_reducible refine gate_callee (f := 52) rfl ?_); refine goesL_ (some 15) rfl rfl Tryd.func52 (by kernel_rfl) rfl #[.int .i64 x5_1] rfl (mA1 rfl) ?_; (with_reducible refine (lang_word.calls x5_1 t194 _ A5.out).mono ?_); rintro e w' ⟨rfl, ⟨nd, rfl⟩⟩; refine ⟨_, rfl, ?_⟩))
     go_roundg k1
     case measure => have := HK1.out; omega
     case rel => exact ⟨(x4_1), (wrap64 (x5_1 + 1)), rfl, rfl, H', ⟨by have := HK1.out; omega⟩, HI0, HK, ⟨hO HB⟩⟩
    rw [if_pos c6] at H
    have c6b0 := beq_iff_eq.mpr c6
    have c6b1 := bne_eq_false_iff_eq.mpr c6
    clear c6
    have H' := Aside0.mk H
    clear H
    go_wp2_with (first | ((with_reducible refine gate_callee (f := 52) rfl ?_); refine goesL_ (some 15) rfl rfl Tryd.func52 (by kernel_rfl) rfl #[.int .i64 x5_1] rfl (mA1 rfl) ?_; (with_reducible refine (lang_word.calls x5_1 t194 _ A5.out).mono ?_); rintro e w' ⟨rfl, ⟨nd, rfl⟩⟩; refine ⟨_, rfl, ?_⟩))
    go_roundg k1
    case measure => have := HK1.out; omega
    case rel => exact ⟨(x5_1), (wrap64 (x5_1 + 1)), rfl, rfl, H', ⟨by have := HK1.out; omega⟩, HI0, HK, ⟨hO HB⟩⟩
   rw [if_neg c4] at H
   have c4b0 := decide_eq_false c4
   clear c4
   have HC7 := Aside0.mk H
   clear H
   go_upto_region 8 with (fail)
   go_cut [25] (fun v25 wc => ∃ (kq : Nat) (x25_6 : Bool) (x1000_6 : ByteArray) (x1001_6 : Int), v25 = .bool x25_6 ∧ Aside0 (lang_reader_expr.pj1 kq t191 x4_1 x25_6 x1000_6 x1001_6 = some ()) ∧ Aside0 (kq ≤ k1) ∧ Aside0 (IsS81 w0 wc g x1000_6 x1001_6) ∧ Aside0 (KeepBut w wc g none) ∧ Aside0 (Below w0.heap.size w0 wc))
   case first =>
    have H := HC7.out
    clear HC7
    by_cases c8 : x4_1 = 0
    ·
     rw [if_pos c8] at H
     have c8b0 := beq_iff_eq.mpr c8
     have c8b1 := bne_eq_false_iff_eq.mpr c8
     clear c8
     (first | rw [c8b0] | (simp only [i64_w, i32_w]; rw [c8b0]) | skip)
     have H' := Aside0.mk H
     clear H
     go_wp2
     go_meet
     case rel => exact ⟨_, (true), (t192), (t193), rfl, H', ⟨by have := HK1.out; first | omega | exact Nat.le_refl _⟩, HI0, HK, ⟨HB.out⟩⟩
    rw [if_neg c8] at H
    have c8b0 := beq_eq_false_iff_ne.mpr c8
    have c8b1 := bne_iff_ne.mpr c8
    (first | rw [c8b0] | (simp only [i64_w, i32_w]; rw [c8b0]) | skip)
    replace H := Option.bind_eq_some_iff.mp H
    obtain ⟨⟨t195, t196, t197⟩, A90, H⟩ := H
    try dsimp only at H
    have A9 := Aside0.mk A90
    clear A90
    have H' := Aside0.mk H
    clear H
    go_wp2_with (first | (go_at_call 84; (with_reducible refine (lang_reader_is.calls k1 g t192 t193 40 t195 t196 t197 w0 _ ?side1 ?side2 A9.out).mono ?_); (case side1 => repeat (first | (with_reducible first | exact HI0.out | apply IsS81.alloc | apply IsS81.drewN | apply IsS81.drew | apply IsS81.set_0 | apply IsS81.set_1) | exact HI0.out)); (case side2 => repeat (first | (with_reducible first | exact HB.out | apply below_alloc | apply pw_below_drewN | apply below_drew1 | refine below_set ?_ (IsS81.ge HI0.out)) | exact HB.out)); rintro e w10 ⟨rfl, hi, hb, hk⟩; replace HK := Aside0.mk (KeepBut.trans (by repeat (first | (with_reducible first | exact HK.out | apply KeepBut.set_ | apply keep_drewN | apply keep_drew | apply keep_alloc) | exact HK.out)) hk (.inl rfl)); replace HB := Aside0.mk hb; replace HI0 := Aside0.mk (hi); (try clear hb)))
    go_meet
    case rel => exact ⟨_, (!t195), (t196), (t197), rfl, H', ⟨by have := HK1.out; first | omega | exact Nat.le_refl _⟩, HI0, HK, ⟨HB.out⟩⟩
   case rest =>
    clear HC7; try clear p2; try clear c4; try clear c4b0; try clear c5; try clear c6; try clear c6b0; try clear c6b1; try clear p6; try clear c8; try clear c8b0; try clear c8b1
    obtain ⟨kq, x25_6, x1000_6, x1001_6, rfl, HA, HJ6, HI0, HK, HB⟩ := hcut
    cases kq with
    | zero => exact absurd HA.out (by simp [lang_reader_expr.pj1])
    | succ kj6 =>
     have H := HA.out
     clear HA
     simp only [lang_reader_expr.pj1] at H
     by_cases c11 : x25_6 = true
     ·
      subst c11
      have H1 := H
      rw [if_pos rfl] at H1
      clear H
      have H := H1
      clear H1
      exact absurd H (by simp)
     replace c11 := Bool.eq_false_iff.mpr c11
     subst c11
     have H1 := H
     rw [if_neg (show ¬ (false = true) by decide)] at H1
     clear H
     have H := H1
     clear H1
     rcases or_cases H with H | H
     ·
      go_wp2_with (first | (go_at_call 61; refine (ih _ (by have := HK1.out; have := HJ6.out; omega) g _ _ w0 _ (by repeat (first | (with_reducible first | exact HI0.out | apply IsS81.alloc | apply IsS81.drewN | apply IsS81.drew | apply IsS81.set_0 | apply IsS81.set_1) | exact HI0.out)) HB.out H).mono ?_; rintro e w9_ ⟨rfl, hb_, hk_⟩))
      exact ⟨rfl, rfl, hb_, KeepBut.trans (by repeat (first | (with_reducible first | exact HK.out | apply KeepBut.set_ | apply keep_drewN | apply keep_drew | apply keep_alloc) | exact HK.out)) hk_ (.inl rfl)⟩
     obtain ⟨⟨t201, t204, t205⟩, A140, H⟩ := H
     try dsimp only at H
     have A14 := Aside0.mk A140
     clear A140
     obtain ⟨y206, hy206⟩ : ∃ y_ : List (List (S43)), y_ = (([t201] : List (List (S43)))) := ⟨_, rfl⟩
     rw [← hy206] at H
     have Ny206 := Aside0.mk hy206
     clear hy206
     have HC15 := Aside0.mk H
     clear H
     go_upto_block 2 with (first | ((with_reducible refine gate_callee (f := 61) rfl ?_); refine goesL_ (some 30) rfl rfl Tryd.func61 (by kernel_rfl) rfl #[.pointer (some ⟨g, 0, none⟩)] rfl (mA1 rfl) ?_; (with_reducible refine (lang_reader_expr.calls kj6 g x1000_6 x1001_6 t201 t204 t205 w0 _ ?side1 ?side2 A14.out).mono ?_); (case side1 => repeat (first | (with_reducible first | exact HI0.out | apply IsS81.alloc | apply IsS81.drewN | apply IsS81.drew | apply IsS81.set_0 | apply IsS81.set_1) | exact HI0.out)); (case side2 => repeat (first | (with_reducible first | exact HB.out | apply below_alloc | apply pw_below_drewN | apply below_drew1 | refine below_set ?_ (IsS81.ge HI0.out)) | exact HB.out)); rintro e w16 ⟨v202, rfl, ho0, hi, hb, hk⟩; refine ⟨_, rfl, ?_⟩; have HO203 := Aside0.mk (Kd.R_lower ho0 (keep_size (w := w) (g := g) (row := none) (by repeat (first | (with_reducible first | exact HK.out | apply KeepBut.set_ | apply keep_drewN | apply keep_drew | apply keep_alloc) | exact HK.out)))); replace HK := Aside0.mk (KeepBut.trans (by repeat (first | (with_reducible first | exact HK.out | apply KeepBut.set_ | apply keep_drewN | apply keep_drew | apply keep_alloc) | exact HK.out)) hk (.inl rfl)); replace HB := Aside0.mk hb; replace HI0 := Aside0.mk (hi); (try clear hb); (try clear ho0); obtain ⟨Ao17, co17, eo17⟩ := Kd.R_slice HO203.out; subst eo17) | ((with_reducible refine gate_dst (N := 31) rfl ?_); refine Kd.N_lit (Kd.slice 43 k43) _ 22 ?hg (N' := 31) ?hd (xs := ([t201] : List (List (S43)))) (inner := [.slice Ao17 t201.length co17]) (ok := (fun k_ => k_ ≠ g)) (okp := (fun k_ => k_ ≠ g)) ?hr ?hp (fun _ hk => hk) ((show ∀ k_, w16.heap.size ≤ k_ → (fun k_ => k_ ≠ g) k_ from fun k_ hk => IsS81.fresh (by repeat (first | (with_reducible first | exact HI0.out | apply IsS81.alloc | apply IsS81.drewN | apply IsS81.drew | apply IsS81.set_0 | apply IsS81.set_1) | exact HI0.out)) k_ hk) _ (Nat.le_refl _)) (Below.refl _ _) (Nat.le_refl _) (by simp) ?_; (case hd => rfl); (case hg => rfl); (case hr => first | (go_simp; done) | (go_simp; rfl)); (case hp => exact (Reps.one (show Kd.FK (Kd.slice 43 k43) _ _ t201 [.slice Ao17 t201.length co17] from (Kd.FK_slice_mk (Kd.R_reads' (Kd.R_mono (ok' := (fun k_ => k_ ≠ g)) (IsS81.apart HI0.out (HO203.out) (by decide)) (fun k_ hk => hk.2))).2.1 (Kd.R_F (Kd.R_mono (ok' := (fun k_ => k_ ≠ g)) (IsS81.apart HI0.out (HO203.out) (by decide)) (fun k_ hk => hk.2))))) (Reps.none _ _))); intro v207 w18 ho19 hb hg_ hnew_; clear hg_ hnew_; (first | rw [← Ny206.out] at ho19 | (simp only [Int.reduceToNat] at ho19; rw [← Ny206.out] at ho19)); have HO208 := Aside0.mk (Kd.N_lower ho19 (keep_size (w := w) (g := g) (row := none) (by repeat (first | (with_reducible first | exact HK.out | apply KeepBut.set_ | apply keep_drewN | apply keep_drew | apply keep_alloc) | exact HK.out)))); replace HI0 := Aside0.mk (IsS81.below (by repeat (first | (with_reducible first | exact HI0.out | apply IsS81.alloc | apply IsS81.drewN | apply IsS81.drew | apply IsS81.set_0 | apply IsS81.set_1) | exact HI0.out)) hb); replace HK := Aside0.mk (KeepBut.trans (by repeat (first | (with_reducible first | exact HK.out | apply KeepBut.set_ | apply keep_drewN | apply keep_drew | apply keep_alloc) | exact HK.out)) (KeepBut.of_below hb g none) (.inl rfl)); replace HB := mSt HB hb; clear HO203; clear hb ho19))
     (try simp only [Act.put, List.setIfInBounds_toArray, List.set_cons_zero, List.set_cons_succ])
     go_cut [6] (fun v6 wc => ∃ (kq : Nat) (x6_14 : List (List (S43))) (x1000_14 : ByteArray) (x1001_14 : Int), Aside0 (lang_reader_expr.pj3 kq x4_1 x6_14 x1000_14 x1001_14 = some ()) ∧ Aside0 (kq ≤ kj6) ∧ Aside0 (Kd.N (Kd.slice 43 k43) 22 wc w.heap.size (fun k_ => k_ ≠ g) v6 x6_14) ∧ Aside0 (IsS81 w0 wc g x1000_14 x1001_14) ∧ Aside0 (KeepBut w wc g none) ∧ Aside0 (Below w0.heap.size w0 wc))
     case first =>
      have H := HC15.out
      clear HC15
      have H' := Aside0.mk H
      clear H
      go_wp2
      go_loopg [6] kj6 (fun kq v6 w' => ∃ (x6_3 : List (List (S43))) (x1000_3 : ByteArray) (x1001_3 : Int), Aside0 (lang_reader_expr.pl1 kq x4_1 x6_3 x1000_3 x1001_3 = some ()) ∧ Aside0 (kq ≤ kj6) ∧ Aside0 (Kd.N (Kd.slice 43 k43) 22 w' w.heap.size (fun k_ => k_ ≠ g) v6 x6_3) ∧ Aside0 (IsS81 w0 w' g x1000_3 x1001_3) ∧ Aside0 (KeepBut w w' g none) ∧ Aside0 (Below w0.heap.size w0 w'))
      case atStart => exact ⟨(y206), (t204), (t205), H', ⟨Nat.le_refl _⟩, HO208, HI0, HK, ⟨HB.out⟩⟩
      case round =>
       clear H'
       try clear c1; try clear p2; try clear c4; try clear c4b0; try clear c5; try clear c6; try clear c6b0; try clear c6b1; try clear p6; try clear c7; try clear c8; try clear c8b0; try clear c8b1; try clear c11
       obtain ⟨x6_3, x1000_3, x1001_3, HA, HK3, HO_6, HI0, HK, HB⟩ := hrel
       cases gk with
       | zero => exact absurd HA.out (by simp [lang_reader_expr.pl1])
       | succ k3 =>
        have H := HA.out
        clear HA
        simp only [lang_reader_expr.pl1] at H
        by_cases c20 : x4_1 = 2
        rotate_left
        ·
         rw [if_neg c20] at H
         have c20b0 := beq_eq_false_iff_ne.mpr c20
         have c20b1 := bne_iff_ne.mpr c20
         (first | rw [c20b0] | (simp only [i64_w, i32_w]; rw [c20b0]) | skip)
         have H' := Aside0.mk H
         clear H
         go_wp2
         go_meet
         case rel => exact ⟨_, (x6_3), (x1000_3), (x1001_3), H', ⟨by have := HK1.out; have := HJ6.out; have := HK3.out; first | omega | exact Nat.le_refl _⟩, HO_6, HI0, HK, ⟨HB.out⟩⟩
        rw [if_pos c20] at H
        have c20b0 := beq_iff_eq.mpr c20
        have c20b1 := bne_eq_false_iff_eq.mpr c20
        clear c20
        (first | rw [c20b0] | (simp only [i64_w, i32_w]; rw [c20b0]) | skip)
        replace H := Option.bind_eq_some_iff.mp H
        obtain ⟨⟨t209, t210, t211⟩, A210, H⟩ := H
        try dsimp only at H
        have A21 := Aside0.mk A210
        clear A210
        by_cases c22 : t209 = true
        rotate_left
        ·
         replace c22 := Bool.eq_false_iff.mpr c22
         subst c22
         have H1 := H
         rw [if_neg (show ¬ (false = true) by decide)] at H1
         clear H
         have H := H1
         clear H1
         have H' := Aside0.mk H
         clear H
         go_wp2_with (first | (go_at_call 84; (with_reducible refine (lang_reader_is.calls k3 g x1000_3 x1001_3 44 false t210 t211 w0 _ ?side1 ?side2 A21.out).mono ?_); (case side1 => repeat (first | (with_reducible first | exact HI0.out | apply IsS81.alloc | apply IsS81.drewN | apply IsS81.drew | apply IsS81.set_0 | apply IsS81.set_1) | exact HI0.out)); (case side2 => repeat (first | (with_reducible first | exact HB.out | apply below_alloc | apply pw_below_drewN | apply below_drew1 | refine below_set ?_ (IsS81.ge HI0.out)) | exact HB.out)); rintro e w29 ⟨rfl, hi, hb, hk⟩; replace HO_6 := Aside0.mk (Kd.N_mono (Kd.N_keep (Kd.N_mono (ok := fun k_ => k_ ≠ g) HO_6.out (fun k_ hk_ => (⟨hk_, hk_⟩ : _ ∧ k_ ≠ g))) hk (fun _ h => h.2)) (fun _ h => h.1)); replace HK := Aside0.mk (KeepBut.trans (by repeat (first | (with_reducible first | exact HK.out | apply KeepBut.set_ | apply keep_drewN | apply keep_drew | apply keep_alloc) | exact HK.out)) hk (.inl rfl)); replace HB := Aside0.mk hb; replace HI0 := Aside0.mk (hi); (try clear hb)))
         go_meet
         case rel => exact ⟨_, (x6_3), (t210), (t211), H', ⟨by have := HK1.out; have := HJ6.out; have := HK3.out; first | omega | exact Nat.le_refl _⟩, HO_6, HI0, HK, ⟨HB.out⟩⟩
        subst c22
        have H1 := H
        rw [if_pos rfl] at H1
        clear H
        have H := H1
        clear H1
        rcases or_cases H with H | H
        ·
         go_wp2_with (first | (go_at_call 84; (with_reducible refine (lang_reader_is.calls k3 g x1000_3 x1001_3 44 true t210 t211 w0 _ ?side1 ?side2 A21.out).mono ?_); (case side1 => repeat (first | (with_reducible first | exact HI0.out | apply IsS81.alloc | apply IsS81.drewN | apply IsS81.drew | apply IsS81.set_0 | apply IsS81.set_1) | exact HI0.out)); (case side2 => repeat (first | (with_reducible first | exact HB.out | apply below_alloc | apply pw_below_drewN | apply below_drew1 | refine below_set ?_ (IsS81.ge HI0.out)) | exact HB.out)); rintro e w25 ⟨rfl, hi, hb, hk⟩; replace HO_6 := Aside0.mk (Kd.N_mono (Kd.N_keep (Kd.N_mono (ok := fun k_ => k_ ≠ g) HO_6.out (fun k_ hk_ => (⟨hk_, hk_⟩ : _ ∧ k_ ≠ g))) hk (fun _ h => h.2)) (fun _ h => h.1)); replace HK := Aside0.mk (KeepBut.trans (by repeat (first | (with_reducible first | exact HK.out | apply KeepBut.set_ | apply keep_drewN | apply keep_drew | apply keep_alloc) | exact HK.out)) hk (.inl rfl)); replace HB := Aside0.mk hb; replace HI0 := Aside0.mk (hi); (try clear hb)) | (go_at_call 61; refine (ih _ (by have := HK1.out; have := HJ6.out; have := HK3.out; omega) g _ _ w0 _ (by repeat (first | (with_reducible first | exact HI0.out | apply IsS81.alloc | apply IsS81.drewN | apply IsS81.drew | apply IsS81.set_0 | apply IsS81.set_1) | exact HI0.out)) HB.out H).mono ?_; rintro e w9_ ⟨rfl, hb_, hk_⟩))
         exact ⟨rfl, rfl, hb_, KeepBut.trans (by repeat (first | (with_reducible first | exact HK.out | apply KeepBut.set_ | apply keep_drewN | apply keep_drew | apply keep_alloc) | exact HK.out)) hk_ (.inl rfl)⟩
        obtain ⟨⟨t212, t215, t216⟩, A230, H⟩ := H
        try dsimp only at H
        have A23 := Aside0.mk A230
        clear A230
        obtain ⟨c24, H⟩ : (x6_3.length < 5864062014805) ∧ _ := mIf H
        have LMc24 := Aside0.mk c24
        clear c24
        obtain ⟨y217, hy217⟩ : ∃ y_ : List (List (S43)), y_ = (x6_3 ++ [t212]) := ⟨_, rfl⟩
        rw [← hy217] at H
        have Ny217 := Aside0.mk hy217
        clear hy217
        have H' := Aside0.mk H
        clear H
        go_wp2_with (first | (go_at_call 84; (with_reducible refine (lang_reader_is.calls k3 g x1000_3 x1001_3 44 true t210 t211 w0 _ ?side1 ?side2 A21.out).mono ?_); (case side1 => repeat (first | (with_reducible first | exact HI0.out | apply IsS81.alloc | apply IsS81.drewN | apply IsS81.drew | apply IsS81.set_0 | apply IsS81.set_1) | exact HI0.out)); (case side2 => repeat (first | (with_reducible first | exact HB.out | apply below_alloc | apply pw_below_drewN | apply below_drew1 | refine below_set ?_ (IsS81.ge HI0.out)) | exact HB.out)); rintro e w25 ⟨rfl, hi, hb, hk⟩; replace HO_6 := Aside0.mk (Kd.N_mono (Kd.N_keep (Kd.N_mono (ok := fun k_ => k_ ≠ g) HO_6.out (fun k_ hk_ => (⟨hk_, hk_⟩ : _ ∧ k_ ≠ g))) hk (fun _ h => h.2)) (fun _ h => h.1)); replace HK := Aside0.mk (KeepBut.trans (by repeat (first | (with_reducible first | exact HK.out | apply KeepBut.set_ | apply keep_drewN | apply keep_drew | apply keep_alloc) | exact HK.out)) hk (.inl rfl)); replace HB := Aside0.mk hb; replace HI0 := Aside0.mk (hi); (try clear hb)) | ((with_reducible refine gate_callee (f := 61) rfl ?_); refine goesL_ (some 40) rfl rfl Tryd.func61 (by kernel_rfl) rfl #[.pointer (some ⟨g, 0, none⟩)] rfl (mA1 rfl) ?_; (with_reducible refine (lang_reader_expr.calls k3 g t210 t211 t212 t215 t216 w0 _ ?side1 ?side2 A23.out).mono ?_); (case side1 => repeat (first | (with_reducible first | exact HI0.out | apply IsS81.alloc | apply IsS81.drewN | apply IsS81.drew | apply IsS81.set_0 | apply IsS81.set_1) | exact HI0.out)); (case side2 => repeat (first | (with_reducible first | exact HB.out | apply below_alloc | apply pw_below_drewN | apply below_drew1 | refine below_set ?_ (IsS81.ge HI0.out)) | exact HB.out)); rintro e w26 ⟨v213, rfl, ho0, hi, hb, hk⟩; refine ⟨_, rfl, ?_⟩; replace HO_6 := Aside0.mk (Kd.N_mono (Kd.N_told (Kd.N_oldK (Kd.N_mono (ok := fun k_ => k_ ≠ g) HO_6.out (fun k_ hk_ => (⟨hk_, hk_⟩ : _ ∧ k_ ≠ g))) hk) (Kd.R_base ho0)) (fun _ h_ => h_.1)); have HO214 := Aside0.mk (Kd.R_lower ho0 (keep_size (w := w) (g := g) (row := none) (by repeat (first | (with_reducible first | exact HK.out | apply KeepBut.set_ | apply keep_drewN | apply keep_drew | apply keep_alloc) | exact HK.out)))); replace HK := Aside0.mk (KeepBut.trans (by repeat (first | (with_reducible first | exact HK.out | apply KeepBut.set_ | apply keep_drewN | apply keep_drew | apply keep_alloc) | exact HK.out)) hk (.inl rfl)); replace HB := Aside0.mk hb; replace HI0 := Aside0.mk (hi); (try clear hb); (try clear ho0); obtain ⟨Ao28, co28, eo28⟩ := Kd.R_slice HO214.out; subst eo28) | ((with_reducible refine gate_builtin (b := .append) (xs := #[.tmp 38, .tmp 41]) rfl ?_); at_builtin; refine Kd.N_append (Kd.slice 43 k43) w.heap.size rfl (.tmp 38) (.tmp 41) 61 22 (.slice none 0 0) 24 rfl Tryd.underlying61 info22 rfl (by decide) (by omega) u6 x6_3 t212 [.slice Ao28 t212.length co28] (fun k_ => k_ ≠ g) (fun k_ => ((fun k_ => k_ ≠ g)) k_ ∧ some k_ ≠ (u6 : Value).ownBlock) rfl rfl ?aP (fun _ hk => hk) ?aF ?aO (Below.refl _ _) ?aS ?aL ?_; (case aP => exact (Kd.FK_slice_mk (Kd.R_reads' (Kd.R_mono (ok' := (fun k_ => ((fun k_ => k_ ≠ g)) k_ ∧ some k_ ≠ (u6 : Value).ownBlock)) (IsS81.apart HI0.out (Kd.R_apart' (HO214.out) (Kd.N_typed HO_6.out) (by decide)) (by decide)) (fun k_ hk => ⟨hk.2, hk.1.2⟩))).2.1 (Kd.R_F (Kd.R_mono (ok' := (fun k_ => ((fun k_ => k_ ≠ g)) k_ ∧ some k_ ≠ (u6 : Value).ownBlock)) (IsS81.apart HI0.out (Kd.R_apart' (HO214.out) (Kd.N_typed HO_6.out) (by decide)) (by decide)) (fun k_ hk => ⟨hk.2, hk.1.2⟩))))); (case aF => exact (fun k_ hk => IsS81.fresh (by repeat (first | (with_reducible first | exact HI0.out | apply IsS81.alloc | apply IsS81.drewN | apply IsS81.drew | apply IsS81.set_0 | apply IsS81.set_1) | exact HI0.out)) k_ hk)); (case aO => exact (by (with_reducible repeat (first | apply Kd.N_alloc | apply Kd.N_drewN | apply Kd.N_drew)); exact Kd.N_mono HO_6.out (fun _ hk => hk.1))); (case aS => exact (keep_size (w := w) (g := g) (row := none) (by repeat (first | (with_reducible first | exact HK.out | apply KeepBut.set_ | apply keep_drewN | apply keep_drew | apply keep_alloc) | exact HK.out)))); (case aL => have := LMc24.out; omega); intro v218 w27 ho hb hg hat; rw [← Ny217.out] at ho; replace HI0 := Aside0.mk (IsS81.grown (by repeat (first | (with_reducible first | exact HI0.out | apply IsS81.alloc | apply IsS81.drewN | apply IsS81.drew | apply IsS81.set_0 | apply IsS81.set_1) | exact HI0.out)) hg (IsS81.own_neN HI0.out HO_6.out (by decide))); replace HB := Aside0.mk (below_weaken HB.out HL.out hb); replace HK := Aside0.mk (KeepBut.trans (by repeat (first | (with_reducible first | exact HK.out | apply KeepBut.set_ | apply keep_drewN | apply keep_drew | apply keep_alloc) | exact HK.out)) (KeepBut.of_grown hg g) (Kd.N_base2 HO_6.out)); have HO219 := Aside0.mk ho; clear HO_6 HO214; clear ho hb hg hat))
        go_roundg k3
        case measure => have := HK1.out; have := HJ6.out; have := HK3.out; omega
        case rel => exact ⟨(y217), (t215), (t216), H', ⟨by have := HK1.out; have := HJ6.out; have := HK3.out; omega⟩, HO219, HI0, HK, ⟨HB.out⟩⟩
     case rest =>
      clear HC15; try clear c1; try clear c2; try clear p2; try clear c4; try clear c4b0; try clear c5; try clear c6; try clear c6b0; try clear c6b1; try clear p6; try clear c7; try clear c8; try clear c8b0; try clear c8b1; try clear c11; try clear c20; try clear c20b0; try clear c20b1; try clear c22; try clear c24
      obtain ⟨kq, x6_14, x1000_14, x1001_14, HA, HJ14, HO_6, HI0, HK, HB⟩ := hcut
      cases kq with
      | zero => exact absurd HA.out (by simp [lang_reader_expr.pj3])
      | succ kj14 =>
       have H := HA.out
       clear HA
       simp only [lang_reader_expr.pj3] at H
       replace H := Option.bind_eq_some_iff.mp H
       obtain ⟨t220, A300, H⟩ := H
       try dsimp only at H
       have A30 := Aside0.mk A300
       clear A300
       by_cases c31 : t220 = true
       rotate_left
       ·
        replace c31 := Bool.eq_false_iff.mpr c31
        subst c31
        have H1 := H
        rw [if_neg (show ¬ (false = true) by decide)] at H1
        clear H
        have H := H1
        clear H1
        rcases or_cases H with H | H
        ·
         go_wp2_with (first | ((with_reducible refine gate_callee (f := 50) rfl ?_); refine goesL_ (some 44) rfl rfl Tryd.func50 (by kernel_rfl) rfl #[.int .i64 x4_1] rfl (mA1 rfl) ?_; (with_reducible refine (lang_numbered.calls x4_1 false _ A30.out).mono ?_); rintro e w' ⟨rfl, ⟨nd, rfl⟩⟩; refine ⟨_, rfl, ?_⟩) | (go_at_call 85; refine (lang_reader_must.dies _ g _ _ _ w0 _ (by repeat (first | (with_reducible first | exact HI0.out | apply IsS81.alloc | apply IsS81.drewN | apply IsS81.drew | apply IsS81.set_0 | apply IsS81.set_1) | exact HI0.out)) (hO HB) H).mono ?_; rintro e w9_ ⟨rfl, hb_, hk_⟩))
         exact ⟨rfl, rfl, hb_, KeepBut.trans (by repeat (first | (with_reducible first | exact HK.out | apply KeepBut.set_ | apply keep_drewN | apply keep_drew | apply keep_alloc) | exact HK.out)) hk_ (.inl rfl)⟩
        obtain ⟨⟨t231, t232⟩, A410, H⟩ := H
        try dsimp only at H
        have A41 := Aside0.mk A410
        clear A410
        exact absurd H (by simp)
       subst c31
       have H1 := H
       rw [if_pos rfl] at H1
       clear H
       have H := H1
       clear H1
       rcases or_cases H with H | H
       ·
        go_wp2_with (first | ((with_reducible refine gate_callee (f := 50) rfl ?_); refine goesL_ (some 44) rfl rfl Tryd.func50 (by kernel_rfl) rfl #[.int .i64 x4_1] rfl (mA1 rfl) ?_; (with_reducible refine (lang_numbered.calls x4_1 true _ A30.out).mono ?_); rintro e w' ⟨rfl, ⟨nd, rfl⟩⟩; refine ⟨_, rfl, ?_⟩) | (go_at_call 85; refine (lang_reader_must.dies _ g _ _ _ w0 _ (by repeat (first | (with_reducible first | exact HI0.out | apply IsS81.alloc | apply IsS81.drewN | apply IsS81.drew | apply IsS81.set_0 | apply IsS81.set_1) | exact HI0.out)) (hO HB) H).mono ?_; rintro e w9_ ⟨rfl, hb_, hk_⟩))
        exact ⟨rfl, rfl, hb_, KeepBut.trans (by repeat (first | (with_reducible first | exact HK.out | apply KeepBut.set_ | apply keep_drewN | apply keep_drew | apply keep_alloc) | exact HK.out)) hk_ (.inl rfl)⟩
       obtain ⟨⟨t221, t222⟩, A320, H⟩ := H
       try dsimp only at H
       have A32 := Aside0.mk A320
       clear A320
       rcases or_cases H with H | H
       ·
        go_wp2_with (first | ((with_reducible refine gate_callee (f := 50) rfl ?_); refine goesL_ (some 44) rfl rfl Tryd.func50 (by kernel_rfl) rfl #[.int .i64 x4_1] rfl (mA1 rfl) ?_; (with_reducible refine (lang_numbered.calls x4_1 true _ A30.out).mono ?_); rintro e w' ⟨rfl, ⟨nd, rfl⟩⟩; refine ⟨_, rfl, ?_⟩) | ((with_reducible refine gate_callee (f := 85) rfl ?_); refine goesL_ (some 46) rfl rfl Tryd.func85 (by kernel_rfl) rfl #[.pointer (some ⟨g, 0, none⟩), .int .u8 44] rfl (mA2 rfl rfl) ?_; (with_reducible refine (lang_reader_must.calls kj14 g x1000_14 x1001_14 44 t221 t222 w0 _ ?side1 ?side2 A32.out).mono ?_); (case side1 => repeat (first | (with_reducible first | exact HI0.out | apply IsS81.alloc | apply IsS81.drewN | apply IsS81.drew | apply IsS81.set_0 | apply IsS81.set_1) | exact HI0.out)); (case side2 => repeat (first | (with_reducible first | exact HB.out | apply below_alloc | apply pw_below_drewN | apply below_drew1 | refine below_set ?_ (IsS81.ge HI0.out)) | exact HB.out)); rintro e w36 ⟨rfl, hi, hb, hk⟩; refine ⟨_, rfl, ?_⟩; replace HO_6 := Aside0.mk (Kd.N_mono (Kd.N_keep (Kd.N_mono (ok := fun k_ => k_ ≠ g) HO_6.out (fun k_ hk_ => (⟨hk_, hk_⟩ : _ ∧ k_ ≠ g))) hk (fun _ h => h.2)) (fun _ h => h.1)); replace HK := Aside0.mk (KeepBut.trans (by repeat (first | (with_reducible first | exact HK.out | apply KeepBut.set_ | apply keep_drewN | apply keep_drew | apply keep_alloc) | exact HK.out)) hk (.inl rfl)); replace HB := Aside0.mk hb; replace HI0 := Aside0.mk (hi); (try clear hb)) | (go_at_call 86; refine (lang_reader_number.dies _ g _ _ w0 _ (by repeat (first | (with_reducible first | exact HI0.out | apply IsS81.alloc | apply IsS81.drewN | apply IsS81.drew | apply IsS81.set_0 | apply IsS81.set_1) | exact HI0.out)) HB.out H).mono ?_; rintro e w9_ ⟨rfl, hb_, hk_⟩))
        exact ⟨rfl, rfl, hb_, KeepBut.trans (by repeat (first | (with_reducible first | exact HK.out | apply KeepBut.set_ | apply keep_drewN | apply keep_drew | apply keep_alloc) | exact HK.out)) hk_ (.inl rfl)⟩
       obtain ⟨⟨t223, t224, t225⟩, A330, H⟩ := H
       try dsimp only at H
       have A33 := Aside0.mk A330
       clear A330
       rcases or_cases H with H | H
       ·
        go_wp2_with (first | ((with_reducible refine gate_callee (f := 50) rfl ?_); refine goesL_ (some 44) rfl rfl Tryd.func50 (by kernel_rfl) rfl #[.int .i64 x4_1] rfl (mA1 rfl) ?_; (with_reducible refine (lang_numbered.calls x4_1 true _ A30.out).mono ?_); rintro e w' ⟨rfl, ⟨nd, rfl⟩⟩; refine ⟨_, rfl, ?_⟩) | ((with_reducible refine gate_callee (f := 85) rfl ?_); refine goesL_ (some 46) rfl rfl Tryd.func85 (by kernel_rfl) rfl #[.pointer (some ⟨g, 0, none⟩), .int .u8 44] rfl (mA2 rfl rfl) ?_; (with_reducible refine (lang_reader_must.calls kj14 g x1000_14 x1001_14 44 t221 t222 w0 _ ?side1 ?side2 A32.out).mono ?_); (case side1 => repeat (first | (with_reducible first | exact HI0.out | apply IsS81.alloc | apply IsS81.drewN | apply IsS81.drew | apply IsS81.set_0 | apply IsS81.set_1) | exact HI0.out)); (case side2 => repeat (first | (with_reducible first | exact HB.out | apply below_alloc | apply pw_below_drewN | apply below_drew1 | refine below_set ?_ (IsS81.ge HI0.out)) | exact HB.out)); rintro e w36 ⟨rfl, hi, hb, hk⟩; refine ⟨_, rfl, ?_⟩; replace HO_6 := Aside0.mk (Kd.N_mono (Kd.N_keep (Kd.N_mono (ok := fun k_ => k_ ≠ g) HO_6.out (fun k_ hk_ => (⟨hk_, hk_⟩ : _ ∧ k_ ≠ g))) hk (fun _ h => h.2)) (fun _ h => h.1)); replace HK := Aside0.mk (KeepBut.trans (by repeat (first | (with_reducible first | exact HK.out | apply KeepBut.set_ | apply keep_drewN | apply keep_drew | apply keep_alloc) | exact HK.out)) hk (.inl rfl)); replace HB := Aside0.mk hb; replace HI0 := Aside0.mk (hi); (try clear hb)) | ((with_reducible refine gate_callee (f := 86) rfl ?_); refine goesL_ (some 48) rfl rfl Tryd.func86 (by kernel_rfl) rfl #[.pointer (some ⟨g, 0, none⟩)] rfl (mA1 rfl) ?_; (with_reducible refine (lang_reader_number.calls kj14 g t221 t222 t223 t224 t225 w0 _ ?side1 ?side2 A33.out).mono ?_); (case side1 => repeat (first | (with_reducible first | exact HI0.out | apply IsS81.alloc | apply IsS81.drewN | apply IsS81.drew | apply IsS81.set_0 | apply IsS81.set_1) | exact HI0.out)); (case side2 => repeat (first | (with_reducible first | exact HB.out | apply below_alloc | apply pw_below_drewN | apply below_drew1 | refine below_set ?_ (IsS81.ge HI0.out)) | exact HB.out)); rintro e w37 ⟨rfl, hi, hb, hk⟩; refine ⟨_, rfl, ?_⟩; replace HO_6 := Aside0.mk (Kd.N_mono (Kd.N_keep (Kd.N_mono (ok := fun k_ => k_ ≠ g) HO_6.out (fun k_ hk_ => (⟨hk_, hk_⟩ : _ ∧ k_ ≠ g))) hk (fun _ h => h.2)) (fun _ h => h.1)); replace HK := Aside0.mk (KeepBut.trans (by repeat (first | (with_reducible first | exact HK.out | apply KeepBut.set_ | apply keep_drewN | apply keep_drew | apply keep_alloc) | exact HK.out)) hk (.inl rfl)); replace HB := Aside0.mk hb; replace HI0 := Aside0.mk (hi); (try clear hb)) | (go_at_call 85; refine (lang_reader_must.dies _ g _ _ _ w0 _ (by repeat (first | (with_reducible first | exact HI0.out | apply IsS81.alloc | apply IsS81.drewN | apply IsS81.drew | apply IsS81.set_0 | apply IsS81.set_1) | exact HI0.out)) HB.out H).mono ?_; rintro e w9_ ⟨rfl, hb_, hk_⟩))
        exact ⟨rfl, rfl, hb_, KeepBut.trans (by repeat (first | (with_reducible first | exact HK.out | apply KeepBut.set_ | apply keep_drewN | apply keep_drew | apply keep_alloc) | exact HK.out)) hk_ (.inl rfl)⟩
       obtain ⟨⟨t226, t227⟩, A340, H⟩ := H
       try dsimp only at H
       have A34 := Aside0.mk A340
       clear A340
       exact absurd H (by simp)
end Go.Proofs.YtimikhbnihedkaaDoor.PAll
namespace Go.Proofs.YtimikhbnihedkaaDoor.PAll
open Go.RowKit Go.Proofs.YtimikhbnihedkaaDoorW.PrintWords Go.Proofs.YtimikhbnihedkaaDoorW.PrintLast Go.Proofs.YtimikhbnihedkaaDoorW.PrintMore
set_option linter.unusedVariables false
set_option linter.unusedSimpArgs false
set_option maxRecDepth 100000
set_option maxHeartbeats 4000000
def lang_read.f (k : Nat) (a0 : ByteArray) : Option (List S43 × Int) := match lang_reader_expr.f k a0 0 with
 | some t => (lang_reader_space.f k t.2.1 t.2.2).bind fun u => if u.2 < (a0.size : Int) then some ([], 2) else some (t.1, 0)
 | none => (lang_reader_expr.p k a0 0).bind fun _ => some ([], 2)
/-- The deferred closure of a frame that returns: nothing is recovered. -/
theorem lang_read_fn1.idle (p q : Addr) (w : World) :
    CallsD Tryd.prog 60 #[.pointer (some p), .pointer (some q)] .returning w fun e u' w' => e = .returned (.tuple #[]) ∧ u' = .returning ∧ w' = w := by
  refine callsD_of_wpS Tryd.func60 rfl fun c₀ cs hu => ?_
  apply wpS_seq
  apply wpS_region
  simp [wpOpsS, go_sem, recoverD, hu, Tryd.ntmps60, Exit.thenS]
  apply wpS_seq
  apply wpS_region
  simp [wpOpsS, go_sem, Exit.thenS]
  refine wpS_cond (t := false) (by simp [Act.eval, Array.replicate]) ?_
  simp only [Bool.false_eq_true, if_false]
  refine wpS_of_wp (wp_skip ?_)
  cases c₀
  simp_all [bodyPostS, results, Tryd.results60]
/-- .. of a frame that panics with an error of the program's: the panic is recovered, and the results are laid. -/
theorem lang_read_fn1.caught (p q : Addr) (x : Int) (v1 v2 : Value) (older : List PanicEntry) (w : World) (hp : w.cell? p = some v1) (hpz : w.frozen? p = false) (hq : w.cell? q = some v2) (hqz : w.frozen? q = false) (hne : p ≠ q) :
    CallsD Tryd.prog 60 #[.pointer (some p), .pointer (some q)] (.panicking ({ v := .iface 25 (.int .i64 x), recovered := false } :: older)) w fun e u' w' =>
      e = .returned (.tuple #[]) ∧ u' = .panicking ({ v := .iface 25 (.int .i64 x), recovered := true } :: older) ∧ w' = (w.setCell p (.slice none 0 0)).setCell q (.int .i64 x) := by
  refine callsD_of_wpS Tryd.func60 rfl fun c₀ cs hu => ?_
  apply wpS_seq
  apply wpS_region
  simp [wpOpsS, go_sem, recoverD, hu, Tryd.ntmps60, Exit.thenS]
  apply wpS_seq
  apply wpS_region
  simp [wpOpsS, go_sem, Exit.thenS]
  refine wpS_cond (t := true) (by simp [Act.eval, Array.replicate]) ?_
  simp only [if_true]
  refine wpS_of_wp ?_
  have hq2 : (w.setCell p (.slice none 0 0)).cell? q = some v2 := by rw [World.cell?_setCell_other (h := hne)]; exact hq
  have hqz2 : (w.setCell p (.slice none 0 0)).frozen? q = false := by rw [World.frozen?_setCell]; exact hqz
  have hta : ∀ w : World, (Instr.typeAssert (Value.iface 25 (Value.int .i64 x)) 20 25 true).run Tryd.prog w = .ok (.tuple #[.int .i64 x, .bool true]) w := fun w => by kernel_rfl
  show Code.wp Tryd.prog _ _ ⟨#[.pointer (some p), .pointer (some q), .iface 25 (.int .i64 x), undef, undef, .iface 25 (.int .i64 x), .iface 25 (.int .i64 x), .bool true, undef, undef, undef, undef, undef, undef, undef, undef, undef], []⟩ w
  go_wp2
  cases c₀
  simp_all [bodyPostS, results, Tryd.results60]
theorem read_made (a0 : ByteArray) (w w3 : World) (hw3 : w3 = ((w.alloc (.cells #[.slice none 0 0] 22)).alloc (.cells #[.int .i64 0] 25)).alloc (.cells #[.string a0, .int .i64 0] 81)) :
    w3.heap.size = w.heap.size + 1 + 1 + 1 ∧ Below w.heap.size w w3 ∧ IsS81 w w3 (w.heap.size + 1 + 1) a0 0 ∧ w3.heap[w.heap.size]? = some (.cells #[.slice none 0 0] 22 (0, 0)) ∧ w3.heap[w.heap.size + 1]? = some (.cells #[.int .i64 0] 25 (0, 0)) := by
  have s1 : (w.alloc (.cells #[.slice none 0 0] 22)).heap.size = w.heap.size + 1 := World.size_alloc _ _
  have s2 : ((w.alloc (.cells #[.slice none 0 0] 22)).alloc (.cells #[.int .i64 0] 25)).heap.size = w.heap.size + 1 + 1 := by rw [World.size_alloc, s1]
  have b2 : Below w.heap.size w ((w.alloc (.cells #[.slice none 0 0] 22)).alloc (.cells #[.int .i64 0] 25)) := below_alloc (below_alloc (Below.refl _ _) _) _
  have e1 := blk_new w (.cells #[.slice none 0 0] 22)
  have e2 := blk_new (w.alloc (.cells #[.slice none 0 0] 22)) (.cells #[.int .i64 0] 25)
  rw [s1] at e2
  have i3 := IsS81.new w _ a0 0 b2
  rw [s2] at i3
  subst hw3
  refine ⟨by rw [World.size_alloc, s2], below_alloc b2 _, i3, blk_alloc (blk_alloc e1 _) _, blk_alloc e2 _⟩
theorem read_caught (w wz : World) (v1 v2 : Value) (hb : Below w.heap.size w wz) (hE : wz.heap[w.heap.size]? = some (.cells #[v1] 22 (0, 0))) (hF : wz.heap[w.heap.size + 1]? = some (.cells #[v2] 25 (0, 0))) :
    CallsD Tryd.prog 60 #[.pointer (some ⟨w.heap.size, 0, none⟩), .pointer (some ⟨w.heap.size + 1, 0, none⟩)] (.panicking formPanic) wz fun e u' w' =>
      e = .returned (.tuple #[]) ∧ u' = .panicking [{ v := .iface 25 (.int .i64 2), recovered := true }] ∧ w' = (wz.setCell ⟨w.heap.size, 0, none⟩ (.slice none 0 0)).setCell ⟨w.heap.size + 1, 0, none⟩ (.int .i64 2) :=
  lang_read_fn1.caught ⟨w.heap.size, 0, none⟩ ⟨w.heap.size + 1, 0, none⟩ 2 v1 v2 [] wz (blk_cell hE 0) (blk_frozen hE 0) (blk_cell hF 0) (blk_frozen hF 0) (by intro h; injection h with h1 _ _; omega)
theorem read_end (w wz : World) (v1 v2 : Value) (hb : Below w.heap.size w wz) (hE : wz.heap[w.heap.size]? = some (.cells #[v1] 22 (0, 0))) (hF : wz.heap[w.heap.size + 1]? = some (.cells #[v2] 25 (0, 0))) (u1 u2 : Value) :
    ((wz.setCell ⟨w.heap.size, 0, none⟩ u1).setCell ⟨w.heap.size + 1, 0, none⟩ u2).cell? ⟨w.heap.size, 0, none⟩ = some u1 ∧ ((wz.setCell ⟨w.heap.size, 0, none⟩ u1).setCell ⟨w.heap.size + 1, 0, none⟩ u2).cell? ⟨w.heap.size + 1, 0, none⟩ = some u2 ∧ Below w.heap.size w ((wz.setCell ⟨w.heap.size, 0, none⟩ u1).setCell ⟨w.heap.size + 1, 0, none⟩ u2) := by
  have h1 := blk_put hE 0 u1 rfl
  have h2 : (wz.setCell ⟨w.heap.size, 0, none⟩ u1).heap[w.heap.size + 1]? = _ := blk_far hF (by show w.heap.size + 1 ≠ w.heap.size; omega) u1
  have h3 := blk_put h2 0 u2 rfl
  have h4 : ((wz.setCell ⟨w.heap.size, 0, none⟩ u1).setCell ⟨w.heap.size + 1, 0, none⟩ u2).heap[w.heap.size]? = _ := blk_far h1 (by show w.heap.size ≠ w.heap.size + 1; omega) u2
  exact ⟨blk_cell h4 0, blk_cell h3 0, below_set (below_set hb (Nat.le_refl _)) (Nat.le_succ _)⟩
theorem read_expr_dies (k : Nat) (a0 : ByteArray) (w : World) (h : lang_reader_expr.p k a0 0 = some ()) :
  Calls Tryd.prog 37 #[.string a0] w fun e w' => ∃ v0_ : Value, e = .returned (.tuple #[v0_, .int .i64 2]) ∧ Kd.R k43 43 w' w.heap.size (fun _ => True) v0_ [] ∧ Below w.heap.size w w' := by
  have hmf : ∀ (fn : Fn) (first cap : Array Value) (w : World), (Instr.makeFunc fn first cap).run Tryd.prog w = .ok (.func fn first cap) w := fun _ _ _ _ => rfl
  obtain ⟨w3, hw3⟩ : ∃ w3, w3 = ((w.alloc (.cells #[.slice none 0 0] 22)).alloc (.cells #[.int .i64 0] 25)).alloc (.cells #[.string a0, .int .i64 0] 81) := ⟨_, rfl⟩
  obtain ⟨hs3, hB3, hI3, hE3, hF3⟩ := read_made a0 w w3 hw3
  have Hs := Aside0.mk hs3
  have HE := Aside0.mk hE3
  have HF := Aside0.mk hF3
  have HI := Aside0.mk hI3
  have HB := Aside0.mk hB3
  have Hh := Aside0.mk h
  clear hs3 hE3 hF3 hI3 hB3 h
  go_enter_defers Tryd.func37, Tryd.ntmps37
  go_wp2_with (first | (go_at_call 61; rw [← hw3]; refine (lang_reader_expr.dies k _ a0 0 w _ HI.out HB.out Hh.out).mono ?_; rintro e w9 ⟨rfl, hb, hk⟩))
  have hs := Hs.out
  have hE := (hk.2 w.heap.size (by omega) (by omega) (by simp)).trans HE.out
  have hF := (hk.2 (w.heap.size + 1) (by omega) (by omega) (by simp)).trans HF.out
  refine leaves_cons (f := 60) (args := #[.pointer (some ⟨w.heap.size, 0, none⟩), .pointer (some ⟨w.heap.size + 1, 0, none⟩)]) (by simp) (by simp [go_sem]) ?_
  refine (read_caught w w9 _ _ hb hE hF).mono ?_
  rintro e u' w'' ⟨rfl, rfl, rfl⟩
  obtain ⟨h1, h2, h3⟩ := read_end w w9 _ _ hb hE hF (.slice none 0 0) (.int .i64 2)
  generalize (w9.setCell ⟨w.heap.size, 0, none⟩ (.slice none 0 0)).setCell ⟨w.heap.size + 1, 0, none⟩ (.int .i64 2) = wz at h1 h2 h3 ⊢
  simp [Leaves, settle, results, Tryd.results37, go_sem, h1, h2]
  exact ⟨Kd.R_nil _ _ _ _ _, h3⟩
theorem read_done (k : Nat) (a0 : ByteArray) (l : List S43) (s : ByteArray) (at_ : Int) (s' : ByteArray) (at' : Int) (w : World) (hx : lang_reader_expr.f k a0 0 = some (l, s, at_)) (hsp : lang_reader_space.f k s at_ = some (s', at')) (hlt : ¬ at' < (a0.size : Int)) :
  Calls Tryd.prog 37 #[.string a0] w fun e w' => ∃ v0_ : Value, e = .returned (.tuple #[v0_, .int .i64 0]) ∧ Kd.R k43 43 w' w.heap.size (fun _ => True) v0_ l ∧ Below w.heap.size w w' := by
  have hmf : ∀ (fn : Fn) (first cap : Array Value) (w : World), (Instr.makeFunc fn first cap).run Tryd.prog w = .ok (.func fn first cap) w := fun _ _ _ _ => rfl
  obtain ⟨w3, hw3⟩ : ∃ w3, w3 = ((w.alloc (.cells #[.slice none 0 0] 22)).alloc (.cells #[.int .i64 0] 25)).alloc (.cells #[.string a0, .int .i64 0] 81) := ⟨_, rfl⟩
  obtain ⟨hs3, hB3, hI3, hE3, hF3⟩ := read_made a0 w w3 hw3
  have Hs := Aside0.mk hs3
  have HE := Aside0.mk hE3
  have HF := Aside0.mk hF3
  have HI := Aside0.mk hI3
  have HB := Aside0.mk hB3
  have Hx := Aside0.mk hx
  have Hsp := Aside0.mk hsp
  clear hs3 hE3 hF3 hI3 hB3 hx hsp
  have hc : decide (at' < (a0.size : Int)) = false := decide_eq_false hlt
  clear hlt
  go_enter_defers Tryd.func37, Tryd.ntmps37
  go_wp2_with (first
   | (go_at_call 61; rw [← hw3]; refine (lang_reader_expr.calls k _ a0 0 l s at_ w _ HI.out HB.out Hx.out).mono ?_; rintro e w4 ⟨v0, rfl, hR, hI, hb, hk⟩
      obtain ⟨A4, c4, rfl⟩ := Kd.R_slice hR
      have hs := Hs.out
      have hE := (hk.2 w.heap.size (by omega) (by omega) (by simp)).trans HE.out
      have hF := (hk.2 (w.heap.size + 1) (by omega) (by omega) (by simp)).trans HF.out
      have HR4 := Aside0.mk (Kd.R_lower hR (show w.heap.size ≤ w3.heap.size by omega))
      have HE4 := Aside0.mk hE
      have HF4 := Aside0.mk hF
      have HB4 := Aside0.mk hb
      have HI4 := Aside0.mk hI
      have cE := blk_cell hE 0
      have fE := blk_frozen hE 0
      clear hs hE hF hR hI hb hk)
   | (go_at_call 62
      have HE5 := Aside0.mk (blk_put HE4.out 0 (.slice A4 l.length c4) rfl)
      have HF5 := Aside0.mk (blk_far HF4.out (p := ⟨w.heap.size, 0, none⟩) (by show w.heap.size + 1 ≠ w.heap.size; omega) (.slice A4 l.length c4))
      have HR5 := Aside0.mk (Kd.R_mono (ok' := fun _ => True) (Kd.R_far (p := ⟨w.heap.size, 0, none⟩) (Kd.R_types HR4.out HE4.out (by decide)) (fun _ h_ => h_.2) (.slice A4 l.length c4)) (fun _ _ => trivial))
      have HB5 := Aside0.mk (below_set (j := 0) (v := .slice A4 l.length c4) HB4.out (Nat.le_refl w.heap.size))
      have HI5 := Aside0.mk (IsS81.far HI4.out (p := ⟨w.heap.size, 0, none⟩) (by show w.heap.size + 1 + 1 ≠ w.heap.size; omega) (.slice A4 l.length c4))
      generalize w4.setCell ⟨w.heap.size, 0, none⟩ (.slice A4 l.length c4) = w5 at HE5 HF5 HR5 HB5 HI5 ⊢
      clear HE4 HF4 HR4 HB4 HI4 cE fE
      refine (lang_reader_space.calls k _ s at_ s' at' w _ HI5.out HB5.out Hsp.out).mono ?_; rintro e w6 ⟨rfl, hI, hb, hk⟩
      have hl : w.heap.size + 1 < w5.heap.size := blk_lt HF5.out
      have hE := (hk.2 w.heap.size (by omega) (by omega) (by simp)).trans HE5.out
      have hF := (hk.2 (w.heap.size + 1) hl (by omega) (by simp)).trans HF5.out
      have HE6 := Aside0.mk hE
      have HF6 := Aside0.mk hF
      have HB6 := Aside0.mk hb
      have HR6 := Aside0.mk (Kd.R_mono (ok' := fun _ => True) (Kd.R_step (Kd.R_types HR5.out HI5.out.1 (by decide)) (fun k_ ho hlt => hk.2 k_ hlt ho.2 (by simp))) (fun _ _ => trivial))
      have cE := blk_cell hE 0
      have fE := blk_frozen hE 0
      have cF := blk_cell hF 0
      have fF := blk_frozen hF 0
      have c0 := cellS81_0 hI.1
      have c1 := cellS81_1 hI.1
      clear hl hE hF hI hb hk))
  refine leaves_cons (f := 60) (args := #[.pointer (some ⟨w.heap.size, 0, none⟩), .pointer (some ⟨w.heap.size + 1, 0, none⟩)]) (by simp) (by simp [go_sem]) ?_
  refine (lang_read_fn1.idle _ _ _).mono ?_
  rintro e u' w'' ⟨rfl, rfl, rfl⟩
  obtain ⟨h1, h2, h3⟩ := read_end w w6 _ _ HB6.out HE6.out HF6.out (.slice A4 l.length c4) (.int .i64 0)
  have r1 := Kd.R_mono (ok' := fun _ => True) (Kd.R_far (p := ⟨w.heap.size, 0, none⟩) (Kd.R_types HR6.out HE6.out (by decide)) (fun _ h_ => h_.2) (.slice A4 l.length c4)) (fun _ _ => trivial)
  have hF' := blk_far HF6.out (p := ⟨w.heap.size, 0, none⟩) (by show w.heap.size + 1 ≠ w.heap.size; omega) (.slice A4 l.length c4)
  have r2 := Kd.R_mono (ok' := fun _ => True) (Kd.R_far (p := ⟨w.heap.size + 1, 0, none⟩) (Kd.R_types r1 hF' (by decide)) (fun _ h_ => h_.2) (.int .i64 0)) (fun _ _ => trivial)
  generalize (w6.setCell ⟨w.heap.size, 0, none⟩ (.slice A4 l.length c4)).setCell ⟨w.heap.size + 1, 0, none⟩ (.int .i64 0) = wz at h1 h2 h3 r2 ⊢
  simp [Leaves, settle, results, Tryd.results37, go_sem, h1, h2]
  exact ⟨r2, h3⟩
theorem read_late (k : Nat) (a0 : ByteArray) (l : List S43) (s : ByteArray) (at_ : Int) (s' : ByteArray) (at' : Int) (w : World) (hx : lang_reader_expr.f k a0 0 = some (l, s, at_)) (hsp : lang_reader_space.f k s at_ = some (s', at')) (hlt : at' < (a0.size : Int)) :
  Calls Tryd.prog 37 #[.string a0] w fun e w' => ∃ v0_ : Value, e = .returned (.tuple #[v0_, .int .i64 2]) ∧ Kd.R k43 43 w' w.heap.size (fun _ => True) v0_ [] ∧ Below w.heap.size w w' := by
  have hmf : ∀ (fn : Fn) (first cap : Array Value) (w : World), (Instr.makeFunc fn first cap).run Tryd.prog w = .ok (.func fn first cap) w := fun _ _ _ _ => rfl
  obtain ⟨w3, hw3⟩ : ∃ w3, w3 = ((w.alloc (.cells #[.slice none 0 0] 22)).alloc (.cells #[.int .i64 0] 25)).alloc (.cells #[.string a0, .int .i64 0] 81) := ⟨_, rfl⟩
  obtain ⟨hs3, hB3, hI3, hE3, hF3⟩ := read_made a0 w w3 hw3
  have Hs := Aside0.mk hs3
  have HE := Aside0.mk hE3
  have HF := Aside0.mk hF3
  have HI := Aside0.mk hI3
  have HB := Aside0.mk hB3
  have Hx := Aside0.mk hx
  have Hsp := Aside0.mk hsp
  clear hs3 hE3 hF3 hI3 hB3 hx hsp
  have hc : decide (at' < (a0.size : Int)) = true := decide_eq_true hlt
  clear hlt
  go_enter_defers Tryd.func37, Tryd.ntmps37
  go_wp2_with (first
   | (go_at_call 61; rw [← hw3]; refine (lang_reader_expr.calls k _ a0 0 l s at_ w _ HI.out HB.out Hx.out).mono ?_; rintro e w4 ⟨v0, rfl, hR, hI, hb, hk⟩
      obtain ⟨A4, c4, rfl⟩ := Kd.R_slice hR
      have hs := Hs.out
      have hE := (hk.2 w.heap.size (by omega) (by omega) (by simp)).trans HE.out
      have hF := (hk.2 (w.heap.size + 1) (by omega) (by omega) (by simp)).trans HF.out
      have HR4 := Aside0.mk (Kd.R_lower hR (show w.heap.size ≤ w3.heap.size by omega))
      have HE4 := Aside0.mk hE
      have HF4 := Aside0.mk hF
      have HB4 := Aside0.mk hb
      have HI4 := Aside0.mk hI
      have cE := blk_cell hE 0
      have fE := blk_frozen hE 0
      clear hs hE hF hR hI hb hk)
   | (go_at_call 62
      have HE5 := Aside0.mk (blk_put HE4.out 0 (.slice A4 l.length c4) rfl)
      have HF5 := Aside0.mk (blk_far HF4.out (p := ⟨w.heap.size, 0, none⟩) (by show w.heap.size + 1 ≠ w.heap.size; omega) (.slice A4 l.length c4))
      have HR5 := Aside0.mk (Kd.R_mono (ok' := fun _ => True) (Kd.R_far (p := ⟨w.heap.size, 0, none⟩) (Kd.R_types HR4.out HE4.out (by decide)) (fun _ h_ => h_.2) (.slice A4 l.length c4)) (fun _ _ => trivial))
      have HB5 := Aside0.mk (below_set (j := 0) (v := .slice A4 l.length c4) HB4.out (Nat.le_refl w.heap.size))
      have HI5 := Aside0.mk (IsS81.far HI4.out (p := ⟨w.heap.size, 0, none⟩) (by show w.heap.size + 1 + 1 ≠ w.heap.size; omega) (.slice A4 l.length c4))
      generalize w4.setCell ⟨w.heap.size, 0, none⟩ (.slice A4 l.length c4) = w5 at HE5 HF5 HR5 HB5 HI5 ⊢
      clear HE4 HF4 HR4 HB4 HI4 cE fE
      refine (lang_reader_space.calls k _ s at_ s' at' w _ HI5.out HB5.out Hsp.out).mono ?_; rintro e w6 ⟨rfl, hI, hb, hk⟩
      have hl : w.heap.size + 1 < w5.heap.size := blk_lt HF5.out
      have hE := (hk.2 w.heap.size (by omega) (by omega) (by simp)).trans HE5.out
      have hF := (hk.2 (w.heap.size + 1) hl (by omega) (by simp)).trans HF5.out
      have HE6 := Aside0.mk hE
      have HF6 := Aside0.mk hF
      have HB6 := Aside0.mk hb
      have HR6 := Aside0.mk (Kd.R_mono (ok' := fun _ => True) (Kd.R_step (Kd.R_types HR5.out HI5.out.1 (by decide)) (fun k_ ho hlt => hk.2 k_ hlt ho.2 (by simp))) (fun _ _ => trivial))
      have cE := blk_cell hE 0
      have fE := blk_frozen hE 0
      have cF := blk_cell hF 0
      have fF := blk_frozen hF 0
      have c0 := cellS81_0 hI.1
      have c1 := cellS81_1 hI.1
      clear hl hE hF hI hb hk)
   | (go_at_call 63; refine (lang_reader_fail.dies _ _).mono ?_; rintro e w9 ⟨rfl, rfl⟩))
  refine leaves_cons (f := 60) (args := #[.pointer (some ⟨w.heap.size, 0, none⟩), .pointer (some ⟨w.heap.size + 1, 0, none⟩)]) (by simp) (by simp [go_sem]) ?_
  refine (read_caught w w9 _ _ HB6.out HE6.out HF6.out).mono ?_
  rintro e u' w'' ⟨rfl, rfl, rfl⟩
  obtain ⟨h1, h2, h3⟩ := read_end w w9 _ _ HB6.out HE6.out HF6.out (.slice none 0 0) (.int .i64 2)
  generalize (w9.setCell ⟨w.heap.size, 0, none⟩ (.slice none 0 0)).setCell ⟨w.heap.size + 1, 0, none⟩ (.int .i64 2) = wz at h1 h2 h3 ⊢
  simp [Leaves, settle, results, Tryd.results37, go_sem, h1, h2]
  exact ⟨Kd.R_nil _ _ _ _ _, h3⟩
theorem lang_read.calls (k : Nat) (a0 : ByteArray) (r1 : List (S43)) (r2 : Int) (w : World) (h : lang_read.f k a0 = some (r1, r2)) :
  Calls Tryd.prog 37 #[.string a0] w fun e w' => ∃ v0_ : Value, e = .returned (.tuple #[v0_, .int .i64 r2]) ∧ Kd.R k43 43 w' w.heap.size (fun _ => True) v0_ r1 ∧ Below w.heap.size w w' := by
  unfold lang_read.f at h
  cases hx : lang_reader_expr.f k a0 0 with
  | none =>
    rw [hx] at h
    obtain ⟨u, hu, h⟩ := Option.bind_eq_some_iff.mp h
    cases u
    injection h with h; injection h with h1 h2; subst h1; subst h2
    exact read_expr_dies k a0 w hu
  | some t =>
    obtain ⟨l, s, at_⟩ := t
    rw [hx] at h
    obtain ⟨⟨s', at'⟩, hu, h⟩ := Option.bind_eq_some_iff.mp h
    dsimp only at hu h
    by_cases hlt : at' < (a0.size : Int)
    · rw [if_pos hlt] at h
      injection h with h; injection h with h1 h2; subst h1; subst h2
      exact read_late k a0 l s at_ s' at' w hx hu hlt
    · rw [if_neg hlt] at h
      injection h with h; injection h with h1 h2; subst h1; subst h2
      exact read_done k a0 l s at_ s' at' w hx hu hlt
end Go.Proofs.YtimikhbnihedkaaDoor.PAll
namespace Go.Proofs.YtimikhbnihedkaaDoor.PAll
open Go.RowKit Go.Proofs.YtimikhbnihedkaaDoorW.PrintWords Go.Proofs.YtimikhbnihedkaaDoorW.PrintLast Go.Proofs.YtimikhbnihedkaaDoorW.PrintMore
attribute [local go_sem] max2_int min2_int max_two min_two max_three min_three max_four min_four
set_option linter.unusedVariables false
set_option linter.unusedSimpArgs false
attribute [local go_sem high] eqA43
def lang_Parse.f (k : Nat) (a0 : ByteArray) : Option ((List (S43)) × Int) := if (a0.size : Int) > 1024 then (some (([] : List (S43)), 3)) else ((lang_read.f k a0).bind fun bt236 => (if bt236.2 = 0 then ((lang_Check.f k bt236.1).bind fun t240 => (if t240 = 0 then (some (bt236.1, 0)) else (some (([] : List (S43)), t240)))) else (some (([] : List (S43)), bt236.2))))
set_option maxHeartbeats 8000000 in
set_option maxRecDepth 100000 in
theorem lang_Parse.calls (k : Nat) (a0 : ByteArray) (r1 : List (S43)) (r2 : Int) (w : World) (hmx : Mx w) (h : lang_Parse.f k a0 = some (r1, r2)) :
  Calls Tryd.prog 19 #[.string a0] w fun e w' => ∃ v0_ : Value, e = .returned (.tuple #[v0_, .int .i64 r2]) ∧ Kd.R k43 43 w' w.heap.size (fun _ => True) v0_ r1 ∧ Below w.heap.size w w' := by
 have HMX_ := Aside0.mk hmx
 clear hmx
 have HB := Aside0.mk (Below.refl w.heap.size w)
 have H := h
 unfold lang_Parse.f at H
 clear h
 by_cases c2 : (a0.size : Int) > 1024
 ·
  rw [if_pos c2] at H
  have c2b0 := decide_eq_true c2
  have c2b1 : decide (1024 < a0.size) = true := decide_eq_true (by omega)
  clear c2
  simp only [Option.some.injEq, Prod.mk.injEq] at H
  obtain ⟨rfl, rfl⟩ := H
  go_enter Tryd.func19, Tryd.ntmps19
  go_wp2
  go_ret2
  exact ⟨_, rfl, by first | exact Kd.R_nil _ _ _ _ _ | exact Kd.N_nil _ _ _ _ _ | exact Kd.V_nil _ _ _ _ _ | exact Kd.Q_nil _ _ _ _ _ | exact Kd.S_nil _ _ _ _ _, HB.out⟩
 rw [if_neg c2] at H
 have c2b0 := decide_eq_false c2
 have c2b1 : decide (1024 < a0.size) = false := decide_eq_false (by omega)
 clear c2
 replace H := Option.bind_eq_some_iff.mp H
 obtain ⟨⟨t236, t237⟩, A30, H⟩ := H
 try dsimp only at H
 have A3 := Aside0.mk A30
 clear A30
 by_cases c4 : t237 = 0
 rotate_left
 ·
  rw [if_neg c4] at H
  have c4b0 := beq_eq_false_iff_ne.mpr c4
  have c4b1 := bne_iff_ne.mpr c4
  simp only [Option.some.injEq, Prod.mk.injEq] at H
  obtain ⟨rfl, rfl⟩ := H
  go_enter Tryd.func19, Tryd.ntmps19
  go_wp2_with (first | ((with_reducible refine gate_callee (f := 37) rfl ?_); refine goesL_ (some 12) rfl rfl Tryd.func37 (by kernel_rfl) rfl #[.string a0] rfl (mA1 rfl) ?_; (with_reducible refine (lang_read.calls k a0 t236 t237 _ A3.out).mono ?_); rintro e w13 ⟨v238, rfl, ho0, hb⟩; refine ⟨_, rfl, ?_⟩; have HO239 := Aside0.mk (Kd.R_lower ho0 (below_size HB.out)); replace HB := mSt HB hb; (try clear hb); (try clear ho0)))
  go_ret2
  exact ⟨_, rfl, by first | exact Kd.R_nil _ _ _ _ _ | exact Kd.N_nil _ _ _ _ _ | exact Kd.V_nil _ _ _ _ _ | exact Kd.Q_nil _ _ _ _ _ | exact Kd.S_nil _ _ _ _ _, HB.out⟩
 rw [if_pos c4] at H
 have c4b0 := beq_iff_eq.mpr c4
 have c4b1 := bne_eq_false_iff_eq.mpr c4
 clear c4
 replace H := Option.bind_eq_some_iff.mp H
 obtain ⟨t240, A50, H⟩ := H
 try dsimp only at H
 have A5 := Aside0.mk A50
 clear A50
 by_cases c6 : t240 = 0
 rotate_left
 ·
  rw [if_neg c6] at H
  have c6b0 := beq_eq_false_iff_ne.mpr c6
  have c6b1 := bne_iff_ne.mpr c6
  simp only [Option.some.injEq, Prod.mk.injEq] at H
  obtain ⟨rfl, rfl⟩ := H
  go_enter Tryd.func19, Tryd.ntmps19
  go_wp2_with (first | ((with_reducible refine gate_callee (f := 37) rfl ?_); refine goesL_ (some 12) rfl rfl Tryd.func37 (by kernel_rfl) rfl #[.string a0] rfl (mA1 rfl) ?_; (with_reducible refine (lang_read.calls k a0 t236 t237 _ A3.out).mono ?_); rintro e w10 ⟨v238, rfl, ho0, hb⟩; refine ⟨_, rfl, ?_⟩; have HO239 := Aside0.mk (Kd.R_lower ho0 (below_size HB.out)); replace HB := mSt HB hb; (try clear hb); (try clear ho0); obtain ⟨Ao11, co11, eo11⟩ := Kd.R_slice HO239.out; subst eo11) | ((with_reducible refine gate_callee (f := 16) rfl ?_); refine goesL_ (some 19) rfl rfl Tryd.func16 (by kernel_rfl) rfl #[.slice Ao11 t236.length co11] rfl (mA1 rfl) ?_; (with_reducible refine (lang_Check.calls k _ _ t236 t240 _ ((Kd.R_reads' HO239.out).2.2) ((Kd.R_reads' HO239.out).2.1) (Mx.below HMX_.out HB.out) A5.out).mono ?_); rintro e w12 ⟨rfl, hb⟩; refine ⟨_, rfl, ?_⟩; replace HO239 := Aside0.mk (Kd.R_below HO239.out hb); replace HB := mSt HB hb; (try clear hb)))
  go_ret2
  exact ⟨_, rfl, by first | exact Kd.R_nil _ _ _ _ _ | exact Kd.N_nil _ _ _ _ _ | exact Kd.V_nil _ _ _ _ _ | exact Kd.Q_nil _ _ _ _ _ | exact Kd.S_nil _ _ _ _ _, HB.out⟩
 rw [if_pos c6] at H
 have c6b0 := beq_iff_eq.mpr c6
 have c6b1 := bne_eq_false_iff_eq.mpr c6
 clear c6
 simp only [Option.some.injEq, Prod.mk.injEq] at H
 obtain ⟨rfl, rfl⟩ := H
 go_enter Tryd.func19, Tryd.ntmps19
 go_wp2_with (first | ((with_reducible refine gate_callee (f := 37) rfl ?_); refine goesL_ (some 12) rfl rfl Tryd.func37 (by kernel_rfl) rfl #[.string a0] rfl (mA1 rfl) ?_; (with_reducible refine (lang_read.calls k a0 t236 t237 _ A3.out).mono ?_); rintro e w7 ⟨v238, rfl, ho0, hb⟩; refine ⟨_, rfl, ?_⟩; have HO239 := Aside0.mk (Kd.R_lower ho0 (below_size HB.out)); replace HB := mSt HB hb; (try clear hb); (try clear ho0); obtain ⟨Ao8, co8, eo8⟩ := Kd.R_slice HO239.out; subst eo8) | ((with_reducible refine gate_callee (f := 16) rfl ?_); refine goesL_ (some 19) rfl rfl Tryd.func16 (by kernel_rfl) rfl #[.slice Ao8 t236.length co8] rfl (mA1 rfl) ?_; (with_reducible refine (lang_Check.calls k _ _ t236 t240 _ ((Kd.R_reads' HO239.out).2.2) ((Kd.R_reads' HO239.out).2.1) (Mx.below HMX_.out HB.out) A5.out).mono ?_); rintro e w9 ⟨rfl, hb⟩; refine ⟨_, rfl, ?_⟩; replace HO239 := Aside0.mk (Kd.R_below HO239.out hb); replace HB := mSt HB hb; (try clear hb)))
 go_ret2
 exact ⟨_, rfl, by exact HO239.out, HB.out⟩
def dancestudioref35_Same.l0 : Nat → List (S43) → List (S43) → Int → Option (Bool)
 | 0, _, _, _ => none
 | k + 1, x0, x1, x5 => if x5 < (x0.length : Int) then (if 0 ≤ x5 then (if x5 < (x1.length : Int) then (if (!(((rd_T43 x0 x5).f0) == ((rd_T43 x1 x5).f0)) || (!((((rd_T43 x0 x5).f1).toList) == (((rd_T43 x1 x5).f1).toList)) || (!(((rd_T43 x0 x5).f2) == ((rd_T43 x1 x5).f2)) || (!(((rd_T43 x0 x5).f3) == ((rd_T43 x1 x5).f3)))))) = true then (some false) else (dancestudioref35_Same.l0 k x0 x1 (wrap64 (x5 + 1)))) else (none)) else (none)) else (some true)
def dancestudioref35_Same.f (k : Nat) (l0 : List (S43)) (l1 : List (S43)) : Option (Bool) := if (l0.length : Int) = (l1.length : Int) then (dancestudioref35_Same.l0 k l0 l1 0) else (some false)
set_option maxHeartbeats 8000000 in
set_option maxRecDepth 100000 in
theorem dancestudioref35_Same.calls (k : Nat) (A0 : Option Addr) (c0 : Nat) (l0 : List (S43)) (A1 : Option Addr) (c1 : Nat) (l1 : List (S43)) (r : Bool) (w : World) (hr0 : Kd.C k43 w A0 l0.length l0) (hc0 : l0.length ≤ c0) (hr1 : Kd.C k43 w A1 l1.length l1) (hc1 : l1.length ≤ c1) (h : dancestudioref35_Same.f k l0 l1 = some r) :
  Calls Tryd.prog 21 #[.slice A0 l0.length c0, .slice A1 l1.length c1] w fun e w' => e = .returned (.bool r) ∧ Drawn0 w w' := by
 have hu43 := Tryd.underlying43
 have HR0 := Aside0.mk hr0
 have HC0 := Aside0.mk hc0
 clear hr0 hc0
 have HR1 := Aside0.mk hr1
 have HC1 := Aside0.mk hc1
 clear hr1 hc1
 have H := h
 unfold dancestudioref35_Same.f at H
 clear h
 by_cases c3 : (l0.length : Int) = (l1.length : Int)
 rotate_left
 ·
  rw [if_neg c3] at H
  have c3b0 := beq_eq_false_iff_ne.mpr c3
  have c3b1 := bne_iff_ne.mpr c3
  have c3b2 : (l0.length == l1.length) = false := by first | simpa using c3 | (simp at c3 ⊢; omega)
  obtain rfl := Option.some.inj H
  go_enter Tryd.func21, Tryd.ntmps21
  go_wp2
  repeat (go_quiet (fail); try go_wp2)
  go_ret
  exact ⟨by first | rfl | (simp; done) | (simp [*]; done), by repeat (first | exact Drawn0.refl _ | apply Drawn0.step)⟩
 rw [if_pos c3] at H
 have c3b0 := beq_iff_eq.mpr c3
 have c3b1 := bne_eq_false_iff_eq.mpr c3
 have c3b2 : (l0.length == l1.length) = true := by first | simpa using c3 | (simp at c3 ⊢; omega)
 clear c3
 have H' := Aside0.mk H
 clear H
 go_enter Tryd.func21, Tryd.ntmps21
 go_wp2
 repeat (go_quiet (fail); try go_wp2)
 go_loopg [5] k (fun kq v5 w' => ∃ (x5_1 : Int), v5 = .int .i64 x5_1 ∧ Aside0 (dancestudioref35_Same.l0 kq l0 l1 x5_1 = some r) ∧ Aside0 (kq ≤ k) ∧ Drawn0 w w')
 case atStart => exact ⟨(0), rfl, H', ⟨Nat.le_refl _⟩, by repeat (first | exact Drawn0.refl _ | apply Drawn0.step)⟩
 case round =>
  clear H' c3b0 c3b1 c3b2
  obtain ⟨x5_1, rfl, HA, HK1, ⟨m1, rfl⟩⟩ := hrel
  cases gk with
  | zero => exact absurd HA.out (by simp [dancestudioref35_Same.l0])
  | succ k1 =>
   have H := HA.out
   clear HA
   simp only [dancestudioref35_Same.l0] at H
   by_cases c4 : x5_1 < (l0.length : Int)
   rotate_left
   ·
    rw [if_neg c4] at H
    have c4b0 := decide_eq_false c4
    clear c4
    obtain rfl := Option.some.inj H
    go_wp2
    repeat (go_quiet (fail); try go_wp2)
    go_ret
    exact ⟨by first | rfl | (simp; done) | (simp [*]; done), by repeat (first | exact Drawn0.refl _ | apply Drawn0.step)⟩
   rw [if_pos c4] at H
   have c4b0 := decide_eq_true c4
   clear c4
   obtain ⟨c5, H⟩ : (0 ≤ x5_1) ∧ _ := mIf H
   have c5b0 := decide_eq_true c5
   clear c5
   obtain ⟨c6, H⟩ : (x5_1 < (l1.length : Int)) ∧ _ := mIf H
   have c6b0 := decide_eq_true c6
   clear c6
   by_cases c7 : (!(((rd_T43 l0 x5_1).f0) == ((rd_T43 l1 x5_1).f0)) || (!((((rd_T43 l0 x5_1).f1).toList) == (((rd_T43 l1 x5_1).f1).toList)) || (!(((rd_T43 l0 x5_1).f2) == ((rd_T43 l1 x5_1).f2)) || (!(((rd_T43 l0 x5_1).f3) == ((rd_T43 l1 x5_1).f3)))))) = true
   ·
    rw [if_pos c7] at H
    have c7b0 : (!(((rd_T43 l0 x5_1).f0) == ((rd_T43 l1 x5_1).f0)) || (!((((rd_T43 l0 x5_1).f1).toList) == (((rd_T43 l1 x5_1).f1).toList)) || (!(((rd_T43 l0 x5_1).f2) == ((rd_T43 l1 x5_1).f2)) || (!(((rd_T43 l0 x5_1).f3) == ((rd_T43 l1 x5_1).f3)))))) = true := c7
    clear c7
    obtain rfl := Option.some.inj H
    have p241 : 0 ≤ (x5_1 : Int) := of_decide_eq_true (by assumption)
    have q241 : x5_1 < (l0.length : Int) := of_decide_eq_true (by assumption)
    obtain ⟨ad241, e241, hx241_0, hx241_1, hx241_2, hx241_3⟩ := at_T43 HR0.out x5_1 p241 q241
    cases e241
    replace p241 := eq_true p241
    replace q241 := eq_true q241
    have p242 : 0 ≤ (x5_1 : Int) := of_decide_eq_true (by assumption)
    have q242 : x5_1 < (l1.length : Int) := of_decide_eq_true (by assumption)
    obtain ⟨ad242, e242, hx242_0, hx242_1, hx242_2, hx242_3⟩ := at_T43 HR1.out x5_1 p242 q242
    cases e242
    replace p242 := eq_true p242
    replace q242 := eq_true q242
    go_wp2
    repeat (go_quiet (fail); try go_wp2)
    go_ret
    exact ⟨by first | rfl | (simp; done) | (simp [*]; done), by repeat (first | exact Drawn0.refl _ | apply Drawn0.step)⟩
   rw [if_neg c7] at H
   have c7b0 : (!(((rd_T43 l0 x5_1).f0) == ((rd_T43 l1 x5_1).f0)) || (!((((rd_T43 l0 x5_1).f1).toList) == (((rd_T43 l1 x5_1).f1).toList)) || (!(((rd_T43 l0 x5_1).f2) == ((rd_T43 l1 x5_1).f2)) || (!(((rd_T43 l0 x5_1).f3) == ((rd_T43 l1 x5_1).f3)))))) = false := by simpa using c7
   clear c7
   have H' := Aside0.mk H
   clear H
   have p241 : 0 ≤ (x5_1 : Int) := of_decide_eq_true (by assumption)
   have q241 : x5_1 < (l0.length : Int) := of_decide_eq_true (by assumption)
   obtain ⟨ad241, e241, hx241_0, hx241_1, hx241_2, hx241_3⟩ := at_T43 HR0.out x5_1 p241 q241
   cases e241
   replace p241 := eq_true p241
   replace q241 := eq_true q241
   have p242 : 0 ≤ (x5_1 : Int) := of_decide_eq_true (by assumption)
   have q242 : x5_1 < (l1.length : Int) := of_decide_eq_true (by assumption)
   obtain ⟨ad242, e242, hx242_0, hx242_1, hx242_2, hx242_3⟩ := at_T43 HR1.out x5_1 p242 q242
   cases e242
   replace p242 := eq_true p242
   replace q242 := eq_true q242
   go_wp2
   repeat (go_quiet (fail); try go_wp2)
   go_roundg k1
   case measure => have := HK1.out; omega
   case rel => exact ⟨(wrap64 (x5_1 + 1)), rfl, H', ⟨by have := HK1.out; omega⟩, by repeat (first | exact Drawn0.refl _ | apply Drawn0.step)⟩
end Go.Proofs.YtimikhbnihedkaaDoor.PAll
namespace Go.Proofs.YtimikhbnihedkaaDoor.PAll
open Go.RowKit Go.Proofs.YtimikhbnihedkaaDoorW.PrintWords Go.Proofs.YtimikhbnihedkaaDoorW.PrintLast Go.Proofs.YtimikhbnihedkaaDoorW.PrintMore
attribute [local go_sem] max2_int min2_int max_two min_two max_three min_three max_four min_four
set_option linter.unusedVariables false
set_option linter.unusedSimpArgs false
mutual
def lang_ticks.l0 : Nat → List (S43) → List ByteArray → List Int → Int → List (List (S43)) → Int → Int → Option (Int)
 | 0, _, _, _, _, _, _, _ => none
 | k + 1, x0, x1, x2, x7, x25, x26, x27 => if x27 < x26 then (if 0 ≤ x27 then (if x27 < (x25.length : Int) then ((lang_ticks.f k (rd_L3 x25 x27) x1 x2).bind fun t251 => (lang_ticks.l0 k x0 x1 x2 (wrap64 (x7 + t251)) x25 x26 (wrap64 (x27 + 1)))) else (none)) else (none)) else (if 0 < (x0.length : Int) then (if ((rd_T43 x0 0).f0) = 6 then (some (mn (wrap64 (x7 * ((rd_T43 x0 0).f2))) 8193)) else (if ((rd_T43 x0 0).f0) = 7 then (some (mn (wrap64 (x7 * ((rd_T43 x0 0).f2))) 8193)) else (some (mn x7 8193)))) else (none))
def lang_ticks.f : Nat → List (S43) → List ByteArray → List Int → Option (Int)
 | 0, _, _, _ => none
 | k + 1, l0, l1, l2 => if 0 < (l0.length : Int) then (if ((rd_T43 l0 0).f0) = 1 then ((slices_Index_string_string.f k l1 ((rd_T43 l0 0).f1)).bind fun t245 => (if 0 ≤ t245 then (if t245 < (l2.length : Int) then (some (rd l2 t245)) else (none)) else (none))) else ((lang_arguments.f k l0).bind fun t247 => (lang_ticks.l0 k l0 l1 l2 0 t247 (t247.length : Int) 0))) else (none)
end
set_option maxHeartbeats 8000000 in
set_option maxRecDepth 100000 in
theorem lang_ticks.calls (k : Nat) : ∀ (A0 : Option Addr) (c0 : Nat) (l0 : List (S43)) (A1 : Option Addr) (c1 : Nat) (l1 : List ByteArray) (A2 : Option Addr) (c2 : Nat) (l2 : List Int) (r : Int) (w : World) (hr0 : Kd.C k43 w A0 l0.length l0) (hc0 : l0.length ≤ c0) (hr1 : Kd.C Kd.string w A1 l1.length l1) (hc1 : l1.length ≤ c1) (hr2 : Kd.C (Kd.int .i64) w A2 l2.length l2) (hc2 : l2.length ≤ c2) (h : lang_ticks.f k l0 l1 l2 = some r),
  Calls Tryd.prog 47 #[.slice A0 l0.length c0, .slice A1 l1.length c1, .slice A2 l2.length c2] w fun e w' => e = .returned (.int .i64 r) ∧ Below w.heap.size w w' := by
 induction k using Nat.strongRecOn with
 | _ k ih =>
 intro A0 c0 l0 A1 c1 l1 A2 c2 l2 r w hr0 hc0 hr1 hc1 hr2 hc2 h
 cases k with
 | zero => exact absurd h (by simp [lang_ticks.f])
 | succ k =>
 simp only [lang_ticks.f] at h
 have HR0 := Aside0.mk hr0
 have HC0 := Aside0.mk hc0
 clear hr0 hc0
 have HR1 := Aside0.mk hr1
 have HC1 := Aside0.mk hc1
 clear hr1 hc1
 have HR2 := Aside0.mk hr2
 have HC2 := Aside0.mk hc2
 clear hr2 hc2
 have HB := Aside0.mk (Below.refl w.heap.size w)
 have H := h
 unfold lang_ticks.f at H
 clear h
 obtain ⟨c4, H⟩ : (0 < (l0.length : Int)) ∧ _ := mIf H
 have c4b0 := decide_eq_true c4
 have c4b1 : decide (0 < l0.length) = true := decide_eq_true (by omega)
 clear c4
 by_cases c5 : ((rd_T43 l0 0).f0) = 1
 ·
  rw [if_pos c5] at H
  have c5b0 := beq_iff_eq.mpr c5
  have c5b1 := bne_eq_false_iff_eq.mpr c5
  clear c5
  replace H := Option.bind_eq_some_iff.mp H
  obtain ⟨t245, A60, H⟩ := H
  try dsimp only at H
  have A6 := Aside0.mk A60
  clear A60
  obtain ⟨c7, H⟩ : (0 ≤ t245) ∧ _ := mIf H
  have c7b0 := decide_eq_true c7
  clear c7
  obtain ⟨c8, H⟩ : (t245 < (l2.length : Int)) ∧ _ := mIf H
  have c8b0 := decide_eq_true c8
  clear c8
  obtain rfl := Option.some.inj H
  have p243 : 0 ≤ (0 : Int) := (by omega)
  have q243 : 0 < (l0.length : Int) := of_decide_eq_true (by assumption)
  obtain ⟨ad243, e243, hx243_0, hx243_1, hx243_2, hx243_3⟩ := at_T43 HR0.out 0 p243 q243
  cases e243
  have qi243 : (0 < l0.length) = True := eq_true (by omega)
  (try rw [show ((0 : Int)).toNat = 0 from rfl] at hx243_0)
  (try rw [show 0 * 4 = 0 from rfl] at hx243_0)
  (try rw [Addr.add_zero'] at hx243_0)
  (try rw [show ((0 : Int)).toNat = 0 from rfl] at hx243_1)
  (try rw [show 0 * 4 = 0 from rfl] at hx243_1)
  (try rw [Addr.add_zero'] at hx243_1)
  (try rw [show ((0 : Int)).toNat = 0 from rfl] at hx243_2)
  (try rw [show 0 * 4 = 0 from rfl] at hx243_2)
  (try rw [Addr.add_zero'] at hx243_2)
  (try rw [show ((0 : Int)).toNat = 0 from rfl] at hx243_3)
  (try rw [show 0 * 4 = 0 from rfl] at hx243_3)
  (try rw [Addr.add_zero'] at hx243_3)
  replace p243 := eq_true p243
  replace q243 := eq_true q243
  have p244 : 0 ≤ (0 : Int) := (by omega)
  have q244 : 0 < (l0.length : Int) := of_decide_eq_true (by assumption)
  obtain ⟨ad244, e244, hx244_0, hx244_1, hx244_2, hx244_3⟩ := at_T43 HR0.out 0 p244 q244
  obtain rfl : ad243 = ad244 := (by injection e244)
  have qi244 : (0 < l0.length) = True := eq_true (by omega)
  (try rw [show ((0 : Int)).toNat = 0 from rfl] at hx244_0)
  (try rw [show 0 * 4 = 0 from rfl] at hx244_0)
  (try rw [Addr.add_zero'] at hx244_0)
  (try rw [show ((0 : Int)).toNat = 0 from rfl] at hx244_1)
  (try rw [show 0 * 4 = 0 from rfl] at hx244_1)
  (try rw [Addr.add_zero'] at hx244_1)
  (try rw [show ((0 : Int)).toNat = 0 from rfl] at hx244_2)
  (try rw [show 0 * 4 = 0 from rfl] at hx244_2)
  (try rw [Addr.add_zero'] at hx244_2)
  (try rw [show ((0 : Int)).toNat = 0 from rfl] at hx244_3)
  (try rw [show 0 * 4 = 0 from rfl] at hx244_3)
  (try rw [Addr.add_zero'] at hx244_3)
  replace p244 := eq_true p244
  replace q244 := eq_true q244
  go_enter Tryd.func47, Tryd.ntmps47
  go_wp2_with (first | ((with_reducible refine gate_callee (f := 46) rfl ?_); refine goesL_ (some 21) rfl rfl Tryd.func46 (by kernel_rfl) rfl #[.slice A1 l1.length c1, .string ((rd_T43 l0 0).f1)] rfl (mA2 rfl rfl) ?_; (with_reducible refine (slices_Index_string_string.calls k _ _ l1 ((rd_T43 l0 0).f1) t245 _ HR1.out HC1.out A6.out).mono ?_); rintro e w' ⟨rfl, ⟨nd, rfl⟩⟩; refine ⟨_, rfl, ?_⟩; have p246 : 0 ≤ (t245 : Int) := of_decide_eq_true (by assumption); have q246 : t245 < (l2.length : Int) := of_decide_eq_true (by assumption); obtain ⟨ad246, e246, hx246_0⟩ := Kd.at_int HR2.out t245 p246 q246; cases e246; replace p246 := eq_true p246; replace q246 := eq_true q246))
  go_ret
  exact ⟨rfl, hO HB⟩
 rw [if_neg c5] at H
 have c5b0 := beq_eq_false_iff_ne.mpr c5
 have c5b1 := bne_iff_ne.mpr c5
 replace H := Option.bind_eq_some_iff.mp H
 obtain ⟨t247, A90, H⟩ := H
 try dsimp only at H
 have A9 := Aside0.mk A90
 clear A90
 have H' := Aside0.mk H
 clear H
 have p243 : 0 ≤ (0 : Int) := (by omega)
 have q243 : 0 < (l0.length : Int) := of_decide_eq_true (by assumption)
 obtain ⟨ad243, e243, hx243_0, hx243_1, hx243_2, hx243_3⟩ := at_T43 HR0.out 0 p243 q243
 cases e243
 have qi243 : (0 < l0.length) = True := eq_true (by omega)
 (try rw [show ((0 : Int)).toNat = 0 from rfl] at hx243_0)
 (try rw [show 0 * 4 = 0 from rfl] at hx243_0)
 (try rw [Addr.add_zero'] at hx243_0)
 (try rw [show ((0 : Int)).toNat = 0 from rfl] at hx243_1)
 (try rw [show 0 * 4 = 0 from rfl] at hx243_1)
 (try rw [Addr.add_zero'] at hx243_1)
 (try rw [show ((0 : Int)).toNat = 0 from rfl] at hx243_2)
 (try rw [show 0 * 4 = 0 from rfl] at hx243_2)
 (try rw [Addr.add_zero'] at hx243_2)
 (try rw [show ((0 : Int)).toNat = 0 from rfl] at hx243_3)
 (try rw [show 0 * 4 = 0 from rfl] at hx243_3)
 (try rw [Addr.add_zero'] at hx243_3)
 replace p243 := eq_true p243
 replace q243 := eq_true q243
 go_enter Tryd.func47, Tryd.ntmps47
 go_wp2_with (first | ((with_reducible refine gate_callee (f := 49) rfl ?_); refine goesL_ (some 25) rfl rfl Tryd.func49 (by kernel_rfl) rfl #[.slice (some ad243) l0.length c0] rfl (mA1 rfl) ?_; (with_reducible refine (lang_arguments.calls k (fun k_ => k_ < w.heap.size) _ _ l0 t247 _ (Kd.V_mk HC0.out (Kd.F_below (Kd.C_F k43_heap HR0.out) HB.out)) A9.out).mono ?_); rintro e w10 ⟨v248, rfl, ho0, hb⟩; refine ⟨_, rfl, ?_⟩; have HO249 := Aside0.mk (Kd.N_lower (Kd.N_mono (ok' := fun k_ => True) ho0 (fun k_ hk_ => trivial)) (below_size HB.out)); replace HB := mSt HB hb; (try clear hb); (try clear ho0); obtain ⟨Ao11, co11, eo11⟩ := Kd.N_slice HO249.out; subst eo11))
 go_loopg [7, 27] k (fun kq v7 v27 w' => ∃ (x7_1 : Int) (x27_1 : Int), v7 = .int .i64 x7_1 ∧ v27 = .int .i64 x27_1 ∧ Aside0 (lang_ticks.l0 kq l0 l1 l2 x7_1 t247 (t247.length : Int) x27_1 = some r) ∧ Aside0 (kq ≤ k) ∧ Aside0 (Kd.N (Kd.slice 43 k43) 22 w' w.heap.size (fun _ => True) (.slice Ao11 t247.length co11) t247) ∧ Aside0 (Below w.heap.size w w'))
 case atStart => exact ⟨(0), (0), rfl, rfl, H', ⟨Nat.le_refl _⟩, HO249, ⟨HB.out⟩⟩
 case round =>
  clear H'
  try clear c1; try clear c2; try clear p2; try clear q2; try clear hx2; try clear qi2; try clear c4; try clear c4b0; try clear c4b1; try clear c5; try clear c5b0; try clear c5b1; try clear c7; try clear c7b0; try clear c8; try clear c8b0; try clear hx243_0; try clear hx243_1; try clear hx243_2; try clear hx243_3; try clear hx244_0; try clear hx244_1; try clear hx244_2; try clear hx244_3; try clear hx246_0; try clear p243; try clear p244; try clear p246; try clear q243; try clear q244; try clear q246
  obtain ⟨x7_1, x27_1, rfl, rfl, HA, HK1, HO_25, HB⟩ := hrel
  cases gk with
  | zero => exact absurd HA.out (by simp [lang_ticks.l0])
  | succ k1 =>
   have H := HA.out
   clear HA
   simp only [lang_ticks.l0] at H
   by_cases c12 : x27_1 < (t247.length : Int)
   ·
    rw [if_pos c12] at H
    have c12b0 := decide_eq_true c12
    clear c12
    obtain ⟨c13, H⟩ : (0 ≤ x27_1) ∧ _ := mIf H
    have c13b0 := decide_eq_true c13
    clear c13
    obtain ⟨c14, H⟩ : (x27_1 < (t247.length : Int)) ∧ _ := mIf H
    have c14b0 := decide_eq_true c14
    clear c14
    replace H := Option.bind_eq_some_iff.mp H
    obtain ⟨t251, A150, H⟩ := H
    try dsimp only at H
    have A15 := Aside0.mk A150
    clear A150
    have H' := Aside0.mk H
    clear H
    have p250 : 0 ≤ (x27_1 : Int) := of_decide_eq_true (by assumption)
    have q250 : x27_1 < (t247.length : Int) := of_decide_eq_true (by assumption)
    obtain ⟨ad250, A250_0, c250_0, e250, hx250_0, hl250_0, hi250_0⟩ := at_L3 (Kd.N_reads' HO_25.out).2.2 x27_1 p250 q250
    cases e250
    obtain ⟨ce250, hce250, hMe250, hcc250⟩ := Kd.N_get HO_25.out [] x27_1 p250 (by first | exact q250 | exact of_decide_eq_true (by assumption) | (have e_ := (Kd.N_reads' HO_25.out).1; omega))
    obtain ⟨ua250_0, uc250_0, rfl, ul250_0, ge250_0⟩ := Kd.FK_slice_open hMe250
    have hv250_0 := hcc250 0 _ rfl
    rw [Nat.add_zero, show ((Kd.slice 43 k43)).sz = 1 from rfl, Nat.mul_one] at hv250_0
    replace hv250_0 := Option.some.inj (hv250_0.symm.trans hx250_0)
    injection hv250_0 with hva_ hvn_ hvc_
    rw [hva_] at ge250_0
    rw [hvc_] at ul250_0
    have HL250_0 := Aside0.mk (show Kd.V k43 43 _ w.heap.size _ _ (rd_L3 t247 x27_1) from Kd.V_mk ul250_0 ge250_0)
    clear hva_ hvn_ hvc_ ge250_0 ul250_0 hcc250 hce250
    have HR250_0 := Aside0.mk hi250_0
    have HC250_0 := Aside0.mk hl250_0
    clear hi250_0 hl250_0
    replace p250 := eq_true p250
    replace q250 := eq_true q250
    go_wp2_with (first | ((with_reducible refine gate_callee (f := 47) rfl ?_); refine goesL_ (some 35) rfl rfl Tryd.func47 (by kernel_rfl) rfl #[.slice A250_0 (rd_L3 t247 x27_1).length c250_0, .slice A1 l1.length c1, .slice A2 l2.length c2] rfl (mA3 rfl rfl rfl) ?_; (with_reducible refine (ih k1 (by have := HK1.out; omega) _ _ (rd_L3 t247 x27_1) _ _ l1 _ _ l2 t251 _ ?side1 ?side2 ?side3 ?side4 ?side5 ?side6 A15.out).mono ?_); (case side1 => repeat (first | exact (by repeat (first | (with_reducible exact HR250_0.out) | (with_reducible refine Kd.C_alloc ?_ _) | (with_reducible refine Kd.C_drewN ?_ _) | (with_reducible refine Kd.C_drew ?_) | exact HR250_0.out)) | (with_reducible refine Kd.C_alloc ?_ _) | (with_reducible refine Kd.C_drewN ?_ _) | (with_reducible refine Kd.C_drew ?_))); (case side2 => exact HC250_0.out); (case side3 => exact Kd.C_below HR1.out HB.out); (case side4 => exact HC1.out); (case side5 => exact Kd.C_below HR2.out HB.out); (case side6 => exact HC2.out); rintro e w16 ⟨rfl, hb⟩; refine ⟨_, rfl, ?_⟩; replace HO_25 := Aside0.mk (Kd.N_below HO_25.out hb); replace HL250_0 := Aside0.mk (Kd.V_below HL250_0.out hb); replace HR250_0 := Aside0.mk (Kd.C_below (by repeat (first | (with_reducible exact HR250_0.out) | (with_reducible refine Kd.C_alloc ?_ _) | (with_reducible refine Kd.C_drewN ?_ _) | (with_reducible refine Kd.C_drew ?_) | exact HR250_0.out)) hb); replace HB := mSt HB hb; (try clear hb)))
    go_roundg k1
    case measure => have := HK1.out; omega
    case rel => exact ⟨(wrap64 (x7_1 + t251)), (wrap64 (x27_1 + 1)), rfl, rfl, H', ⟨by have := HK1.out; omega⟩, HO_25, ⟨HB.out⟩⟩
   rw [if_neg c12] at H
   have c12b0 := decide_eq_false c12
   clear c12
   obtain ⟨c17, H⟩ : (0 < (l0.length : Int)) ∧ _ := mIf H
   have c17b0 := decide_eq_true c17
   have c17b1 : decide (0 < l0.length) = true := decide_eq_true (by omega)
   clear c17
   by_cases c18 : ((rd_T43 l0 0).f0) = 6
   ·
    rw [if_pos c18] at H
    have c18b0 := beq_iff_eq.mpr c18
    have c18b1 := bne_eq_false_iff_eq.mpr c18
    clear c18
    obtain ⟨ji19, hji19⟩ : ∃ j_ : Int, (mn (wrap64 (x7_1 * ((rd_T43 l0 0).f2))) 8193) = j_ := ⟨_, rfl⟩
    replace H : (some ji19) = some r := by first | (rw [hji19] at H; exact H) | (simp only [hji19] at H ⊢; exact H)
    have hji19_ : (if 8193 < (wrap64 (x7_1 * ((rd_T43 l0 0).f2))) then 8193 else (wrap64 (x7_1 * ((rd_T43 l0 0).f2)))) = ji19 := hji19
    obtain rfl := Option.some.inj H
    have p252 : 0 ≤ (0 : Int) := (by omega)
    have q252 : 0 < (l0.length : Int) := of_decide_eq_true (by assumption)
    obtain ⟨ad252, e252, hx252_0, hx252_1, hx252_2, hx252_3⟩ := at_T43 HR0.out 0 p252 q252
    obtain rfl : ad243 = ad252 := (by injection e252)
    have qi252 : (0 < l0.length) = True := eq_true (by omega)
    (try rw [show ((0 : Int)).toNat = 0 from rfl] at hx252_0)
    (try rw [show 0 * 4 = 0 from rfl] at hx252_0)
    (try rw [Addr.add_zero'] at hx252_0)
    (try rw [show ((0 : Int)).toNat = 0 from rfl] at hx252_1)
    (try rw [show 0 * 4 = 0 from rfl] at hx252_1)
    (try rw [Addr.add_zero'] at hx252_1)
    (try rw [show ((0 : Int)).toNat = 0 from rfl] at hx252_2)
    (try rw [show 0 * 4 = 0 from rfl] at hx252_2)
    (try rw [Addr.add_zero'] at hx252_2)
    (try rw [show ((0 : Int)).toNat = 0 from rfl] at hx252_3)
    (try rw [show 0 * 4 = 0 from rfl] at hx252_3)
    (try rw [Addr.add_zero'] at hx252_3)
    replace hx252_0 := mHx HB hx252_0
    replace hx252_1 := mHx HB hx252_1
    replace hx252_2 := mHx HB hx252_2
    replace hx252_3 := mHx HB hx252_3
    replace p252 := eq_true p252
    replace q252 := eq_true q252
    have p253 : 0 ≤ (0 : Int) := (by omega)
    have q253 : 0 < (l0.length : Int) := of_decide_eq_true (by assumption)
    obtain ⟨ad253, e253, hx253_0, hx253_1, hx253_2, hx253_3⟩ := at_T43 HR0.out 0 p253 q253
    obtain rfl : ad243 = ad253 := (by injection e253)
    have qi253 : (0 < l0.length) = True := eq_true (by omega)
    (try rw [show ((0 : Int)).toNat = 0 from rfl] at hx253_0)
    (try rw [show 0 * 4 = 0 from rfl] at hx253_0)
    (try rw [Addr.add_zero'] at hx253_0)
    (try rw [show ((0 : Int)).toNat = 0 from rfl] at hx253_1)
    (try rw [show 0 * 4 = 0 from rfl] at hx253_1)
    (try rw [Addr.add_zero'] at hx253_1)
    (try rw [show ((0 : Int)).toNat = 0 from rfl] at hx253_2)
    (try rw [show 0 * 4 = 0 from rfl] at hx253_2)
    (try rw [Addr.add_zero'] at hx253_2)
    (try rw [show ((0 : Int)).toNat = 0 from rfl] at hx253_3)
    (try rw [show 0 * 4 = 0 from rfl] at hx253_3)
    (try rw [Addr.add_zero'] at hx253_3)
    replace hx253_0 := mHx HB hx253_0
    replace hx253_1 := mHx HB hx253_1
    replace hx253_2 := mHx HB hx253_2
    replace hx253_3 := mHx HB hx253_3
    replace p253 := eq_true p253
    replace q253 := eq_true q253
    go_wp2
    go_ret
    exact ⟨by first | rfl | (simp [errW_none, errW_some] <;> rfl) | (simp only [← hji19]; first | rfl | (simp [errW_none, errW_some] <;> rfl)) | (simp [*, errW_none, errW_some] <;> rfl), HB.out⟩
   rw [if_neg c18] at H
   have c18b0 := beq_eq_false_iff_ne.mpr c18
   have c18b1 := bne_iff_ne.mpr c18
   by_cases c20 : ((rd_T43 l0 0).f0) = 7
   rotate_left
   ·
    rw [if_neg c20] at H
    have c20b0 := beq_eq_false_iff_ne.mpr c20
    have c20b1 := bne_iff_ne.mpr c20
    obtain ⟨ji22, hji22⟩ : ∃ j_ : Int, (mn x7_1 8193) = j_ := ⟨_, rfl⟩
    replace H : (some ji22) = some r := by first | (rw [hji22] at H; exact H) | (simp only [hji22] at H ⊢; exact H)
    have hji22_ : (if 8193 < x7_1 then 8193 else x7_1) = ji22 := hji22
    obtain rfl := Option.some.inj H
    have p252 : 0 ≤ (0 : Int) := (by omega)
    have q252 : 0 < (l0.length : Int) := of_decide_eq_true (by assumption)
    obtain ⟨ad252, e252, hx252_0, hx252_1, hx252_2, hx252_3⟩ := at_T43 HR0.out 0 p252 q252
    obtain rfl : ad243 = ad252 := (by injection e252)
    have qi252 : (0 < l0.length) = True := eq_true (by omega)
    (try rw [show ((0 : Int)).toNat = 0 from rfl] at hx252_0)
    (try rw [show 0 * 4 = 0 from rfl] at hx252_0)
    (try rw [Addr.add_zero'] at hx252_0)
    (try rw [show ((0 : Int)).toNat = 0 from rfl] at hx252_1)
    (try rw [show 0 * 4 = 0 from rfl] at hx252_1)
    (try rw [Addr.add_zero'] at hx252_1)
    (try rw [show ((0 : Int)).toNat = 0 from rfl] at hx252_2)
    (try rw [show 0 * 4 = 0 from rfl] at hx252_2)
    (try rw [Addr.add_zero'] at hx252_2)
    (try rw [show ((0 : Int)).toNat = 0 from rfl] at hx252_3)
    (try rw [show 0 * 4 = 0 from rfl] at hx252_3)
    (try rw [Addr.add_zero'] at hx252_3)
    replace hx252_0 := mHx HB hx252_0
    replace hx252_1 := mHx HB hx252_1
    replace hx252_2 := mHx HB hx252_2
    replace hx252_3 := mHx HB hx252_3
    replace p252 := eq_true p252
    replace q252 := eq_true q252
    have p254 : 0 ≤ (0 : Int) := (by omega)
    have q254 : 0 < (l0.length : Int) := of_decide_eq_true (by assumption)
    obtain ⟨ad254, e254, hx254_0, hx254_1, hx254_2, hx254_3⟩ := at_T43 HR0.out 0 p254 q254
    obtain rfl : ad243 = ad254 := (by injection e254)
    have qi254 : (0 < l0.length) = True := eq_true (by omega)
    (try rw [show ((0 : Int)).toNat = 0 from rfl] at hx254_0)
    (try rw [show 0 * 4 = 0 from rfl] at hx254_0)
    (try rw [Addr.add_zero'] at hx254_0)
    (try rw [show ((0 : Int)).toNat = 0 from rfl] at hx254_1)
    (try rw [show 0 * 4 = 0 from rfl] at hx254_1)
    (try rw [Addr.add_zero'] at hx254_1)
    (try rw [show ((0 : Int)).toNat = 0 from rfl] at hx254_2)
    (try rw [show 0 * 4 = 0 from rfl] at hx254_2)
    (try rw [Addr.add_zero'] at hx254_2)
    (try rw [show ((0 : Int)).toNat = 0 from rfl] at hx254_3)
    (try rw [show 0 * 4 = 0 from rfl] at hx254_3)
    (try rw [Addr.add_zero'] at hx254_3)
    replace hx254_0 := mHx HB hx254_0
    replace hx254_1 := mHx HB hx254_1
    replace hx254_2 := mHx HB hx254_2
    replace hx254_3 := mHx HB hx254_3
    replace p254 := eq_true p254
    replace q254 := eq_true q254
    go_wp2
    go_ret
    exact ⟨by first | rfl | (simp [errW_none, errW_some] <;> rfl) | (simp only [← hji22]; first | rfl | (simp [errW_none, errW_some] <;> rfl)) | (simp [*, errW_none, errW_some] <;> rfl), HB.out⟩
   rw [if_pos c20] at H
   have c20b0 := beq_iff_eq.mpr c20
   have c20b1 := bne_eq_false_iff_eq.mpr c20
   clear c20
   obtain ⟨ji21, hji21⟩ : ∃ j_ : Int, (mn (wrap64 (x7_1 * ((rd_T43 l0 0).f2))) 8193) = j_ := ⟨_, rfl⟩
   replace H : (some ji21) = some r := by first | (rw [hji21] at H; exact H) | (simp only [hji21] at H ⊢; exact H)
   have hji21_ : (if 8193 < (wrap64 (x7_1 * ((rd_T43 l0 0).f2))) then 8193 else (wrap64 (x7_1 * ((rd_T43 l0 0).f2)))) = ji21 := hji21
   obtain rfl := Option.some.inj H
   have p252 : 0 ≤ (0 : Int) := (by omega)
   have q252 : 0 < (l0.length : Int) := of_decide_eq_true (by assumption)
   obtain ⟨ad252, e252, hx252_0, hx252_1, hx252_2, hx252_3⟩ := at_T43 HR0.out 0 p252 q252
   obtain rfl : ad243 = ad252 := (by injection e252)
   have qi252 : (0 < l0.length) = True := eq_true (by omega)
   (try rw [show ((0 : Int)).toNat = 0 from rfl] at hx252_0)
   (try rw [show 0 * 4 = 0 from rfl] at hx252_0)
   (try rw [Addr.add_zero'] at hx252_0)
   (try rw [show ((0 : Int)).toNat = 0 from rfl] at hx252_1)
   (try rw [show 0 * 4 = 0 from rfl] at hx252_1)
   (try rw [Addr.add_zero'] at hx252_1)
   (try rw [show ((0 : Int)).toNat = 0 from rfl] at hx252_2)
   (try rw [show 0 * 4 = 0 from rfl] at hx252_2)
   (try rw [Addr.add_zero'] at hx252_2)
   (try rw [show ((0 : Int)).toNat = 0 from rfl] at hx252_3)
   (try rw [show 0 * 4 = 0 from rfl] at hx252_3)
   (try rw [Addr.add_zero'] at hx252_3)
   replace hx252_0 := mHx HB hx252_0
   replace hx252_1 := mHx HB hx252_1
   replace hx252_2 := mHx HB hx252_2
   replace hx252_3 := mHx HB hx252_3
   replace p252 := eq_true p252
   replace q252 := eq_true q252
   have p254 : 0 ≤ (0 : Int) := (by omega)
   have q254 : 0 < (l0.length : Int) := of_decide_eq_true (by assumption)
   obtain ⟨ad254, e254, hx254_0, hx254_1, hx254_2, hx254_3⟩ := at_T43 HR0.out 0 p254 q254
   obtain rfl : ad243 = ad254 := (by injection e254)
   have qi254 : (0 < l0.length) = True := eq_true (by omega)
   (try rw [show ((0 : Int)).toNat = 0 from rfl] at hx254_0)
   (try rw [show 0 * 4 = 0 from rfl] at hx254_0)
   (try rw [Addr.add_zero'] at hx254_0)
   (try rw [show ((0 : Int)).toNat = 0 from rfl] at hx254_1)
   (try rw [show 0 * 4 = 0 from rfl] at hx254_1)
   (try rw [Addr.add_zero'] at hx254_1)
   (try rw [show ((0 : Int)).toNat = 0 from rfl] at hx254_2)
   (try rw [show 0 * 4 = 0 from rfl] at hx254_2)
   (try rw [Addr.add_zero'] at hx254_2)
   (try rw [show ((0 : Int)).toNat = 0 from rfl] at hx254_3)
   (try rw [show 0 * 4 = 0 from rfl] at hx254_3)
   (try rw [Addr.add_zero'] at hx254_3)
   replace hx254_0 := mHx HB hx254_0
   replace hx254_1 := mHx HB hx254_1
   replace hx254_2 := mHx HB hx254_2
   replace hx254_3 := mHx HB hx254_3
   replace p254 := eq_true p254
   replace q254 := eq_true q254
   have p255 : 0 ≤ (0 : Int) := (by omega)
   have q255 : 0 < (l0.length : Int) := of_decide_eq_true (by assumption)
   obtain ⟨ad255, e255, hx255_0, hx255_1, hx255_2, hx255_3⟩ := at_T43 HR0.out 0 p255 q255
   obtain rfl : ad243 = ad255 := (by injection e255)
   have qi255 : (0 < l0.length) = True := eq_true (by omega)
   (try rw [show ((0 : Int)).toNat = 0 from rfl] at hx255_0)
   (try rw [show 0 * 4 = 0 from rfl] at hx255_0)
   (try rw [Addr.add_zero'] at hx255_0)
   (try rw [show ((0 : Int)).toNat = 0 from rfl] at hx255_1)
   (try rw [show 0 * 4 = 0 from rfl] at hx255_1)
   (try rw [Addr.add_zero'] at hx255_1)
   (try rw [show ((0 : Int)).toNat = 0 from rfl] at hx255_2)
   (try rw [show 0 * 4 = 0 from rfl] at hx255_2)
   (try rw [Addr.add_zero'] at hx255_2)
   (try rw [show ((0 : Int)).toNat = 0 from rfl] at hx255_3)
   (try rw [show 0 * 4 = 0 from rfl] at hx255_3)
   (try rw [Addr.add_zero'] at hx255_3)
   replace hx255_0 := mHx HB hx255_0
   replace hx255_1 := mHx HB hx255_1
   replace hx255_2 := mHx HB hx255_2
   replace hx255_3 := mHx HB hx255_3
   replace p255 := eq_true p255
   replace q255 := eq_true q255
   go_wp2
   go_ret
   exact ⟨by first | rfl | (simp [errW_none, errW_some] <;> rfl) | (simp only [← hji21]; first | rfl | (simp [errW_none, errW_some] <;> rfl)) | (simp [*, errW_none, errW_some] <;> rfl), HB.out⟩
mutual
def lang_Length.l0 : Nat → List (S43) → List ByteArray → List Int → List ByteArray → Int → Int → Option (Int × Int)
 | 0, _, _, _, _, _, _ => none
 | k + 1, x0, x1, x2, x22, x23, x24 => if x24 < x23 then (if 0 ≤ x24 then (if x24 < (x22.length : Int) then ((slices_Index_string_string.f k x1 (rdOf ByteArray.empty x22 x24)).bind fun t262 => (if t262 < 0 then (lang_Length.j1 k x0 x1 x2 t262 x22 x23 x24 true) else (lang_Length.j1 k x0 x1 x2 t262 x22 x23 x24 (decide (t262 ≥ (x2.length : Int)))))) else (none)) else (none)) else ((lang_ticks.f k x0 x1 x2).bind fun t260 => (if t260 > 8192 then (some (0, 1)) else (some (t260, 0))))
def lang_Length.j1 : Nat → List (S43) → List ByteArray → List Int → Int → List ByteArray → Int → Int → Bool → Option (Int × Int)
 | 0, _, _, _, _, _, _, _, _ => none
 | k + 1, x0, x1, x2, x12, x22, x23, x24, x38 => if x38 = true then (some (0, 6)) else (if 0 ≤ x12 then (if x12 < (x2.length : Int) then (if (rd x2 x12) < 1 then (some (0, 1)) else (if (rd x2 x12) > 8192 then (some (0, 1)) else (lang_Length.l0 k x0 x1 x2 x22 x23 (wrap64 (x24 + 1))))) else (none)) else (none))
end
def lang_Length.f (k : Nat) (l0 : List (S43)) (l1 : List ByteArray) (l2 : List Int) : Option (Int × Int) := (lang_Names.f k l0).bind fun bt256 => (if bt256.2 = 0 then (lang_Length.l0 k l0 l1 l2 bt256.1 (bt256.1.length : Int) 0) else (some (0, bt256.2)))
set_option maxHeartbeats 8000000 in
set_option maxRecDepth 100000 in
theorem lang_Length.calls (k : Nat) (A0 : Option Addr) (c0 : Nat) (l0 : List (S43)) (A1 : Option Addr) (c1 : Nat) (l1 : List ByteArray) (A2 : Option Addr) (c2 : Nat) (l2 : List Int) (r1 : Int) (r2 : Int) (w : World) (hr0 : Kd.C k43 w A0 l0.length l0) (hc0 : l0.length ≤ c0) (hr1 : Kd.C Kd.string w A1 l1.length l1) (hc1 : l1.length ≤ c1) (hr2 : Kd.C (Kd.int .i64) w A2 l2.length l2) (hc2 : l2.length ≤ c2) (hmx : Mx w) (h : lang_Length.f k l0 l1 l2 = some (r1, r2)) :
  Calls Tryd.prog 24 #[.slice A0 l0.length c0, .slice A1 l1.length c1, .slice A2 l2.length c2] w fun e w' => e = .returned (.tuple #[.int .i64 r1, .int .i64 r2]) ∧ Below w.heap.size w w' := by
 have HMX_ := Aside0.mk hmx
 clear hmx
 have HR0 := Aside0.mk hr0
 have HC0 := Aside0.mk hc0
 clear hr0 hc0
 have HR1 := Aside0.mk hr1
 have HC1 := Aside0.mk hc1
 clear hr1 hc1
 have HR2 := Aside0.mk hr2
 have HC2 := Aside0.mk hc2
 clear hr2 hc2
 have HB := Aside0.mk (Below.refl w.heap.size w)
 have H := h
 unfold lang_Length.f at H
 clear h
 replace H := Option.bind_eq_some_iff.mp H
 obtain ⟨⟨t256, t257⟩, A40, H⟩ := H
 try dsimp only at H
 have A4 := Aside0.mk A40
 clear A40
 by_cases c5 : t257 = 0
 rotate_left
 ·
  rw [if_neg c5] at H
  have c5b0 := beq_eq_false_iff_ne.mpr c5
  have c5b1 := bne_iff_ne.mpr c5
  simp only [Option.some.injEq, Prod.mk.injEq] at H
  obtain ⟨rfl, rfl⟩ := H
  go_enter Tryd.func24, Tryd.ntmps24
  go_wp2_with (first | ((with_reducible refine gate_callee (f := 14) rfl ?_); refine goesL_ (some 16) rfl rfl Tryd.func14 (by kernel_rfl) rfl #[.slice A0 l0.length c0] rfl (mA1 rfl) ?_; (with_reducible refine (lang_Names.calls k _ _ l0 t256 t257 _ HR0.out HC0.out (Mx.below HMX_.out HB.out) A4.out).mono ?_); rintro e w23 ⟨v258, rfl, ho0, hb⟩; refine ⟨_, rfl, ?_⟩; have HO259 := Aside0.mk (Kd.R_lower ho0 (below_size HB.out)); replace HB := mSt HB hb; (try clear hb); (try clear ho0)))
  go_ret2
  exact ⟨rfl, HB.out⟩
 rw [if_pos c5] at H
 have c5b0 := beq_iff_eq.mpr c5
 have c5b1 := bne_eq_false_iff_eq.mpr c5
 clear c5
 have H' := Aside0.mk H
 clear H
 go_enter Tryd.func24, Tryd.ntmps24
 go_wp2_with (first | ((with_reducible refine gate_callee (f := 14) rfl ?_); refine goesL_ (some 16) rfl rfl Tryd.func14 (by kernel_rfl) rfl #[.slice A0 l0.length c0] rfl (mA1 rfl) ?_; (with_reducible refine (lang_Names.calls k _ _ l0 t256 t257 _ HR0.out HC0.out (Mx.below HMX_.out HB.out) A4.out).mono ?_); rintro e w6 ⟨v258, rfl, ho0, hb⟩; refine ⟨_, rfl, ?_⟩; have HO259 := Aside0.mk (Kd.R_lower ho0 (below_size HB.out)); replace HB := mSt HB hb; (try clear hb); (try clear ho0); obtain ⟨Ao7, co7, eo7⟩ := Kd.R_slice HO259.out; subst eo7))
 go_loopg [24] k (fun kq v24 w' => ∃ (x24_1 : Int), v24 = .int .i64 x24_1 ∧ Aside0 (lang_Length.l0 kq l0 l1 l2 t256 (t256.length : Int) x24_1 = some (r1, r2)) ∧ Aside0 (kq ≤ k) ∧ Aside0 (Kd.R Kd.string 9 w' w.heap.size (fun _ => True) (.slice Ao7 t256.length co7) t256) ∧ Aside0 (Below w.heap.size w w'))
 case atStart => exact ⟨(0), rfl, H', ⟨Nat.le_refl _⟩, HO259, ⟨HB.out⟩⟩
 case round =>
  clear H' c5b0 c5b1
  obtain ⟨x24_1, rfl, HA, HK1, HO_22, HB⟩ := hrel
  cases gk with
  | zero => exact absurd HA.out (by simp [lang_Length.l0])
  | succ k1 =>
   have H := HA.out
   clear HA
   simp only [lang_Length.l0] at H
   by_cases c8 : x24_1 < (t256.length : Int)
   rotate_left
   ·
    rw [if_neg c8] at H
    have c8b0 := decide_eq_false c8
    clear c8
    replace H := Option.bind_eq_some_iff.mp H
    obtain ⟨t260, A190, H⟩ := H
    try dsimp only at H
    have A19 := Aside0.mk A190
    clear A190
    by_cases c20 : t260 > 8192
    rotate_left
    ·
     rw [if_neg c20] at H
     have c20b0 := decide_eq_false c20
     clear c20
     simp only [Option.some.injEq, Prod.mk.injEq] at H
     obtain ⟨rfl, rfl⟩ := H
     go_wp2_with (first | ((with_reducible refine gate_callee (f := 47) rfl ?_); refine goesL_ (some 55) rfl rfl Tryd.func47 (by kernel_rfl) rfl #[.slice A0 l0.length c0, .slice A1 l1.length c1, .slice A2 l2.length c2] rfl (mA3 rfl rfl rfl) ?_; (with_reducible refine (lang_ticks.calls k1 _ _ l0 _ _ l1 _ _ l2 t260 _ (Kd.C_below HR0.out HB.out) HC0.out (Kd.C_below HR1.out HB.out) HC1.out (Kd.C_below HR2.out HB.out) HC2.out A19.out).mono ?_); rintro e w22 ⟨rfl, hb⟩; refine ⟨_, rfl, ?_⟩; replace HO_22 := Aside0.mk (Kd.R_below HO_22.out hb); replace HB := mSt HB hb; (try clear hb)))
     go_ret2
     exact ⟨rfl, HB.out⟩
    rw [if_pos c20] at H
    have c20b0 := decide_eq_true c20
    clear c20
    simp only [Option.some.injEq, Prod.mk.injEq] at H
    obtain ⟨rfl, rfl⟩ := H
    go_wp2_with (first | ((with_reducible refine gate_callee (f := 47) rfl ?_); refine goesL_ (some 55) rfl rfl Tryd.func47 (by kernel_rfl) rfl #[.slice A0 l0.length c0, .slice A1 l1.length c1, .slice A2 l2.length c2] rfl (mA3 rfl rfl rfl) ?_; (with_reducible refine (lang_ticks.calls k1 _ _ l0 _ _ l1 _ _ l2 t260 _ (Kd.C_below HR0.out HB.out) HC0.out (Kd.C_below HR1.out HB.out) HC1.out (Kd.C_below HR2.out HB.out) HC2.out A19.out).mono ?_); rintro e w21 ⟨rfl, hb⟩; refine ⟨_, rfl, ?_⟩; replace HO_22 := Aside0.mk (Kd.R_below HO_22.out hb); replace HB := mSt HB hb; (try clear hb)))
    go_ret2
    exact ⟨rfl, HB.out⟩
   rw [if_pos c8] at H
   have c8b0 := decide_eq_true c8
   clear c8
   obtain ⟨c9, H⟩ : (0 ≤ x24_1) ∧ _ := mIf H
   have c9b0 := decide_eq_true c9
   clear c9
   obtain ⟨c10, H⟩ : (x24_1 < (t256.length : Int)) ∧ _ := mIf H
   have c10b0 := decide_eq_true c10
   clear c10
   replace H := Option.bind_eq_some_iff.mp H
   obtain ⟨t262, A110, H⟩ := H
   try dsimp only at H
   have A11 := Aside0.mk A110
   clear A110
   have HC12 := Aside0.mk H
   clear H
   have p261 : 0 ≤ (x24_1 : Int) := of_decide_eq_true (by assumption)
   have q261 : x24_1 < (t256.length : Int) := of_decide_eq_true (by assumption)
   obtain ⟨ad261, e261, hx261_0⟩ := Kd.at_string (Kd.R_reads' HO_22.out).2.2 x24_1 p261 q261
   cases e261
   replace p261 := eq_true p261
   replace q261 := eq_true q261
   go_upto_region 8 with (first | ((with_reducible refine gate_callee (f := 46) rfl ?_); refine goesL_ (some 30) rfl rfl Tryd.func46 (by kernel_rfl) rfl #[.slice A1 l1.length c1, .string (rdOf ByteArray.empty t256 x24_1)] rfl (mA2 rfl rfl) ?_; (with_reducible refine (slices_Index_string_string.calls k1 _ _ l1 (rdOf ByteArray.empty t256 x24_1) t262 _ (Kd.C_below HR1.out HB.out) HC1.out A11.out).mono ?_); rintro e w' ⟨rfl, ⟨nd, rfl⟩⟩; refine ⟨_, rfl, ?_⟩))
   (try simp only [Act.put, List.setIfInBounds_toArray, List.set_cons_zero, List.set_cons_succ])
   go_cut [38] (fun v38 wc => ∃ (kq : Nat) (x38_11 : Bool), v38 = .bool x38_11 ∧ Aside0 (lang_Length.j1 kq l0 l1 l2 t262 t256 (t256.length : Int) x24_1 x38_11 = some (r1, r2)) ∧ Aside0 (kq ≤ k1) ∧ Aside0 (Kd.R Kd.string 9 wc w.heap.size (fun _ => True) (.slice (some ad261) t256.length co7) t256) ∧ Aside0 (Below w.heap.size w wc))
   case first =>
    have H := HC12.out
    clear HC12
    by_cases c13 : t262 < 0
    rotate_left
    ·
     rw [if_neg c13] at H
     have c13b0 := decide_eq_false c13
     clear c13
     (first | rw [c13b0] | (simp only [i64_w, i32_w]; rw [c13b0]) | skip)
     have H' := Aside0.mk H
     clear H
     go_wp2
     go_meet
     case rel => exact ⟨_, (decide (t262 ≥ (l2.length : Int))), rfl, H', ⟨by have := HK1.out; first | omega | exact Nat.le_refl _⟩, HO_22, ⟨hO HB⟩⟩
    rw [if_pos c13] at H
    have c13b0 := decide_eq_true c13
    clear c13
    (first | rw [c13b0] | (simp only [i64_w, i32_w]; rw [c13b0]) | skip)
    have H' := Aside0.mk H
    clear H
    go_wp2
    go_meet
    case rel => exact ⟨_, (true), rfl, H', ⟨by have := HK1.out; first | omega | exact Nat.le_refl _⟩, HO_22, ⟨hO HB⟩⟩
   case rest =>
    clear HC12; try clear c1; try clear c2; try clear p2; try clear q2; try clear hx2; try clear c4; try clear c5; try clear c5b0; try clear c5b1; try clear c8; try clear c8b0; try clear c9; try clear c9b0; try clear c10; try clear c10b0; try clear c13; try clear c13b0; try clear hx261_0; try clear p261; try clear q261
    obtain ⟨kq, x38_11, rfl, HA, HJ11, HO_22, HB⟩ := hcut
    cases kq with
    | zero => exact absurd HA.out (by simp [lang_Length.j1])
    | succ kj11 =>
     have H := HA.out
     clear HA
     simp only [lang_Length.j1] at H
     by_cases c14 : x38_11 = true
     ·
      subst c14
      rw [if_pos rfl] at H
      simp only [Option.some.injEq, Prod.mk.injEq] at H
      obtain ⟨rfl, rfl⟩ := H
      go_wp2
      go_ret2
      exact ⟨rfl, HB.out⟩
     replace c14 := Bool.eq_false_iff.mpr c14
     subst c14
     rw [if_neg (show ¬ (false = true) by decide)] at H
     obtain ⟨c15, H⟩ : (0 ≤ t262) ∧ _ := mIf H
     have c15b0 := decide_eq_true c15
     clear c15
     obtain ⟨c16, H⟩ : (t262 < (l2.length : Int)) ∧ _ := mIf H
     have c16b0 := decide_eq_true c16
     clear c16
     by_cases c17 : (rd l2 t262) < 1
     ·
      rw [if_pos c17] at H
      have c17b0 := decide_eq_true c17
      clear c17
      simp only [Option.some.injEq, Prod.mk.injEq] at H
      obtain ⟨rfl, rfl⟩ := H
      have p263 : 0 ≤ (t262 : Int) := of_decide_eq_true (by assumption)
      have q263 : t262 < (l2.length : Int) := of_decide_eq_true (by assumption)
      obtain ⟨ad263, e263, hx263_0⟩ := Kd.at_int HR2.out t262 p263 q263
      cases e263
      replace hx263_0 := mHx HB hx263_0
      replace p263 := eq_true p263
      replace q263 := eq_true q263
      go_wp2
      go_ret2
      exact ⟨rfl, HB.out⟩
     rw [if_neg c17] at H
     have c17b0 := decide_eq_false c17
     clear c17
     by_cases c18 : (rd l2 t262) > 8192
     ·
      rw [if_pos c18] at H
      have c18b0 := decide_eq_true c18
      clear c18
      simp only [Option.some.injEq, Prod.mk.injEq] at H
      obtain ⟨rfl, rfl⟩ := H
      have p263 : 0 ≤ (t262 : Int) := of_decide_eq_true (by assumption)
      have q263 : t262 < (l2.length : Int) := of_decide_eq_true (by assumption)
      obtain ⟨ad263, e263, hx263_0⟩ := Kd.at_int HR2.out t262 p263 q263
      cases e263
      replace hx263_0 := mHx HB hx263_0
      replace p263 := eq_true p263
      replace q263 := eq_true q263
      have p264 : 0 ≤ (t262 : Int) := of_decide_eq_true (by assumption)
      have q264 : t262 < (l2.length : Int) := of_decide_eq_true (by assumption)
      obtain ⟨ad264, e264, hx264_0⟩ := Kd.at_int HR2.out t262 p264 q264
      obtain rfl : ad263 = ad264 := (by injection e264)
      replace hx264_0 := mHx HB hx264_0
      replace p264 := eq_true p264
      replace q264 := eq_true q264
      go_wp2
      go_ret2
      exact ⟨rfl, HB.out⟩
     rw [if_neg c18] at H
     have c18b0 := decide_eq_false c18
     clear c18
     have H' := Aside0.mk H
     clear H
     have p263 : 0 ≤ (t262 : Int) := of_decide_eq_true (by assumption)
     have q263 : t262 < (l2.length : Int) := of_decide_eq_true (by assumption)
     obtain ⟨ad263, e263, hx263_0⟩ := Kd.at_int HR2.out t262 p263 q263
     cases e263
     replace hx263_0 := mHx HB hx263_0
     replace p263 := eq_true p263
     replace q263 := eq_true q263
     have p264 : 0 ≤ (t262 : Int) := of_decide_eq_true (by assumption)
     have q264 : t262 < (l2.length : Int) := of_decide_eq_true (by assumption)
     obtain ⟨ad264, e264, hx264_0⟩ := Kd.at_int HR2.out t262 p264 q264
     obtain rfl : ad263 = ad264 := (by injection e264)
     replace hx264_0 := mHx HB hx264_0
     replace p264 := eq_true p264
     replace q264 := eq_true q264
     go_wp2
     go_roundg kj11
     case measure => have := HK1.out; have := HJ11.out; omega
     case rel => exact ⟨(wrap64 (x24_1 + 1)), rfl, H', ⟨by have := HK1.out; have := HJ11.out; omega⟩, HO_22, ⟨HB.out⟩⟩
end Go.Proofs.YtimikhbnihedkaaDoor.PAll
/- An append of a row to itself: what was the row before stays, whether the row is laid anew or not. -/
namespace Go.Proofs.YtimikhbnihedkaaDoorW.PrintWords
open Go Go.RowKit
namespace Kd
section
variable {P : Program} {ops : Array Oper} {rest : List Oper} {o : Oper} {a : Act} {Q : Exit → Act → World → Prop} {α : Type}
theorem R_append_rows2 (d : Kd α) {Rr : α → List Value → Prop} {w0 W : World} (base : Nat) (hgd : o.guard = none) (s x : Operand) (t e : TypeId) (z : Value) (bytes : Nat)
    (ho : o.op = .call { callee := .builtin .append, args := #[s, x], argTypes := #[t, t] })
    (ht : P.underlying t = some (.slice e)) (hinfo : (P.info? e).map (fun i => (i.zero, i.size, i.bytes)) = some (some z, d.sz, bytes)) (hz : z.cells.size = d.sz) (hs0 : 0 < d.sz) (hb0 : 0 < bytes)
    (v : Value) (xs ys : List α) (A : Option Addr) (m c : Nat) (ok okp : Nat → Prop) (hs : a.eval s = v) (hx : a.eval x = .slice A m c)
    (HO : d.R e W base ok v xs) (HR : ReadsRow Rr d.sz W A m ys) (hKM : ∀ x cs, Rr x cs → d.M W base okp x cs) (hokp : ∀ k, okp k → ok k ∧ some k ≠ v.ownBlock) (hfresh : ∀ k, W.heap.size ≤ k → ok k)
    (HB : Below base w0 W) (hbase : base ≤ W.heap.size) (hl : (xs.length + m) * bytes ≤ 140737488355328)
    (h : ∀ v1 w1, d.R e w1 base ok v1 (xs ++ ys) → Below base w0 w1 → W.grownBy w1 v.ownBlock → (v1.ownBlock = v.ownBlock ∨ ∃ b, v1.ownBlock = some b ∧ W.heap.size ≤ b) → (v1.ownBlock = v.ownBlock ∨ ∀ k, k < W.heap.size → w1.heap[k]? = W.heap[k]?) → wpList P ops Q rest (a.put o.dst v1) w1) :
    wpList P ops Q (o :: rest) a W := by
  obtain ⟨i0, hi, hzz⟩ := Option.map_eq_some_iff.1 hinfo
  simp only [Prod.mk.injEq] at hzz
  obtain ⟨hz0, hz1, hz2⟩ := hzz
  have hm : ys.length = m := HR.1
  have hlen : xs.length + m ≤ 140737488355328 := Nat.le_trans (Nat.le_mul_of_pos_right _ hb0) hl
  obtain ⟨hok, inner, hown, hr⟩ := HO
  have hrun : ∃ v1 w1, (Builtin.append_ #[t, t] o.type #[v, .slice A m c]).run P W = .ok v1 w1 ∧ d.R e w1 base ok v1 (xs ++ ys) ∧ W.grownBy w1 v.ownBlock ∧ (v1.ownBlock = v.ownBlock ∨ ∃ b, v1.ownBlock = some b ∧ W.heap.size ≤ b) ∧ (v1.ownBlock = v.ownBlock ∨ ∀ k, k < W.heap.size → w1.heap[k]? = W.heap[k]?) := by
    rcases A with _ | ad
    · have h0 : m = 0 := by
        rcases Nat.eq_zero_or_pos m with h0 | h0
        · exact h0
        · obtain ⟨ad, h, _⟩ := HR.2.2 h0
          cases h
      subst h0
      obtain rfl : ys = [] := List.eq_nil_of_length_eq_zero hm
      refine ⟨v, W, ?_, by rw [List.append_nil]; exact ⟨hok, inner, hown, hr⟩, World.grownBy.refl W _, .inl rfl, .inl rfl⟩
      rcases hown.2 with ⟨rfl, hn⟩ | ⟨g, cap, cur, rfl, _, _, hnc, _⟩
      · simp [Builtin.append_, run_underlying ht, sizeOf, typeInfo, hi, Builtin.lenOf, Builtin.firstCells]
      · simp [Builtin.append_, run_underlying ht, sizeOf, typeInfo, hi, Builtin.lenOf, Builtin.firstCells, hnc, storeCells]
    · obtain ⟨news, hnr, hnc⟩ := ReadsRow.inner_ HR
      have hnM : Reps (d.M W base okp) d.sz ys news := hnr.imp_ (fun p c hp => hKM p c hp)
      have hone : ∀ u ∈ news, u.oneCell' = true := by
        intro u hu
        obtain ⟨q, hq, rfl⟩ := List.mem_iff_getElem.1 hu
        have hql : q / d.sz < ys.length := by
          rw [Nat.div_lt_iff_lt_mul hs0]
          rw [← hnM.1]
          exact hq
        have hc := hnM.2 (q / d.sz) _ (List.getElem?_eq_getElem hql)
        refine d.K_one (d.K_of_M hc) _ ?_
        rw [List.mem_iff_getElem?]
        refine ⟨q % d.sz, ?_⟩
        rw [List.getElem?_take, if_pos (Nat.mod_lt _ hs0), List.getElem?_drop, Nat.mul_comm, Nat.div_add_mod, List.getElem?_eq_getElem hq]
      obtain ⟨v1, w1, hrun, h2, hg, _, hat⟩ := run_append_own_at (P := P) W base t o.type e i0 z d.sz bytes ht hi hz0 hz1 hz2 hz hs0 v xs.length inner hown ad m c news (by rw [hnM.1, hm]) hnc hone (by simp only [maxLen]; omega) hl hbase
      have hat' : v1.ownBlock = v.ownBlock ∨ ∃ b, v1.ownBlock = some b ∧ W.heap.size ≤ b := by
        rcases hat with hat | hat
        · exact .inl hat
        · exact .inr ⟨_, hat, Nat.le_refl _⟩
      have hkept : v1.ownBlock = v.ownBlock ∨ ∀ k, k < W.heap.size → w1.heap[k]? = W.heap[k]? := by
        rcases hat with hat | hat
        · exact .inl hat
        refine .inr fun k hk => ?_
        have hown2 := hown.2
        rcases hown2 with ⟨rfl, hn⟩ | ⟨g, cap, cur, rfl, hbg, hcur, hnc2, hcm, hcs, htake⟩
        · exact hg.block k hk (by simp [Value.ownBlock])
        · by_cases hroom : xs.length + m ≤ cap
          · have hr2 := run_append_room (P := P) (w := W) t o.type e i0 ht hi g xs.length cap cur hcur ad m c news (by rw [hz1, hnM.1, hm]) hnc hone hroom (by rw [hz1, hcs, hnM.1, hm, ← Nat.add_mul]; exact Nat.mul_le_mul_right _ hroom)
            rw [hrun] at hr2
            injection hr2 with hv hw
            rw [hv] at hat
            simp only [Value.ownBlock, Option.some.injEq] at hat
            have := (Array.getElem?_eq_some_iff.1 hcur).1
            omega
          · have hr2 := run_append_grow (P := P) (w := W) t o.type e i0 z ht hi hz0 ⟨g, 0, none⟩ xs.length cap inner (by rw [hz1]; exact hown.1) (hown.cells (g := g) rfl) ad m c news (by rw [hz1, hnM.1, hm]) hnc (by omega) (by omega) (growslice_fits (by omega) (by rw [hz2]; exact hl))
            rw [hrun] at hr2
            injection hr2 with hv hw
            rw [hw]
            first | exact heap_alloc_old W.drew _ k hk | exact heap_alloc_old W.drew _ hk
      have hne : ∀ k, some k ≠ v.ownBlock → k < W.heap.size → some k ≠ v1.ownBlock := by
        intro k hk hlt
        rcases hat' with hat | ⟨b, hb, hle⟩
        · rw [hat]; exact hk
        · rw [hb]
          intro he
          injection he with he
          omega
      have step : ∀ {q : α} {c : List Value} {o : Nat → Prop}, d.M W base o q c → (∀ k, o k → ok k ∧ some k ≠ v.ownBlock) → d.M w1 base (fun k => ok k ∧ some k ≠ v1.ownBlock) q c := by
        intro q c o hq ho
        have h1 := d.M_move (w1 := w1) (fun k hk => hg.block k hk.2.2.1 (ho k hk.1).2) (d.M_bound hq)
        exact d.M_mono (fun k hk => ⟨(ho k hk.1).1, hne k (ho k hk.1).2 hk.2.2.1⟩) h1
      refine ⟨v1, w1, hrun, ⟨fun k hk => ?_, inner ++ news, by rw [List.length_append, hm]; exact h2, reps_append (hr.imp_ (fun _ _ hq => step hq (fun _ hk => hk))) (hnM.imp_ (fun _ _ hq => step hq hokp))⟩, hg, hat', hkept⟩
      rcases hat' with hat | ⟨b, hb, hle⟩
      · exact hok k (hat ▸ hk)
      · rw [hb] at hk
        injection hk with hk
        exact hfresh k (by omega)
  obtain ⟨v1, w1, hr1, h1, hg, hat, hkp⟩ := hrun
  refine wpList_plain hgd fun K hK => ?_
  unfold Oper.wp execOp
  simp only [ho, resolve, invoke, builtin, Sem.run_bind, Sem.run_pure, Result.andThen_ok, List.map_toArray, List.map_cons, List.map_nil, hs, hx, hr1]
  exact hK _ _ (h v1 w1 h1 (HB.grown hg hbase (own_base hown)) hg hat hkp)
/-- A row A that holds ys is read while v, which may have begun as it, is appended to. -/
def Al (d : Kd α) (w : World) (v : Value) (A : Option Addr) (ys xs : List α) : Prop :=
  d.C w A ys.length ys ∧ ((∀ ad, A = some ad → some ad.block ≠ v.ownBlock ∧ ad.block < w.heap.size) ∨ (∃ c, v = .slice A xs.length c ∧ ∃ zs, xs = ys ++ zs))
theorem Al_start {d : Kd α} {e base : Nat} {ok : Nat → Prop} {w : World} {A : Option Addr} {c : Nat} {xs : List α} (h : d.R e w base ok (.slice A xs.length c) xs) : Al d w (.slice A xs.length c) A xs xs :=
  ⟨(R_reads' h).2.2, .inr ⟨c, rfl, [], (List.append_nil _).symm⟩⟩
theorem Al_step {d : Kd α} {e base : Nat} {ok ok1 : Nat → Prop} {w w1 : World} {v v1 : Value} {A : Option Addr} {ys xs : List α} (hR : d.R e w base ok v xs) (h : Al d w v A ys xs) (hR1 : d.R e w1 base ok1 v1 (xs ++ ys))
    (hg : w.grownBy w1 v.ownBlock) (hat : v1.ownBlock = v.ownBlock ∨ ∃ b, v1.ownBlock = some b ∧ w.heap.size ≤ b) (hk : v1.ownBlock = v.ownBlock ∨ ∀ k, k < w.heap.size → w1.heap[k]? = w.heap[k]?) (hK : ∀ x cs, d.K w x cs → d.K w1 x cs) : Al d w1 v1 A ys (xs ++ ys) := by
  obtain ⟨hC, hd⟩ := h
  have keepC : (∀ ad, A = some ad → ad.block < w.heap.size → w1.heap[ad.block]? = w.heap[ad.block]?) → d.C w1 A ys.length ys := by
    intro hm
    refine ⟨hC.1, hC.2.1, fun hp => ?_⟩
    obtain ⟨ad, he, hc⟩ := hC.2.2 hp
    refine ⟨ad, he, fun j p hj => ?_⟩
    obtain ⟨cs, hl, hq, hu⟩ := hc j p hj
    refine ⟨cs, hl, hK _ _ hq, fun i u hi => ?_⟩
    · have h1 := hu i u hi
      have hb : (ad.add (j * d.sz + i)).block = ad.block := by unfold Addr.add; split <;> rfl
      have hlt := World.block_lt_of_cell? w _ h1
      rw [hb] at hlt
      exact (World.cell?_of_block (by rw [hb]; exact hm ad he hlt)).trans h1
  rcases hd with hfar | ⟨c, rfl, zs, hz⟩
  · refine ⟨keepC (fun ad he hlt => hg.block _ hlt (hfar ad he).1), .inl fun ad he => ⟨?_, Nat.lt_of_lt_of_le (hfar ad he).2 hg.size⟩⟩
    rcases hat with hat | ⟨b, hb, hle⟩
    · rw [hat]; exact (hfar ad he).1
    · rw [hb]; intro h; injection h with h; have := (hfar ad he).2; omega
  · obtain ⟨inner, hown⟩ := R_own hR
    rcases hat with hat | ⟨b, hb, hle⟩
    · cases A with
      | none =>
        have h0 : ys.length = 0 := by
          rcases Nat.eq_zero_or_pos ys.length with h | h
          · exact h
          · obtain ⟨ad, he, _⟩ := hC.2.2 h; cases he
        exact ⟨⟨hC.1, hC.2.1, fun hp => by omega⟩, .inl fun ad he => by cases he⟩
      | some ad =>
        obtain ⟨A1, c1, hv1⟩ := R_slice hR1
        obtain ⟨inner1, hown1⟩ := R_own hR1
        have hA : A1 = some ad := by
          rcases hown.2 with ⟨h, _⟩ | ⟨g, cap, cur, h, _⟩
          · injection h with h; cases h
          rcases hown1.2 with ⟨h1, _⟩ | ⟨g1, cap1, cur1, h1, _⟩
          · rw [h1] at hat; simp [Value.ownBlock] at hat
          injection h with ha _ _
          injection ha with ha
          rw [h1] at hat hv1
          injection hv1 with ha1 _ _
          rw [← ha1, ha]
          rw [ha] at hat
          simp only [Value.ownBlock, Option.some.injEq] at hat
          rw [hat]
        subst hA
        have hC1 := (R_reads' (hv1 ▸ hR1)).2.2
        refine ⟨⟨rfl, hC.2.1, fun hp => ?_⟩, .inr ⟨c1, hv1, zs ++ ys, by rw [hz, List.append_assoc]⟩⟩
        obtain ⟨ad1, he, hc⟩ := hC1.2.2 (by rw [List.length_append]; omega)
        refine ⟨ad1, he, fun j p hj => hc j p ?_⟩
        rw [hz, List.append_assoc, List.getElem?_append_left (List.getElem?_eq_some_iff.mp hj).1]
        exact hj
    · have hlt : ∀ k, (Value.slice A xs.length c).ownBlock = some k → k < w.heap.size := fun k hk => own_lt hown k hk
      have hk2 := hk.resolve_left (fun h => by have := hlt b (h ▸ hb); omega)
      refine ⟨keepC (fun ad he hl => hk2 _ hl), .inl fun ad he => ?_⟩
      subst he
      have := hlt ad.block rfl
      exact ⟨by rw [hb]; intro h; injection h with h; omega, Nat.lt_of_lt_of_le this hg.size⟩
end
end Kd
end Go.Proofs.YtimikhbnihedkaaDoorW.PrintWords
namespace Go.Proofs.YtimikhbnihedkaaDoor.PAll
open Go.RowKit Go.Proofs.YtimikhbnihedkaaDoorW.PrintWords Go.Proofs.YtimikhbnihedkaaDoorW.PrintLast Go.Proofs.YtimikhbnihedkaaDoorW.PrintMore
attribute [local go_sem] max2_int min2_int max_two min_two max_three min_three max_four min_four
set_option linter.unusedVariables false
set_option linter.unusedSimpArgs false
def lang_leaf.l0 : Nat → List (S63) → Int → Int → Option ((List (S63)))
 | 0, _, _, _ => none
 | k + 1, x0, x2, x3 => if x2 < x3 then (if 0 ≤ x3 then (if x3 < (x0.length : Int) then (if 0 ≤ x2 then (if x2 < (x0.length : Int) then (lang_leaf.l0 k ((x0.set (x2 : Int).toNat (⟨(rd_T63 x0 x3).f0, (rd_T63 x0 x3).f1, (rd_T63 x0 x3).f2, (rd_T63 x0 x3).f3, (rd_T63 x0 x3).f4⟩ : S63)).set (x3 : Int).toNat (⟨(rd_T63 x0 x2).f0, (rd_T63 x0 x2).f1, (rd_T63 x0 x2).f2, (rd_T63 x0 x2).f3, (rd_T63 x0 x2).f4⟩ : S63)) (wrap64 (x2 + 1)) (wrap64 (x3 - 1))) else (none)) else (none)) else (none)) else (none)) else (some x0)
def lang_leaf.f (k : Nat) (l0 : List (S63)) : Option ((List (S63))) := lang_leaf.l0 k l0 0 (wrap64 ((l0.length : Int) - 1))
def lang_leaf.T3 : Bool × List (List Nat × List Nat) := (true, [([], []), ([], []), ([], []), ([], []), ([], []), ([], []), ([4, 5], [4, 5]), ([6], [6]), ([], []), ([], []), ([8, 9], [8, 9]), ([10], [10]), ([0, 1, 0, 1, 4, 5, 6, 7, 11], [0, 1]), ([12, 7, 0, 1, 4, 5, 6, 7, 11], [7, 12]), ([2, 3, 0, 1, 2, 3, 4, 5, 6, 7, 8, 9, 10, 11, 12, 13], [2, 3]), ([14, 11, 13, 0, 1, 2, 3, 4, 5, 6, 7, 8, 9, 10, 11, 12, 13], [11, 14])])
def lang_leaf.B3 : List Nat := [0, 0, 0, 0, 0, 0, 48, 112, 0, 0, 768, 1792, 4083, 8179, 16383, 32767]
theorem lang_leaf.tab3 : rtab .any (opsOf Tryd.f69 3) = lang_leaf.T3 := by kernel_rfl
theorem lang_leaf.bits3 : waitsOk lang_leaf.T3.2 lang_leaf.B3 = true := by kernel_rfl
set_option maxHeartbeats 8000000 in
set_option maxRecDepth 100000 in
theorem lang_leaf.calls (k : Nat) (P0_ : Nat → Prop) (u9000_ : Value) (l0 : List (S63)) (r : List (S63)) (w0 w : World) (hB : Below w0.heap.size w0 w) (ho0 : Kd.R k63 63 w w0.heap.size P0_ u9000_ l0) (h : lang_leaf.f k l0 = some r) :
  Calls Tryd.prog 69 #[u9000_] w fun e w' => e = .returned (.tuple #[]) ∧ Kd.R k63 63 w' w0.heap.size (fun k_ => (P0_ k_ ∨ w.heap.size ≤ k_)) u9000_ r ∧ Below w0.heap.size w0 w' ∧ Kept w w' (fun k_ => P0_ k_) := by
 have hu63 := Tryd.underlying63
 have HO0 := Aside0.mk (show Kd.R k63 63 w w0.heap.size (fun k_ => (P0_ k_ ∨ w.heap.size ≤ k_)) u9000_ l0 from Kd.R_mono ho0 (fun k_ hk => (.inl hk)))
 have HK := Aside0.mk (Kept.refl w (fun k_ => P0_ k_))
 have HW0 := Aside0.mk hB.size
 have HB := Aside0.mk hB
 clear hB
 have H : (lang_leaf.l0 k l0 0 (wrap64 ((l0.length : Int) - 1))) = some r := h
 clear h
 have H' := Aside0.mk H
 clear H
 obtain ⟨Ao2, co2, eo2⟩ := Kd.R_slice HO0.out
 subst eo2
 go_enter Tryd.func69, Tryd.ntmps69
 go_wp2
 go_loopg [2, 3] k (fun kq v2 v3 w' => ∃ (x0_1 : List (S63)) (x2_1 : Int) (x3_1 : Int), v2 = .int .i64 x2_1 ∧ v3 = .int .i64 x3_1 ∧ Aside0 (lang_leaf.l0 kq x0_1 x2_1 x3_1 = some r) ∧ Aside0 (kq ≤ k) ∧ Aside0 (Kd.R k63 63 w' w0.heap.size (fun k_ => (P0_ k_ ∨ w.heap.size ≤ k_)) (.slice Ao2 l0.length co2) x0_1) ∧ Aside0 (Kept w w' (fun k_ => P0_ k_)) ∧ Aside0 (Below w0.heap.size w0 w'))
 case atStart => exact ⟨(l0), (0), (wrap64 ((l0.length : Int) - 1)), (by first | rfl | (simp; done) | (simp [*]; done)), (by first | rfl | (simp; done) | (simp [*]; done)), H', ⟨Nat.le_refl _⟩, ⟨by exact HO0.out⟩, ⟨by repeat (first | (with_reducible first | exact HK.out | apply Kept.alloc | apply Kept.drewN | apply Kept.drew) | exact HK.out)⟩, ⟨HB.out⟩⟩
 case round =>
  clear H'
  try clear p2
  obtain ⟨x0_1, x2_1, x3_1, rfl, rfl, HA, HK1, HO_0, HK, HB⟩ := hrel
  have hl0_1 := (Kd.R_reads' HO_0.out).1
  rw [hl0_1] at HO_0
  (try simp only [hl0_1])
  cases gk with
  | zero => exact absurd HA.out (by simp [lang_leaf.l0])
  | succ k1 =>
   have H := HA.out
   clear HA
   simp only [lang_leaf.l0] at H
   by_cases c3 : x2_1 < x3_1
   rotate_left
   ·
    rw [if_neg c3] at H
    have c3b0 := decide_eq_false c3
    clear c3
    obtain rfl := Option.some.inj H
    go_wp2
    first | go_end0 | ((try simp only [Exit.inBlock, Exit.then]); refine bodyPost_ret (results_none rfl _ _ _) rfl ?_)
    exact ⟨by first | rfl | (simp [errW_none, errW_some] <;> rfl) | (simp [*, errW_none, errW_some] <;> rfl), (by first | exact HO_0.out | (simp only [hl0_1]; exact HO_0.out)), by repeat (first | (with_reducible first | exact HB.out | apply below_alloc | apply pw_below_drewN | apply below_drew1) | exact HB.out), by repeat (first | (with_reducible first | exact HK.out | apply Kept.alloc | apply Kept.drewN | apply Kept.drew) | exact HK.out)⟩
   rw [if_pos c3] at H
   have c3b0 := decide_eq_true c3
   clear c3
   obtain ⟨c4, H⟩ : (0 ≤ x3_1) ∧ _ := mIf H
   have c4b0 := decide_eq_true c4
   clear c4
   obtain ⟨c5, H⟩ : (x3_1 < (x0_1.length : Int)) ∧ _ := mIf H
   have c5b0 := decide_eq_true c5
   clear c5
   obtain ⟨c6, H⟩ : (0 ≤ x2_1) ∧ _ := mIf H
   have c6b0 := decide_eq_true c6
   clear c6
   obtain ⟨c7, H⟩ : (x2_1 < (x0_1.length : Int)) ∧ _ := mIf H
   have c7b0 := decide_eq_true c7
   clear c7
   obtain ⟨y267, hy267⟩ : ∃ y_ : List (S63), y_ = (x0_1.set (x2_1 : Int).toNat (⟨(rd_T63 x0_1 x3_1).f0, (rd_T63 x0_1 x3_1).f1, (rd_T63 x0_1 x3_1).f2, (rd_T63 x0_1 x3_1).f3, (rd_T63 x0_1 x3_1).f4⟩ : S63)) := ⟨_, rfl⟩
   rw [← hy267] at H
   have Ny267 := Aside0.mk hy267
   clear hy267
   obtain ⟨y268, hy268⟩ : ∃ y_ : List (S63), y_ = (y267.set (x3_1 : Int).toNat (⟨(rd_T63 x0_1 x2_1).f0, (rd_T63 x0_1 x2_1).f1, (rd_T63 x0_1 x2_1).f2, (rd_T63 x0_1 x2_1).f3, (rd_T63 x0_1 x2_1).f4⟩ : S63)) := ⟨_, rfl⟩
   rw [← hy268] at H
   have Ny268 := Aside0.mk hy268
   clear hy268
   have H' := Aside0.mk H
   clear H
   try go_wp2
   replace HO_0 := Aside0.mk (Kd.R_drew HO_0.out); replace HK := Aside0.mk (Kept.drew HK.out); replace HB := Aside0.mk (below_drew1 HB.out)
   have p265 : 0 ≤ (x3_1 : Int) := of_decide_eq_true (by first | (with_reducible assumption) | assumption)
   have q265 : x3_1 < (x0_1.length : Int) := of_decide_eq_true (by first | (with_reducible assumption) | assumption)
   obtain ⟨ad265, e265, hx265_0, hx265_1, hx265_2, hx265_3, hx265_4⟩ := at_T63 (Kd.R_reads' HO_0.out).2.2 x3_1 p265 q265
   cases e265
   replace p265 := eq_true p265
   replace q265 := eq_true q265
   have p266 : 0 ≤ (x2_1 : Int) := of_decide_eq_true (by first | (with_reducible assumption) | assumption)
   have q266 : x2_1 < (x0_1.length : Int) := of_decide_eq_true (by first | (with_reducible assumption) | assumption)
   obtain ⟨ad266, e266, hx266_0, hx266_1, hx266_2, hx266_3, hx266_4⟩ := at_T63 (Kd.R_reads' HO_0.out).2.2 x2_1 p266 q266
   obtain rfl : ad265 = ad266 := (by injection e266)
   replace p266 := eq_true p266
   replace q266 := eq_true q266
   have p8 : 0 ≤ (x2_1 : Int) := of_decide_eq_true (by first | (with_reducible assumption) | assumption)
   have q8 : (x2_1 : Int) < ((x0_1.length : Int) : Int) := of_decide_eq_true (by first | (with_reducible assumption) | assumption)
   obtain ⟨go8, co8, eo8, gb1, gl8, cl8, HG8⟩ := Kd.R_form HO_0.out (by omega)
   (first | cases eo8 | (injection eo8 with ea_ en_ ec_; (first | subst ea_ | (injection ea_ with ea_; subst ea_)); subst ec_; clear en_))
   have GB8 := Aside0.mk gb1
   have GG8 := Aside0.mk HG8
   clear gb1 gl8 HG8
   have HMgo8 := Aside0.mk (show (P0_ go8 ∨ w.heap.size ≤ go8) from (HO_0.out.1 _ rfl))
   (first | simp only [add_plain] at hx265_0 | skip)
   (first | simp only [add_plain] at hx265_1 | skip)
   (first | simp only [add_plain] at hx265_2 | skip)
   (first | simp only [add_plain] at hx265_3 | skip)
   (first | simp only [add_plain] at hx265_4 | skip)
   (first | simp only [add_plain] at hx266_0 | skip)
   (first | simp only [add_plain] at hx266_1 | skip)
   (first | simp only [add_plain] at hx266_2 | skip)
   (first | simp only [add_plain] at hx266_3 | skip)
   (first | simp only [add_plain] at hx266_4 | skip)
   obtain ⟨ce8, hcl8, hM8, hcc8, hfr8⟩ := Kd.R_elem HO_0.out z63 (x2_1 : Int) p8 q8
   obtain rfl := k63_openM hM8
   have hx8_0 : World.cell? _ ⟨go8, (x2_1 : Int).toNat * 5, none⟩ = some (.string ((rd_T63 x0_1 x2_1).f0)) := hcc8 0 _ rfl
   have hx8_1 : World.cell? _ ⟨go8, (x2_1 : Int).toNat * 5 + 1, none⟩ = some (.int .i64 ((rd_T63 x0_1 x2_1).f1)) := hcc8 1 _ rfl
   have hx8_2 : World.cell? _ ⟨go8, (x2_1 : Int).toNat * 5 + 2, none⟩ = some (.bool ((rd_T63 x0_1 x2_1).f2)) := hcc8 2 _ rfl
   have hx8_3 : World.cell? _ ⟨go8, (x2_1 : Int).toNat * 5 + 3, none⟩ = some (.bool ((rd_T63 x0_1 x2_1).f3)) := hcc8 3 _ rfl
   have hx8_4 : World.cell? _ ⟨go8, (x2_1 : Int).toNat * 5 + 4, none⟩ = some (.int .i64 ((rd_T63 x0_1 x2_1).f4)) := hcc8 4 _ rfl
   have hf8_0 : World.frozen? _ ⟨go8, (x2_1 : Int).toNat * 5, none⟩ = false := hfr8 0
   have hf8_1 : World.frozen? _ ⟨go8, (x2_1 : Int).toNat * 5 + 1, none⟩ = false := hfr8 1
   have hf8_2 : World.frozen? _ ⟨go8, (x2_1 : Int).toNat * 5 + 2, none⟩ = false := hfr8 2
   have hf8_3 : World.frozen? _ ⟨go8, (x2_1 : Int).toNat * 5 + 3, none⟩ = false := hfr8 3
   have hf8_4 : World.frozen? _ ⟨go8, (x2_1 : Int).toNat * 5 + 4, none⟩ = false := hfr8 4
   clear hcl8 hcc8 hfr8 hM8
   replace p8 := eq_true p8
   replace q8 := eq_true q8
   obtain ⟨ce11, hcl11, hM11, hcc11, hfr11⟩ := Kd.R_elem HO_0.out z63 (x2_1 : Int) (of_decide_eq_true (by first | (with_reducible assumption) | assumption)) (by have h_ : (x2_1 : Int) < ((x0_1.length : Int) : Int) := of_decide_eq_true (by first | (with_reducible assumption) | assumption); first | exact h_ | (have e_ := (Kd.R_reads' HO_0.out).1; omega) | simpa using h_)
   obtain rfl := k63_openM hM11
   have HP11 := (Kd.R_seg HO_0.out (x2_1 : Int) (of_decide_eq_true (by first | (with_reducible assumption) | assumption)) (by have h_ : (x2_1 : Int) < ((x0_1.length : Int) : Int) := of_decide_eq_true (by first | (with_reducible assumption) | assumption); first | exact h_ | (have e_ := (Kd.R_reads' HO_0.out).1; omega) | simpa using h_) (seg := [.string ((rd_T63 x0_1 x3_1).f0), .int .i64 ((rd_T63 x0_1 x3_1).f1), .bool ((rd_T63 x0_1 x3_1).f2), .bool ((rd_T63 x0_1 x3_1).f3), .int .i64 ((rd_T63 x0_1 x3_1).f4)]) (j := 0) hcl11 hcc11 (show 5 ≤ 5 from by decide) (x' := (⟨(rd_T63 x0_1 x3_1).f0, (rd_T63 x0_1 x3_1).f1, (rd_T63 x0_1 x3_1).f2, (rd_T63 x0_1 x3_1).f3, (rd_T63 x0_1 x3_1).f4⟩ : S63)) (k63_mkM _ _ _ (⟨(rd_T63 x0_1 x3_1).f0, (rd_T63 x0_1 x3_1).f1, (rd_T63 x0_1 x3_1).f2, (rd_T63 x0_1 x3_1).f3, (rd_T63 x0_1 x3_1).f4⟩ : S63) ) (fun _ hk => hk)).1
   rw [← Ny267.out] at HP11
   have HQ11 := Aside0.mk HP11
   clear hcl11 hcc11 hfr11 hM11 HP11
   have p9 : 0 ≤ (x3_1 : Int) := of_decide_eq_true (by first | (with_reducible assumption) | assumption)
   have q9 : (x3_1 : Int) < ((x0_1.length : Int) : Int) := of_decide_eq_true (by first | (with_reducible assumption) | assumption)
   obtain ⟨ce9, hcl9, hM9, hcc9, hfr9⟩ := Kd.R_elem HQ11.out z63 (x3_1 : Int) p9 q9
   obtain rfl := k63_openM hM9
   have hx9_0 : World.cell? _ ⟨go8, (x3_1 : Int).toNat * 5, none⟩ = some (.string ((rd_T63 y267 x3_1).f0)) := hcc9 0 _ rfl
   have hx9_1 : World.cell? _ ⟨go8, (x3_1 : Int).toNat * 5 + 1, none⟩ = some (.int .i64 ((rd_T63 y267 x3_1).f1)) := hcc9 1 _ rfl
   have hx9_2 : World.cell? _ ⟨go8, (x3_1 : Int).toNat * 5 + 2, none⟩ = some (.bool ((rd_T63 y267 x3_1).f2)) := hcc9 2 _ rfl
   have hx9_3 : World.cell? _ ⟨go8, (x3_1 : Int).toNat * 5 + 3, none⟩ = some (.bool ((rd_T63 y267 x3_1).f3)) := hcc9 3 _ rfl
   have hx9_4 : World.cell? _ ⟨go8, (x3_1 : Int).toNat * 5 + 4, none⟩ = some (.int .i64 ((rd_T63 y267 x3_1).f4)) := hcc9 4 _ rfl
   have hf9_0 : World.frozen? _ ⟨go8, (x3_1 : Int).toNat * 5, none⟩ = false := hfr9 0
   have hf9_1 : World.frozen? _ ⟨go8, (x3_1 : Int).toNat * 5 + 1, none⟩ = false := hfr9 1
   have hf9_2 : World.frozen? _ ⟨go8, (x3_1 : Int).toNat * 5 + 2, none⟩ = false := hfr9 2
   have hf9_3 : World.frozen? _ ⟨go8, (x3_1 : Int).toNat * 5 + 3, none⟩ = false := hfr9 3
   have hf9_4 : World.frozen? _ ⟨go8, (x3_1 : Int).toNat * 5 + 4, none⟩ = false := hfr9 4
   clear hcl9 hcc9 hfr9 hM9
   replace p9 := eq_true p9
   replace q9 := eq_true q9
   obtain ⟨ce12, hcl12, hM12, hcc12, hfr12⟩ := Kd.R_elem HQ11.out z63 (x3_1 : Int) (of_decide_eq_true (by first | (with_reducible assumption) | assumption)) (by have h_ : (x3_1 : Int) < ((x0_1.length : Int) : Int) := of_decide_eq_true (by first | (with_reducible assumption) | assumption); first | exact h_ | (have e_ := (Kd.R_reads' HO_0.out).1; omega) | simpa using h_)
   obtain rfl := k63_openM hM12
   have HP12 := (Kd.R_seg HQ11.out (x3_1 : Int) (of_decide_eq_true (by first | (with_reducible assumption) | assumption)) (by have h_ : (x3_1 : Int) < ((x0_1.length : Int) : Int) := of_decide_eq_true (by first | (with_reducible assumption) | assumption); first | exact h_ | (have e_ := (Kd.R_reads' HO_0.out).1; omega) | simpa using h_) (seg := [.string ((rd_T63 x0_1 x2_1).f0), .int .i64 ((rd_T63 x0_1 x2_1).f1), .bool ((rd_T63 x0_1 x2_1).f2), .bool ((rd_T63 x0_1 x2_1).f3), .int .i64 ((rd_T63 x0_1 x2_1).f4)]) (j := 0) hcl12 hcc12 (show 5 ≤ 5 from by decide) (x' := (⟨(rd_T63 x0_1 x2_1).f0, (rd_T63 x0_1 x2_1).f1, (rd_T63 x0_1 x2_1).f2, (rd_T63 x0_1 x2_1).f3, (rd_T63 x0_1 x2_1).f4⟩ : S63)) (k63_mkM _ _ _ (⟨(rd_T63 x0_1 x2_1).f0, (rd_T63 x0_1 x2_1).f1, (rd_T63 x0_1 x2_1).f2, (rd_T63 x0_1 x2_1).f3, (rd_T63 x0_1 x2_1).f4⟩ : S63) ) (fun _ hk => hk)).1
   rw [← Ny268.out] at HP12
   have HQ12 := Aside0.mk HP12
   clear hcl12 hcc12 hfr12 hM12 HP12
   refine start_ (n := 16) (S := fun w' => w'.cell? ⟨go8, ((x3_1).toNat * 5), none⟩ = some (.string ((rd_T63 x0_1 x3_1).f0)) ∧ w'.cell? ⟨go8, ((x3_1).toNat * 5) + 1, none⟩ = some (.int .i64 ((rd_T63 x0_1 x3_1).f1)) ∧ w'.cell? ⟨go8, ((x3_1).toNat * 5) + 2, none⟩ = some (.bool ((rd_T63 x0_1 x3_1).f2)) ∧ w'.cell? ⟨go8, ((x3_1).toNat * 5) + 3, none⟩ = some (.bool ((rd_T63 x0_1 x3_1).f3)) ∧ w'.cell? ⟨go8, ((x3_1).toNat * 5) + 4, none⟩ = some (.int .i64 ((rd_T63 x0_1 x3_1).f4)) ∧ w'.cell? ⟨go8, ((x2_1).toNat * 5), none⟩ = some (.string ((rd_T63 x0_1 x2_1).f0)) ∧ w'.cell? ⟨go8, ((x2_1).toNat * 5) + 1, none⟩ = some (.int .i64 ((rd_T63 x0_1 x2_1).f1)) ∧ w'.cell? ⟨go8, ((x2_1).toNat * 5) + 2, none⟩ = some (.bool ((rd_T63 x0_1 x2_1).f2)) ∧ w'.cell? ⟨go8, ((x2_1).toNat * 5) + 3, none⟩ = some (.bool ((rd_T63 x0_1 x2_1).f3)) ∧ w'.cell? ⟨go8, ((x2_1).toNat * 5) + 4, none⟩ = some (.int .i64 ((rd_T63 x0_1 x2_1).f4))) (ds := [13, 15]) #[false, false, false, false, false, false, false, false, false, false, false, false, false, false, false, false] (by kernel_rfl) rfl rfl ⟨hx265_0, hx265_1, hx265_2, hx265_3, hx265_4, hx266_0, hx266_1, hx266_2, hx266_3, hx266_4⟩ (fun hHeld => ?_); refine with_tabW lang_leaf.tab3 lang_leaf.bits3 (fun HT_ HW_ => ?_)
   generalize wr.drew = w10 at HO_0 HK HB GG8 HQ11 HQ12 hf8_0 hf8_1 hf8_2 hf8_3 hf8_4 hf9_0 hf9_1 hf9_2 hf9_3 hf9_4 hx265_0 hx265_1 hx265_2 hx265_3 hx265_4 hx266_0 hx266_1 hx266_2 hx266_3 hx266_4 hx8_0 hx8_1 hx8_2 hx8_3 hx8_4 hx9_0 hx9_1 hx9_2 hx9_3 hx9_4 hHeld ⊢
   refine pure_ (i := 0) (N := some 14) (v := ?_) (a' := ?_) #[true, false, false, false, false, false, false, false, false, false, false, false, false, false, false, false] rfl rfl (any_of HT_.out (by kernel_rfl)) (fun _ _ _ h => h) (Or.inl ⟨by rfl, ?_⟩) ?_ ?_
   rotate_left
   ·
    intro w'
    go_simp
    with_reducible rfl
   rotate_left
   ·
    simp only [Act.put, List.setIfInBounds_toArray, List.set_cons_zero, List.set_cons_succ, i64_w, i32_w]
    rfl
   refine pure_ (i := 1) (N := some 15) (v := ?_) (a' := ?_) #[true, true, false, false, false, false, false, false, false, false, false, false, false, false, false, false] rfl rfl (any_of HT_.out (by kernel_rfl)) (fun _ _ _ h => h) (Or.inl ⟨by rfl, ?_⟩) ?_ ?_
   rotate_left
   ·
    intro w'
    go_simp
    with_reducible rfl
   rotate_left
   ·
    simp only [Act.put, List.setIfInBounds_toArray, List.set_cons_zero, List.set_cons_succ, i64_w, i32_w]
    rfl
   refine pure_ (i := 2) (N := some 16) (v := ?_) (a' := ?_) #[true, true, true, false, false, false, false, false, false, false, false, false, false, false, false, false] rfl rfl (any_of HT_.out (by kernel_rfl)) (fun _ _ _ h => h) (Or.inl ⟨by rfl, ?_⟩) ?_ ?_
   rotate_left
   ·
    intro w'
    go_simp
    with_reducible rfl
   rotate_left
   ·
    simp only [Act.put, List.setIfInBounds_toArray, List.set_cons_zero, List.set_cons_succ, i64_w, i32_w]
    rfl
   refine pure_ (i := 3) (N := some 17) (v := ?_) (a' := ?_) #[true, true, true, true, false, false, false, false, false, false, false, false, false, false, false, false] rfl rfl (any_of HT_.out (by kernel_rfl)) (fun _ _ _ h => h) (Or.inl ⟨by rfl, ?_⟩) ?_ ?_
   rotate_left
   ·
    intro w'
    go_simp
    with_reducible rfl
   rotate_left
   ·
    simp only [Act.put, List.setIfInBounds_toArray, List.set_cons_zero, List.set_cons_succ, i64_w, i32_w]
    rfl
   refine pure_ (i := 4) (N := some 18) (v := ?_) (a' := ?_) #[true, true, true, true, true, false, false, false, false, false, false, false, false, false, false, false] rfl rfl (any_of HT_.out (by kernel_rfl)) (fun _ _ _ h => h) (Or.inl ⟨by rfl, ?_⟩) ?_ ?_
   rotate_left
   ·
    intro w'
    go_simp
    with_reducible rfl
   rotate_left
   ·
    simp only [Act.put, List.setIfInBounds_toArray, List.set_cons_zero, List.set_cons_succ, i64_w, i32_w]
    rfl
   refine pure_ (i := 5) (N := some 19) (v := ?_) (a' := ?_) #[true, true, true, true, true, true, false, false, false, false, false, false, false, false, false, false] rfl rfl (any_of HT_.out (by kernel_rfl)) (fun _ _ _ h => h) (Or.inl ⟨by rfl, ?_⟩) ?_ ?_
   rotate_left
   ·
    intro w'
    go_simp
    with_reducible rfl
   rotate_left
   ·
    simp only [Act.put, List.setIfInBounds_toArray, List.set_cons_zero, List.set_cons_succ, i64_w, i32_w]
    rfl
   refine pure_ (i := 6) (N := some 20) (v := ?_) (a' := ?_) #[true, true, true, true, true, true, true, false, false, false, false, false, false, false, false, false] rfl rfl (any_of HT_.out (by kernel_rfl)) (fun _ _ _ h => h) (Or.inl ⟨by rfl, ?_⟩) ?_ ?_
   rotate_left
   ·
    intro w'
    go_simp
    with_reducible rfl
   rotate_left
   ·
    simp only [Act.put, List.setIfInBounds_toArray, List.set_cons_zero, List.set_cons_succ, i64_w, i32_w]
    rfl
   refine pure_ (i := 8) (N := some 22) (v := ?_) (a' := ?_) #[true, true, true, true, true, true, true, false, true, false, false, false, false, false, false, false] rfl rfl (any_of HT_.out (by kernel_rfl)) (fun _ _ _ h => h) (Or.inl ⟨by rfl, ?_⟩) ?_ ?_
   rotate_left
   ·
    intro w'
    go_simp
    with_reducible rfl
   rotate_left
   ·
    simp only [Act.put, List.setIfInBounds_toArray, List.set_cons_zero, List.set_cons_succ, i64_w, i32_w]
    rfl
   refine pure_ (i := 9) (N := some 23) (v := ?_) (a' := ?_) #[true, true, true, true, true, true, true, false, true, true, false, false, false, false, false, false] rfl rfl (any_of HT_.out (by kernel_rfl)) (fun _ _ _ h => h) (Or.inl ⟨by rfl, ?_⟩) ?_ ?_
   rotate_left
   ·
    intro w'
    go_simp
    with_reducible rfl
   rotate_left
   ·
    simp only [Act.put, List.setIfInBounds_toArray, List.set_cons_zero, List.set_cons_succ, i64_w, i32_w]
    rfl
   refine pure_ (i := 10) (N := some 24) (v := ?_) (a' := ?_) #[true, true, true, true, true, true, true, false, true, true, true, false, false, false, false, false] rfl rfl (any_of HT_.out (by kernel_rfl)) (fun _ _ _ h => h) (Or.inl ⟨by rfl, ?_⟩) ?_ ?_
   rotate_left
   ·
    intro w'
    go_simp
    with_reducible rfl
   rotate_left
   ·
    simp only [Act.put, List.setIfInBounds_toArray, List.set_cons_zero, List.set_cons_succ, i64_w, i32_w]
    rfl
   refine take_ (i := 7) (N := some 21) (v := ?_) (a' := ?_) #[true, true, true, true, true, true, true, true, true, true, true, false, false, false, false, false] rfl rfl (take_ofW HT_.out HW_.out (by kernel_rfl)) (fun _ _ _ h => h) (Or.inl ⟨by rfl, ?_⟩) hHeld ?_ ?_
   rotate_left
   ·
    rintro w' ⟨s0, s1, s2, s3, s4, s5, s6, s7, s8, s9⟩
    go_simp
    with_reducible rfl
   rotate_left
   ·
    simp only [Act.put, List.setIfInBounds_toArray, List.set_cons_zero, List.set_cons_succ, i64_w, i32_w]
    rfl
   refine take_ (i := 11) (N := some 25) (v := ?_) (a' := ?_) #[true, true, true, true, true, true, true, true, true, true, true, true, false, false, false, false] rfl rfl (take_ofW HT_.out HW_.out (by kernel_rfl)) (fun _ _ _ h => h) (Or.inl ⟨by rfl, ?_⟩) hHeld ?_ ?_
   rotate_left
   ·
    rintro w' ⟨s0, s1, s2, s3, s4, s5, s6, s7, s8, s9⟩
    go_simp
    with_reducible rfl
   rotate_left
   ·
    simp only [Act.put, List.setIfInBounds_toArray, List.set_cons_zero, List.set_cons_succ, i64_w, i32_w]
    rfl
   refine pure_ (i := 12) (N := some 26) (v := ?_) (a' := ?_) #[true, true, true, true, true, true, true, true, true, true, true, true, true, false, false, false] rfl rfl (any_of HT_.out (by kernel_rfl)) (fun _ _ _ h => h) (Or.inl ⟨by rfl, ?_⟩) ?_ ?_
   rotate_left
   ·
    intro w'
    go_simp
    with_reducible rfl
   rotate_left
   ·
    simp only [Act.put, List.setIfInBounds_toArray, List.set_cons_zero, List.set_cons_succ, i64_w, i32_w]
    rfl
   refine last_ (i := 13) (N := none) #[true, true, true, true, true, true, true, true, true, true, true, true, true, true, false, false] rfl rfl (one_of HT_.out (by kernel_rfl)) (by decide) (fun K hK => ?_)
   refine skip_ (w1 := ?_) (by rfl) rfl ?_ ?_
   rotate_left
   ·
    go_simp
    rfl
   refine hK.out _ _ ?_
   clear hK K
   have e9_0 := (show ((((((w10.setCell ⟨go8, x2_1.toNat * 5, none⟩ (.string (rd_T63 x0_1 x3_1).f0)).setCell ⟨go8, x2_1.toNat * 5 + 1, none⟩ (.int .i64 (rd_T63 x0_1 x3_1).f1)).setCell ⟨go8, x2_1.toNat * 5 + 2, none⟩ (.bool (rd_T63 x0_1 x3_1).f2)).setCell ⟨go8, x2_1.toNat * 5 + 3, none⟩ (.bool (rd_T63 x0_1 x3_1).f3)).setCell ⟨go8, x2_1.toNat * 5 + 4, none⟩ (.int .i64 (rd_T63 x0_1 x3_1).f4))).cell? ⟨go8, x3_1.toNat * 5, none⟩ = _ from hx9_0)
   have f9_0 := (show ((((((w10.setCell ⟨go8, x2_1.toNat * 5, none⟩ (.string (rd_T63 x0_1 x3_1).f0)).setCell ⟨go8, x2_1.toNat * 5 + 1, none⟩ (.int .i64 (rd_T63 x0_1 x3_1).f1)).setCell ⟨go8, x2_1.toNat * 5 + 2, none⟩ (.bool (rd_T63 x0_1 x3_1).f2)).setCell ⟨go8, x2_1.toNat * 5 + 3, none⟩ (.bool (rd_T63 x0_1 x3_1).f3)).setCell ⟨go8, x2_1.toNat * 5 + 4, none⟩ (.int .i64 (rd_T63 x0_1 x3_1).f4))).frozen? ⟨go8, x3_1.toNat * 5, none⟩ = false from hf9_0)
   have e9_1 := (show ((((((w10.setCell ⟨go8, x2_1.toNat * 5, none⟩ (.string (rd_T63 x0_1 x3_1).f0)).setCell ⟨go8, x2_1.toNat * 5 + 1, none⟩ (.int .i64 (rd_T63 x0_1 x3_1).f1)).setCell ⟨go8, x2_1.toNat * 5 + 2, none⟩ (.bool (rd_T63 x0_1 x3_1).f2)).setCell ⟨go8, x2_1.toNat * 5 + 3, none⟩ (.bool (rd_T63 x0_1 x3_1).f3)).setCell ⟨go8, x2_1.toNat * 5 + 4, none⟩ (.int .i64 (rd_T63 x0_1 x3_1).f4))).cell? ⟨go8, x3_1.toNat * 5 + 1, none⟩ = _ from hx9_1)
   have f9_1 := (show ((((((w10.setCell ⟨go8, x2_1.toNat * 5, none⟩ (.string (rd_T63 x0_1 x3_1).f0)).setCell ⟨go8, x2_1.toNat * 5 + 1, none⟩ (.int .i64 (rd_T63 x0_1 x3_1).f1)).setCell ⟨go8, x2_1.toNat * 5 + 2, none⟩ (.bool (rd_T63 x0_1 x3_1).f2)).setCell ⟨go8, x2_1.toNat * 5 + 3, none⟩ (.bool (rd_T63 x0_1 x3_1).f3)).setCell ⟨go8, x2_1.toNat * 5 + 4, none⟩ (.int .i64 (rd_T63 x0_1 x3_1).f4))).frozen? ⟨go8, x3_1.toNat * 5 + 1, none⟩ = false from hf9_1)
   have e9_2 := (show ((((((w10.setCell ⟨go8, x2_1.toNat * 5, none⟩ (.string (rd_T63 x0_1 x3_1).f0)).setCell ⟨go8, x2_1.toNat * 5 + 1, none⟩ (.int .i64 (rd_T63 x0_1 x3_1).f1)).setCell ⟨go8, x2_1.toNat * 5 + 2, none⟩ (.bool (rd_T63 x0_1 x3_1).f2)).setCell ⟨go8, x2_1.toNat * 5 + 3, none⟩ (.bool (rd_T63 x0_1 x3_1).f3)).setCell ⟨go8, x2_1.toNat * 5 + 4, none⟩ (.int .i64 (rd_T63 x0_1 x3_1).f4))).cell? ⟨go8, x3_1.toNat * 5 + 2, none⟩ = _ from hx9_2)
   have f9_2 := (show ((((((w10.setCell ⟨go8, x2_1.toNat * 5, none⟩ (.string (rd_T63 x0_1 x3_1).f0)).setCell ⟨go8, x2_1.toNat * 5 + 1, none⟩ (.int .i64 (rd_T63 x0_1 x3_1).f1)).setCell ⟨go8, x2_1.toNat * 5 + 2, none⟩ (.bool (rd_T63 x0_1 x3_1).f2)).setCell ⟨go8, x2_1.toNat * 5 + 3, none⟩ (.bool (rd_T63 x0_1 x3_1).f3)).setCell ⟨go8, x2_1.toNat * 5 + 4, none⟩ (.int .i64 (rd_T63 x0_1 x3_1).f4))).frozen? ⟨go8, x3_1.toNat * 5 + 2, none⟩ = false from hf9_2)
   have e9_3 := (show ((((((w10.setCell ⟨go8, x2_1.toNat * 5, none⟩ (.string (rd_T63 x0_1 x3_1).f0)).setCell ⟨go8, x2_1.toNat * 5 + 1, none⟩ (.int .i64 (rd_T63 x0_1 x3_1).f1)).setCell ⟨go8, x2_1.toNat * 5 + 2, none⟩ (.bool (rd_T63 x0_1 x3_1).f2)).setCell ⟨go8, x2_1.toNat * 5 + 3, none⟩ (.bool (rd_T63 x0_1 x3_1).f3)).setCell ⟨go8, x2_1.toNat * 5 + 4, none⟩ (.int .i64 (rd_T63 x0_1 x3_1).f4))).cell? ⟨go8, x3_1.toNat * 5 + 3, none⟩ = _ from hx9_3)
   have f9_3 := (show ((((((w10.setCell ⟨go8, x2_1.toNat * 5, none⟩ (.string (rd_T63 x0_1 x3_1).f0)).setCell ⟨go8, x2_1.toNat * 5 + 1, none⟩ (.int .i64 (rd_T63 x0_1 x3_1).f1)).setCell ⟨go8, x2_1.toNat * 5 + 2, none⟩ (.bool (rd_T63 x0_1 x3_1).f2)).setCell ⟨go8, x2_1.toNat * 5 + 3, none⟩ (.bool (rd_T63 x0_1 x3_1).f3)).setCell ⟨go8, x2_1.toNat * 5 + 4, none⟩ (.int .i64 (rd_T63 x0_1 x3_1).f4))).frozen? ⟨go8, x3_1.toNat * 5 + 3, none⟩ = false from hf9_3)
   have e9_4 := (show ((((((w10.setCell ⟨go8, x2_1.toNat * 5, none⟩ (.string (rd_T63 x0_1 x3_1).f0)).setCell ⟨go8, x2_1.toNat * 5 + 1, none⟩ (.int .i64 (rd_T63 x0_1 x3_1).f1)).setCell ⟨go8, x2_1.toNat * 5 + 2, none⟩ (.bool (rd_T63 x0_1 x3_1).f2)).setCell ⟨go8, x2_1.toNat * 5 + 3, none⟩ (.bool (rd_T63 x0_1 x3_1).f3)).setCell ⟨go8, x2_1.toNat * 5 + 4, none⟩ (.int .i64 (rd_T63 x0_1 x3_1).f4))).cell? ⟨go8, x3_1.toNat * 5 + 4, none⟩ = _ from hx9_4)
   have f9_4 := (show ((((((w10.setCell ⟨go8, x2_1.toNat * 5, none⟩ (.string (rd_T63 x0_1 x3_1).f0)).setCell ⟨go8, x2_1.toNat * 5 + 1, none⟩ (.int .i64 (rd_T63 x0_1 x3_1).f1)).setCell ⟨go8, x2_1.toNat * 5 + 2, none⟩ (.bool (rd_T63 x0_1 x3_1).f2)).setCell ⟨go8, x2_1.toNat * 5 + 3, none⟩ (.bool (rd_T63 x0_1 x3_1).f3)).setCell ⟨go8, x2_1.toNat * 5 + 4, none⟩ (.int .i64 (rd_T63 x0_1 x3_1).f4))).frozen? ⟨go8, x3_1.toNat * 5 + 4, none⟩ = false from hf9_4)
   clear hx9_0 hx9_1 hx9_2 hx9_3 hx9_4 hf9_0 hf9_1 hf9_2 hf9_3 hf9_4
   generalize hW1_ : (((((w10.setCell ⟨go8, x2_1.toNat * 5, none⟩ (.string (rd_T63 x0_1 x3_1).f0)).setCell ⟨go8, x2_1.toNat * 5 + 1, none⟩ (.int .i64 (rd_T63 x0_1 x3_1).f1)).setCell ⟨go8, x2_1.toNat * 5 + 2, none⟩ (.bool (rd_T63 x0_1 x3_1).f2)).setCell ⟨go8, x2_1.toNat * 5 + 3, none⟩ (.bool (rd_T63 x0_1 x3_1).f3)).setCell ⟨go8, x2_1.toNat * 5 + 4, none⟩ (.int .i64 (rd_T63 x0_1 x3_1).f4)) = w11 at e9_0 e9_1 e9_2 e9_3 e9_4 f9_0 f9_1 f9_2 f9_3 f9_4 ⊢
   replace hW1_ := Aside0.mk hW1_
   refine pure_ (i := 14) (N := some 27) (v := ?_) (a' := ?_) #[true, true, true, true, true, true, true, true, true, true, true, true, true, true, true, false] rfl rfl (any_of HT_.out (by kernel_rfl)) (fun _ _ _ h => h) (Or.inl ⟨by rfl, ?_⟩) ?_ ?_
   rotate_left
   ·
    intro w'
    go_simp
    with_reducible rfl
   rotate_left
   ·
    simp only [Act.put, List.setIfInBounds_toArray, List.set_cons_zero, List.set_cons_succ, i64_w, i32_w]
    rfl
   refine last_ (i := 15) (N := none) #[true, true, true, true, true, true, true, true, true, true, true, true, true, true, true, true] rfl rfl (one_of HT_.out (by kernel_rfl)) (by decide) (fun K hK => ?_)
   refine skip_ (w1 := ?_) (by rfl) rfl ?_ ?_
   rotate_left
   ·
    go_simp
    rfl
   refine hK.out _ _ ?_
   clear hK K
   refine done_ (done_of HT_.out (by kernel_rfl)) ?_
   replace hW1_ := hW1_.out
   subst hW1_
   try go_wp2
   (try simp only [← hl0_1])
   go_roundg k1
   case measure => have := HK1.out; omega
   case rel => exact ⟨(y268), (wrap64 (x2_1 + 1)), (wrap64 (x3_1 - 1)), (by first | rfl | (simp; done) | (simp [*]; done)), (by first | rfl | (simp; done) | (simp [*]; done)), H', ⟨by have := HK1.out; omega⟩, ⟨by (try simp only [hl0_1]); exact HQ12.out⟩, ⟨by repeat (first | (with_reducible first | exact HK.out | apply Kept.alloc | apply Kept.drewN | apply Kept.drew | refine Kept.setCell ?_ HMgo8.out _ | refine Kept.setCell ?_ HMgo8.out _ | refine Kept.setCell ?_ HMgo8.out _ | refine Kept.setCell ?_ HMgo8.out _ | refine Kept.setCell ?_ HMgo8.out _ | refine Kept.setCell ?_ HMgo8.out _ | refine Kept.setCell ?_ HMgo8.out _ | refine Kept.setCell ?_ HMgo8.out _ | refine Kept.setCell ?_ HMgo8.out _ | refine Kept.setCell ?_ HMgo8.out _) | exact HK.out)⟩, ⟨by repeat (first | (with_reducible first | exact HB.out | apply below_alloc | apply pw_below_drewN | apply below_drew1 | refine below_set ?_ GB8.out | refine below_set ?_ GB8.out | refine below_set ?_ GB8.out | refine below_set ?_ GB8.out | refine below_set ?_ GB8.out | refine below_set ?_ GB8.out | refine below_set ?_ GB8.out | refine below_set ?_ GB8.out | refine below_set ?_ GB8.out | refine below_set ?_ GB8.out) | exact HB.out)⟩⟩
def lang_leaf_under.f (a0_0 : ByteArray) (a0_1 : Int) (a0_2 : Bool) (a0_3 : Bool) (a0_4 : Int) (a1_0 : Int) (a1_1 : ByteArray) (a1_2 : Int) (a1_3 : Int) : Option (ByteArray × Int × Bool × Bool × Int) := if a1_0 = 3 then (some (a0_0, Int.tmod (wrap64 (4 - a0_1)) 4, !a0_2, a0_3, a0_4)) else (if a1_0 = 4 then (some (a0_0, a0_1, a0_2, !a0_3, a0_4)) else (if a1_0 = 5 then (some (a0_0, Int.tmod (wrap64 (a0_1 + a1_2)) 4, a0_2, a0_3, a0_4)) else (if a1_0 = 6 then (some (a0_0, a0_1, a0_2, a0_3, wrap64 (a0_4 * a1_2))) else (some (a0_0, a0_1, a0_2, a0_3, a0_4)))))
set_option maxHeartbeats 8000000 in
set_option maxRecDepth 100000 in
theorem lang_leaf_under.calls (a0_0 : ByteArray) (a0_1 : Int) (a0_2 : Bool) (a0_3 : Bool) (a0_4 : Int) (a1_0 : Int) (a1_1 : ByteArray) (a1_2 : Int) (a1_3 : Int) (r1 : ByteArray) (r2 : Int) (r3 : Bool) (r4 : Bool) (r5 : Int) (w : World) (h : lang_leaf_under.f a0_0 a0_1 a0_2 a0_3 a0_4 a1_0 a1_1 a1_2 a1_3 = some (r1, r2, r3, r4, r5)) :
  Calls Tryd.prog 70 #[.agg #[.string a0_0, .int .i64 a0_1, .bool a0_2, .bool a0_3, .int .i64 a0_4], .agg #[.int .i64 a1_0, .string a1_1, .int .i64 a1_2, .int .i64 a1_3]] w fun e w' => e = .returned (.agg #[.string r1, .int .i64 r2, .bool r3, .bool r4, .int .i64 r5]) ∧ Below w.heap.size w w' := by
 have hu63 := Tryd.underlying63
 have hu43 := Tryd.underlying43
 have HB := Aside0.mk (Below.refl w.heap.size w)
 have H := h
 unfold lang_leaf_under.f at H
 clear h
 by_cases c3 : a1_0 = 3
 ·
  rw [if_pos c3] at H
  have c3b0 := beq_iff_eq.mpr c3
  have c3b1 := bne_eq_false_iff_eq.mpr c3
  clear c3
  simp only [Option.some.injEq, Prod.mk.injEq] at H
  obtain ⟨rfl, rfl, rfl, rfl, rfl⟩ := H
  go_enter Tryd.func70, Tryd.ntmps70
  go_wp2_with (first | ((with_reducible refine gate_dst (N := 2) rfl ?_); refine box_event rfl (N := 2) rfl (cs := #[.string a0_0, .int .i64 a0_1, .bool a0_2, .bool a0_3, .int .i64 a0_4]) (t := 63) (by first | (go_simp; done) | (go_simp; rfl)) ?_; intro gb1 hg w4 hbox hb; have BK1 := Aside0.mk hbox; have GW1 := mGw HB hg; have GE1 := GW1; replace HB := mSt HB hb; clear hb hbox hg) | ((with_reducible refine gate_dst (N := 3) rfl ?_); refine box_event rfl (N := 3) rfl (cs := #[.int .i64 a1_0, .string a1_1, .int .i64 a1_2, .int .i64 a1_3]) (t := 43) (by first | (go_simp; done) | (go_simp; rfl)) ?_; intro gb2 hg w5 hbox hb; have BK2 := Aside0.mk hbox; have GW2 := mGw HB hg; have GE2 := GW2; replace HB := mSt HB hb; have NB1_2 := mNe BK1 hg; have NB2_1 := mSy NB1_2; replace BK1 := mBb BK1 hb; clear hb hbox hg) | ((with_reducible refine gate_dst (N := 4) rfl ?_); refine box_event rfl (N := 4) rfl (cs := #[.string (⟨#[]⟩ : ByteArray), .int .i64 0, .bool false, .bool false, .int .i64 0]) (t := 63) (by first | (go_simp; done) | (go_simp; rfl)) ?_; intro gb3 hg w6 hbox hb; have BK3 := Aside0.mk hbox; have GW3 := mGw HB hg; have GE3 := GW3; replace HB := mSt HB hb; have NB1_3 := mNe BK1 hg; have NB3_1 := mSy NB1_3; replace BK1 := mBb BK1 hb; have NB2_3 := mNe BK2 hg; have NB3_2 := mSy NB2_3; replace BK2 := mBb BK2 hb; clear hb hbox hg; have hnb7 := NB2_1.out; have hnc7 := NB1_2.out; have hnb8 := NB2_3.out; have hnc8 := NB3_2.out; have hcz9 := blk_cell BK2.out; have hfz9 := blk_frozen BK2.out; have hnb10 := NB1_3.out; have hnc10 := NB3_1.out; have hcz11 := blk_cell BK1.out; have hfz11 := blk_frozen BK1.out; have hcz12 := blk_cell BK3.out; have hfz12 := blk_frozen BK3.out))
  refine bodyPost_ret (results_cell_row rfl _ _ gb3 63 #[.string a0_0, .int .i64 (Int.tmod (wrap64 (4 - a0_1)) 4), .bool (!a0_2), .bool a0_3, .int .i64 a0_4] (0, 0) _ rfl (by refine blk_put (cs := #[.string a0_0, .int .i64 (Int.tmod (wrap64 (4 - a0_1)) 4), .bool (!a0_2), .bool a0_3, .int .i64 0]) ?_ 4 _ rfl; refine blk_put (cs := #[.string a0_0, .int .i64 (Int.tmod (wrap64 (4 - a0_1)) 4), .bool (!a0_2), .bool false, .int .i64 0]) ?_ 3 _ rfl; refine blk_put (cs := #[.string a0_0, .int .i64 (Int.tmod (wrap64 (4 - a0_1)) 4), .bool false, .bool false, .int .i64 0]) ?_ 2 _ rfl; refine blk_put (cs := #[.string a0_0, .int .i64 0, .bool false, .bool false, .int .i64 0]) ?_ 1 _ rfl; refine blk_put (cs := #[.string (⟨#[]⟩ : ByteArray), .int .i64 0, .bool false, .bool false, .int .i64 0]) ?_ 0 _ rfl; refine blk_far ?_ NB3_1.out _; refine blk_far ?_ NB3_1.out _; exact BK3.out) Tryd.underlying63 rfl (by kernel_rfl)) rfl ?_
  exact ⟨rfl, hO HB⟩
 rw [if_neg c3] at H
 have c3b0 := beq_eq_false_iff_ne.mpr c3
 have c3b1 := bne_iff_ne.mpr c3
 by_cases c13 : a1_0 = 4
 ·
  rw [if_pos c13] at H
  have c13b0 := beq_iff_eq.mpr c13
  have c13b1 := bne_eq_false_iff_eq.mpr c13
  clear c13
  simp only [Option.some.injEq, Prod.mk.injEq] at H
  obtain ⟨rfl, rfl, rfl, rfl, rfl⟩ := H
  go_enter Tryd.func70, Tryd.ntmps70
  go_wp2_with (first | ((with_reducible refine gate_dst (N := 2) rfl ?_); refine box_event rfl (N := 2) rfl (cs := #[.string a0_0, .int .i64 a0_1, .bool a0_2, .bool a0_3, .int .i64 a0_4]) (t := 63) (by first | (go_simp; done) | (go_simp; rfl)) ?_; intro gb1 hg w14 hbox hb; have BK1 := Aside0.mk hbox; have GW1 := mGw HB hg; have GE1 := GW1; replace HB := mSt HB hb; clear hb hbox hg) | ((with_reducible refine gate_dst (N := 3) rfl ?_); refine box_event rfl (N := 3) rfl (cs := #[.int .i64 a1_0, .string a1_1, .int .i64 a1_2, .int .i64 a1_3]) (t := 43) (by first | (go_simp; done) | (go_simp; rfl)) ?_; intro gb2 hg w15 hbox hb; have BK2 := Aside0.mk hbox; have GW2 := mGw HB hg; have GE2 := GW2; replace HB := mSt HB hb; have NB1_2 := mNe BK1 hg; have NB2_1 := mSy NB1_2; replace BK1 := mBb BK1 hb; clear hb hbox hg) | ((with_reducible refine gate_dst (N := 4) rfl ?_); refine box_event rfl (N := 4) rfl (cs := #[.string (⟨#[]⟩ : ByteArray), .int .i64 0, .bool false, .bool false, .int .i64 0]) (t := 63) (by first | (go_simp; done) | (go_simp; rfl)) ?_; intro gb3 hg w16 hbox hb; have BK3 := Aside0.mk hbox; have GW3 := mGw HB hg; have GE3 := GW3; replace HB := mSt HB hb; have NB1_3 := mNe BK1 hg; have NB3_1 := mSy NB1_3; replace BK1 := mBb BK1 hb; have NB2_3 := mNe BK2 hg; have NB3_2 := mSy NB2_3; replace BK2 := mBb BK2 hb; clear hb hbox hg; have hnb17 := NB2_1.out; have hnc17 := NB1_2.out; have hnb18 := NB2_3.out; have hnc18 := NB3_2.out; have hcz19 := blk_cell BK2.out; have hfz19 := blk_frozen BK2.out; have hnb20 := NB1_3.out; have hnc20 := NB3_1.out; have hcz21 := blk_cell BK1.out; have hfz21 := blk_frozen BK1.out; have hcz22 := blk_cell BK3.out; have hfz22 := blk_frozen BK3.out))
  refine bodyPost_ret (results_cell_row rfl _ _ gb3 63 #[.string a0_0, .int .i64 a0_1, .bool a0_2, .bool (!a0_3), .int .i64 a0_4] (0, 0) _ rfl (by refine blk_put (cs := #[.string a0_0, .int .i64 a0_1, .bool a0_2, .bool (!a0_3), .int .i64 0]) ?_ 4 _ rfl; refine blk_put (cs := #[.string a0_0, .int .i64 a0_1, .bool a0_2, .bool false, .int .i64 0]) ?_ 3 _ rfl; refine blk_put (cs := #[.string a0_0, .int .i64 a0_1, .bool false, .bool false, .int .i64 0]) ?_ 2 _ rfl; refine blk_put (cs := #[.string a0_0, .int .i64 0, .bool false, .bool false, .int .i64 0]) ?_ 1 _ rfl; refine blk_put (cs := #[.string (⟨#[]⟩ : ByteArray), .int .i64 0, .bool false, .bool false, .int .i64 0]) ?_ 0 _ rfl; refine blk_far ?_ NB3_1.out _; exact BK3.out) Tryd.underlying63 rfl (by kernel_rfl)) rfl ?_
  exact ⟨rfl, hO HB⟩
 rw [if_neg c13] at H
 have c13b0 := beq_eq_false_iff_ne.mpr c13
 have c13b1 := bne_iff_ne.mpr c13
 by_cases c23 : a1_0 = 5
 ·
  rw [if_pos c23] at H
  have c23b0 := beq_iff_eq.mpr c23
  have c23b1 := bne_eq_false_iff_eq.mpr c23
  clear c23
  simp only [Option.some.injEq, Prod.mk.injEq] at H
  obtain ⟨rfl, rfl, rfl, rfl, rfl⟩ := H
  go_enter Tryd.func70, Tryd.ntmps70
  go_wp2_with (first | ((with_reducible refine gate_dst (N := 2) rfl ?_); refine box_event rfl (N := 2) rfl (cs := #[.string a0_0, .int .i64 a0_1, .bool a0_2, .bool a0_3, .int .i64 a0_4]) (t := 63) (by first | (go_simp; done) | (go_simp; rfl)) ?_; intro gb1 hg w24 hbox hb; have BK1 := Aside0.mk hbox; have GW1 := mGw HB hg; have GE1 := GW1; replace HB := mSt HB hb; clear hb hbox hg) | ((with_reducible refine gate_dst (N := 3) rfl ?_); refine box_event rfl (N := 3) rfl (cs := #[.int .i64 a1_0, .string a1_1, .int .i64 a1_2, .int .i64 a1_3]) (t := 43) (by first | (go_simp; done) | (go_simp; rfl)) ?_; intro gb2 hg w25 hbox hb; have BK2 := Aside0.mk hbox; have GW2 := mGw HB hg; have GE2 := GW2; replace HB := mSt HB hb; have NB1_2 := mNe BK1 hg; have NB2_1 := mSy NB1_2; replace BK1 := mBb BK1 hb; clear hb hbox hg) | ((with_reducible refine gate_dst (N := 4) rfl ?_); refine box_event rfl (N := 4) rfl (cs := #[.string (⟨#[]⟩ : ByteArray), .int .i64 0, .bool false, .bool false, .int .i64 0]) (t := 63) (by first | (go_simp; done) | (go_simp; rfl)) ?_; intro gb3 hg w26 hbox hb; have BK3 := Aside0.mk hbox; have GW3 := mGw HB hg; have GE3 := GW3; replace HB := mSt HB hb; have NB1_3 := mNe BK1 hg; have NB3_1 := mSy NB1_3; replace BK1 := mBb BK1 hb; have NB2_3 := mNe BK2 hg; have NB3_2 := mSy NB2_3; replace BK2 := mBb BK2 hb; clear hb hbox hg; have hnb27 := NB2_1.out; have hnc27 := NB1_2.out; have hnb28 := NB2_3.out; have hnc28 := NB3_2.out; have hcz29 := blk_cell BK2.out; have hfz29 := blk_frozen BK2.out; have hnb30 := NB1_3.out; have hnc30 := NB3_1.out; have hcz31 := blk_cell BK1.out; have hfz31 := blk_frozen BK1.out; have hcz32 := blk_cell BK3.out; have hfz32 := blk_frozen BK3.out))
  refine bodyPost_ret (results_cell_row rfl _ _ gb3 63 #[.string a0_0, .int .i64 (Int.tmod (wrap64 (a0_1 + a1_2)) 4), .bool a0_2, .bool a0_3, .int .i64 a0_4] (0, 0) _ rfl (by refine blk_put (cs := #[.string a0_0, .int .i64 (Int.tmod (wrap64 (a0_1 + a1_2)) 4), .bool a0_2, .bool a0_3, .int .i64 0]) ?_ 4 _ rfl; refine blk_put (cs := #[.string a0_0, .int .i64 (Int.tmod (wrap64 (a0_1 + a1_2)) 4), .bool a0_2, .bool false, .int .i64 0]) ?_ 3 _ rfl; refine blk_put (cs := #[.string a0_0, .int .i64 (Int.tmod (wrap64 (a0_1 + a1_2)) 4), .bool false, .bool false, .int .i64 0]) ?_ 2 _ rfl; refine blk_put (cs := #[.string a0_0, .int .i64 0, .bool false, .bool false, .int .i64 0]) ?_ 1 _ rfl; refine blk_put (cs := #[.string (⟨#[]⟩ : ByteArray), .int .i64 0, .bool false, .bool false, .int .i64 0]) ?_ 0 _ rfl; refine blk_far ?_ NB3_1.out _; exact BK3.out) Tryd.underlying63 rfl (by kernel_rfl)) rfl ?_
  exact ⟨rfl, hO HB⟩
 rw [if_neg c23] at H
 have c23b0 := beq_eq_false_iff_ne.mpr c23
 have c23b1 := bne_iff_ne.mpr c23
 by_cases c33 : a1_0 = 6
 rotate_left
 ·
  rw [if_neg c33] at H
  have c33b0 := beq_eq_false_iff_ne.mpr c33
  have c33b1 := bne_iff_ne.mpr c33
  simp only [Option.some.injEq, Prod.mk.injEq] at H
  obtain ⟨rfl, rfl, rfl, rfl, rfl⟩ := H
  go_enter Tryd.func70, Tryd.ntmps70
  go_wp2_with (first | ((with_reducible refine gate_dst (N := 2) rfl ?_); refine box_event rfl (N := 2) rfl (cs := #[.string a0_0, .int .i64 a0_1, .bool a0_2, .bool a0_3, .int .i64 a0_4]) (t := 63) (by first | (go_simp; done) | (go_simp; rfl)) ?_; intro gb1 hg w43 hbox hb; have BK1 := Aside0.mk hbox; have GW1 := mGw HB hg; have GE1 := GW1; replace HB := mSt HB hb; clear hb hbox hg) | ((with_reducible refine gate_dst (N := 3) rfl ?_); refine box_event rfl (N := 3) rfl (cs := #[.int .i64 a1_0, .string a1_1, .int .i64 a1_2, .int .i64 a1_3]) (t := 43) (by first | (go_simp; done) | (go_simp; rfl)) ?_; intro gb2 hg w44 hbox hb; have BK2 := Aside0.mk hbox; have GW2 := mGw HB hg; have GE2 := GW2; replace HB := mSt HB hb; have NB1_2 := mNe BK1 hg; have NB2_1 := mSy NB1_2; replace BK1 := mBb BK1 hb; clear hb hbox hg) | ((with_reducible refine gate_dst (N := 4) rfl ?_); refine box_event rfl (N := 4) rfl (cs := #[.string (⟨#[]⟩ : ByteArray), .int .i64 0, .bool false, .bool false, .int .i64 0]) (t := 63) (by first | (go_simp; done) | (go_simp; rfl)) ?_; intro gb3 hg w45 hbox hb; have BK3 := Aside0.mk hbox; have GW3 := mGw HB hg; have GE3 := GW3; replace HB := mSt HB hb; have NB1_3 := mNe BK1 hg; have NB3_1 := mSy NB1_3; replace BK1 := mBb BK1 hb; have NB2_3 := mNe BK2 hg; have NB3_2 := mSy NB2_3; replace BK2 := mBb BK2 hb; clear hb hbox hg; have hnb46 := NB2_1.out; have hnc46 := NB1_2.out; have hnb47 := NB2_3.out; have hnc47 := NB3_2.out; have hcz48 := blk_cell BK2.out; have hfz48 := blk_frozen BK2.out; have hnb49 := NB1_3.out; have hnc49 := NB3_1.out; have hcz50 := blk_cell BK1.out; have hfz50 := blk_frozen BK1.out; have hcz51 := blk_cell BK3.out; have hfz51 := blk_frozen BK3.out))
  refine bodyPost_ret (results_cell_row rfl _ _ gb3 63 #[.string a0_0, .int .i64 a0_1, .bool a0_2, .bool a0_3, .int .i64 a0_4] (0, 0) _ rfl (by refine blk_put (cs := #[.string a0_0, .int .i64 a0_1, .bool a0_2, .bool a0_3, .int .i64 0]) ?_ 4 _ rfl; refine blk_put (cs := #[.string a0_0, .int .i64 a0_1, .bool a0_2, .bool false, .int .i64 0]) ?_ 3 _ rfl; refine blk_put (cs := #[.string a0_0, .int .i64 a0_1, .bool false, .bool false, .int .i64 0]) ?_ 2 _ rfl; refine blk_put (cs := #[.string a0_0, .int .i64 0, .bool false, .bool false, .int .i64 0]) ?_ 1 _ rfl; refine blk_put (cs := #[.string (⟨#[]⟩ : ByteArray), .int .i64 0, .bool false, .bool false, .int .i64 0]) ?_ 0 _ rfl; exact BK3.out) Tryd.underlying63 rfl (by kernel_rfl)) rfl ?_
  exact ⟨rfl, hO HB⟩
 rw [if_pos c33] at H
 have c33b0 := beq_iff_eq.mpr c33
 have c33b1 := bne_eq_false_iff_eq.mpr c33
 clear c33
 simp only [Option.some.injEq, Prod.mk.injEq] at H
 obtain ⟨rfl, rfl, rfl, rfl, rfl⟩ := H
 go_enter Tryd.func70, Tryd.ntmps70
 go_wp2_with (first | ((with_reducible refine gate_dst (N := 2) rfl ?_); refine box_event rfl (N := 2) rfl (cs := #[.string a0_0, .int .i64 a0_1, .bool a0_2, .bool a0_3, .int .i64 a0_4]) (t := 63) (by first | (go_simp; done) | (go_simp; rfl)) ?_; intro gb1 hg w34 hbox hb; have BK1 := Aside0.mk hbox; have GW1 := mGw HB hg; have GE1 := GW1; replace HB := mSt HB hb; clear hb hbox hg) | ((with_reducible refine gate_dst (N := 3) rfl ?_); refine box_event rfl (N := 3) rfl (cs := #[.int .i64 a1_0, .string a1_1, .int .i64 a1_2, .int .i64 a1_3]) (t := 43) (by first | (go_simp; done) | (go_simp; rfl)) ?_; intro gb2 hg w35 hbox hb; have BK2 := Aside0.mk hbox; have GW2 := mGw HB hg; have GE2 := GW2; replace HB := mSt HB hb; have NB1_2 := mNe BK1 hg; have NB2_1 := mSy NB1_2; replace BK1 := mBb BK1 hb; clear hb hbox hg) | ((with_reducible refine gate_dst (N := 4) rfl ?_); refine box_event rfl (N := 4) rfl (cs := #[.string (⟨#[]⟩ : ByteArray), .int .i64 0, .bool false, .bool false, .int .i64 0]) (t := 63) (by first | (go_simp; done) | (go_simp; rfl)) ?_; intro gb3 hg w36 hbox hb; have BK3 := Aside0.mk hbox; have GW3 := mGw HB hg; have GE3 := GW3; replace HB := mSt HB hb; have NB1_3 := mNe BK1 hg; have NB3_1 := mSy NB1_3; replace BK1 := mBb BK1 hb; have NB2_3 := mNe BK2 hg; have NB3_2 := mSy NB2_3; replace BK2 := mBb BK2 hb; clear hb hbox hg; have hnb37 := NB2_1.out; have hnc37 := NB1_2.out; have hnb38 := NB2_3.out; have hnc38 := NB3_2.out; have hcz39 := blk_cell BK2.out; have hfz39 := blk_frozen BK2.out; have hnb40 := NB1_3.out; have hnc40 := NB3_1.out; have hcz41 := blk_cell BK1.out; have hfz41 := blk_frozen BK1.out; have hcz42 := blk_cell BK3.out; have hfz42 := blk_frozen BK3.out))
 refine bodyPost_ret (results_cell_row rfl _ _ gb3 63 #[.string a0_0, .int .i64 a0_1, .bool a0_2, .bool a0_3, .int .i64 (wrap64 (a0_4 * a1_2))] (0, 0) _ rfl (by refine blk_put (cs := #[.string a0_0, .int .i64 a0_1, .bool a0_2, .bool a0_3, .int .i64 0]) ?_ 4 _ rfl; refine blk_put (cs := #[.string a0_0, .int .i64 a0_1, .bool a0_2, .bool false, .int .i64 0]) ?_ 3 _ rfl; refine blk_put (cs := #[.string a0_0, .int .i64 a0_1, .bool false, .bool false, .int .i64 0]) ?_ 2 _ rfl; refine blk_put (cs := #[.string a0_0, .int .i64 0, .bool false, .bool false, .int .i64 0]) ?_ 1 _ rfl; refine blk_put (cs := #[.string (⟨#[]⟩ : ByteArray), .int .i64 0, .bool false, .bool false, .int .i64 0]) ?_ 0 _ rfl; refine blk_far ?_ NB3_1.out _; exact BK3.out) Tryd.underlying63 rfl (by kernel_rfl)) rfl ?_
 exact ⟨rfl, hO HB⟩
end Go.Proofs.YtimikhbnihedkaaDoor.PAll
