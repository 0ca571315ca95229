-- Written by wip/tools/handprint.py: walks of the functions that the law reaches; Lean checks them.
import Derived.Test.YtaggccbndmmbhaaDoorBase
import Derived.Test.YtaggccbndmmbhaaDoorPAllf71
namespace Go.Proofs.YtaggccbndmmbhaaDoor.PAll
open Go.RowKit Go.Proofs.YtaggccbndmmbhaaDoorW.PrintWords Go.Proofs.YtaggccbndmmbhaaDoorW.PrintLast Go.Proofs.YtaggccbndmmbhaaDoorW.PrintMore
attribute [local go_sem] max2_int min2_int max_two min_two max_three min_three max_four min_four   -- for this text's walks alone
set_option linter.unusedVariables false
set_option linter.unusedSimpArgs false

/-! ### dancestudioref11_least: function 61 -/
mutual
def dancestudioref11_least.l0 : Nat → List (List Int) → Int → Int → Int → Option (List Int)
 | 0, _, _, _, _ => none
 | k + 1, x0, x3, x4, x5 => if x5 < x3 then (dancestudioref11_least.l0 k x0 x3 (wrap64 (2 * x4)) (wrap64 (x5 + 1))) else (dancestudioref11_least.l1 k x0 x3 x4 ([] : List Int) 0)
def dancestudioref11_least.l1 : Nat → List (List Int) → Int → Int → List Int → Int → Option (List Int)
 | 0, _, _, _, _, _ => none
 | k + 1, x0, x3, x4, x6, x7 => if x7 < x4 then (if x6.length < 17592186044416 then (dancestudioref11_least.l1 k x0 x3 x4 (x6 ++ [0]) (wrap64 (x7 + 1))) else (none)) else (dancestudioref11_least.l2 k x0 x3 x6 (wrap64 (x4 - 2)))
def dancestudioref11_least.l2 : Nat → List (List Int) → Int → List Int → Int → Option (List Int)
 | 0, _, _, _, _ => none
 | k + 1, x0, x3, x6, x8 => if x8 ≥ 0 then ((dancestudioref11_size.f k x8).bind fun t532 => (dancestudioref11_least.l3 k x0 x3 x6 x8 t532 (-1) 0)) else (some x6)
def dancestudioref11_least.l3 : Nat → List (List Int) → Int → List Int → Int → Int → Int → Int → Option (List Int)
 | 0, _, _, _, _, _, _, _ => none
 | k + 1, x0, x3, x6, x8, x9, x10, x11 => if x11 < x3 then (if 0 ≤ x11 then (if (Go.bits .and .i64 x8 (shl .i64 1 x11)) = 0 then (if 0 ≤ x9 then (if x9 < (x0.length : Int) then (if x11 < ((rd_L2 x0 x9).length : Int) then (if 0 ≤ (Go.bits .or .i64 x8 (shl .i64 1 x11)) then (if (Go.bits .or .i64 x8 (shl .i64 1 x11)) < (x6.length : Int) then (if x10 < 0 then (dancestudioref11_least.l3 k x0 x3 x6 x8 x9 (wrap64 ((rd (rd_L2 x0 x9) x11) + (rd x6 (Go.bits .or .i64 x8 (shl .i64 1 x11))))) (wrap64 (x11 + 1))) else (if (wrap64 ((rd (rd_L2 x0 x9) x11) + (rd x6 (Go.bits .or .i64 x8 (shl .i64 1 x11))))) < x10 then (dancestudioref11_least.l3 k x0 x3 x6 x8 x9 (wrap64 ((rd (rd_L2 x0 x9) x11) + (rd x6 (Go.bits .or .i64 x8 (shl .i64 1 x11))))) (wrap64 (x11 + 1))) else (dancestudioref11_least.l3 k x0 x3 x6 x8 x9 x10 (wrap64 (x11 + 1))))) else (none)) else (none)) else (none)) else (none)) else (none)) else (dancestudioref11_least.l3 k x0 x3 x6 x8 x9 x10 (wrap64 (x11 + 1)))) else (none)) else (if 0 ≤ x8 then (if x8 < (x6.length : Int) then (dancestudioref11_least.l2 k x0 x3 (x6.set (x8 : Int).toNat x10) (wrap64 (x8 - 1))) else (none)) else (none))
end
def dancestudioref11_least.f (k : Nat) (l0 : List (List Int)) : Option (List Int) := dancestudioref11_least.l0 k l0 (l0.length : Int) 1 0
set_option maxHeartbeats 8000000 in
set_option maxRecDepth 100000 in
theorem dancestudioref11_least.calls (k : Nat) (A0 : Option Addr) (c0 : Nat) (l0 : List (List Int)) (r : List Int) (w : World) (hr0 : Kd.C (Kd.slice 3 (Kd.int .i64)) w A0 l0.length l0) (hc0 : l0.length ≤ c0) (h : dancestudioref11_least.f k l0 = some r) :
  Calls Tryd.prog 61 #[.slice A0 l0.length c0] w fun e w' => ∃ v0_ : Value, e = .returned (v0_) ∧ Kd.R (Kd.int .i64) 3 w' w.heap.size (fun _ => True) v0_ r ∧ Below w.heap.size w w' := by
 have HR0 := Aside0.mk hr0
 have HC0 := Aside0.mk hc0
 clear hr0 hc0
 have HB := Aside0.mk (Below.refl w.heap.size w)
 have H := h
 unfold dancestudioref11_least.f at H
 clear h
 have H' := Aside0.mk H
 clear H
 go_enter Tryd.func61, Tryd.ntmps61
 go_wp2
 repeat (go_quiet (fail); try go_wp2)
 go_loopg [4, 5] k (fun kq v4 v5 w' => ∃ (x4_1 : Int) (x5_1 : Int), v4 = .int .i64 x4_1 ∧ v5 = .int .i64 x5_1 ∧ Aside0 (dancestudioref11_least.l0 kq l0 (l0.length : Int) x4_1 x5_1 = some r) ∧ Aside0 (kq ≤ k) ∧ Aside0 (Below w.heap.size w w'))
 case atStart => exact ⟨(1), (0), rfl, rfl, H', ⟨Nat.le_refl _⟩, ⟨HB.out⟩⟩
 case round =>
  clear H'
  obtain ⟨x4_1, x5_1, rfl, rfl, HA, HK1, HB⟩ := hrel
  cases gk with
  | zero => exact absurd HA.out (by simp [dancestudioref11_least.l0])
  | succ k1 =>
   have H := HA.out
   clear HA
   simp only [dancestudioref11_least.l0] at H
   by_cases c2 : x5_1 < (l0.length : Int)
   ·
    rw [if_pos c2] at H
    have c2b0 := decide_eq_true c2
    clear c2
    have H' := Aside0.mk H
    clear H
    go_wp2
    repeat (go_quiet (fail); try go_wp2)
    go_roundg k1
    case measure => have := HK1.out; omega
    case rel => exact ⟨(wrap64 (2 * x4_1)), (wrap64 (x5_1 + 1)), rfl, rfl, H', ⟨by have := HK1.out; omega⟩, ⟨HB.out⟩⟩
   rw [if_neg c2] at H
   have c2b0 := decide_eq_false c2
   clear c2
   have H' := Aside0.mk H
   clear H
   go_wp2
   repeat (go_quiet (fail); try go_wp2)
   go_loopg [6, 7] k1 (fun kq v6 v7 w' => ∃ (x6_2 : List Int) (x7_2 : Int), v7 = .int .i64 x7_2 ∧ Aside0 (dancestudioref11_least.l1 kq l0 (l0.length : Int) x4_1 x6_2 x7_2 = some r) ∧ Aside0 (kq ≤ k1) ∧ Aside0 (Kd.R (Kd.int .i64) 3 w' w.heap.size (fun _ => True) v6 x6_2) ∧ Aside0 (Below w.heap.size w w'))
   case atStart => exact ⟨(([] : List Int)), (0), rfl, H', ⟨Nat.le_refl _⟩, ⟨by first | exact Kd.R_nil _ _ _ _ _ | exact Kd.N_nil _ _ _ _ _ | exact Kd.V_nil _ _ _ _ _ | exact Kd.Q_nil _ _ _ _ _ | exact Kd.S_nil _ _ _ _ _⟩, ⟨HB.out⟩⟩
   case round =>
    clear H'
    clear c2b0
    obtain ⟨x6_2, x7_2, rfl, HA, HK2, HO_6, HB⟩ := hrel
    cases gk with
    | zero => exact absurd HA.out (by simp [dancestudioref11_least.l1])
    | succ k2 =>
     have H := HA.out
     clear HA
     simp only [dancestudioref11_least.l1] at H
     by_cases c3 : x7_2 < x4_1
     ·
      rw [if_pos c3] at H
      have c3b0 := decide_eq_true c3
      clear c3
      obtain ⟨c4, H⟩ : (x6_2.length < 17592186044416) ∧ _ := mIf H
      have LMc4 := Aside0.mk c4
      clear c4
      obtain ⟨y529, hy529⟩ : ∃ y_ : List Int, y_ = (x6_2 ++ [0]) := ⟨_, rfl⟩
      rw [← hy529] at H
      have Ny529 := Aside0.mk hy529
      clear hy529
      have H' := Aside0.mk H
      clear H
      go_wp2_with (first | ((with_reducible refine gate_builtin (b := .append) (xs := #[.tmp 27, .tmp 28]) rfl ?_); at_builtin; refine Kd.R_append (Kd.int .i64) (w0 := w) w.heap.size rfl (.tmp 27) (.tmp 28) 29 3 (.int .i64 0) 8 rfl Tryd.underlying29 info3 rfl (by decide) (by omega) u6 x6_2 0 [.int .i64 0] (fun _ => True) (fun _ => False) rfl rfl ?aP (fun _ hk => hk.elim) ?aF ?aO ?aB ?aS ?aL ?_; (case aP => exact rfl); (case aB => exact HB.out); (case aF => exact (fun _ _ => trivial)); (case aO => exact HO_6.out); (case aS => exact (below_size HB.out)); (case aL => have := LMc4.out; omega); intro v530 w5 ho hb hg hat; rw [← Ny529.out] at ho; replace HB := Aside0.mk hb; have HO531 := Aside0.mk ho; clear HO_6; clear ho hb hg hat))
      skip
      go_roundg k2
      case measure => have := HK1.out; have := HK2.out; omega
      case rel => exact ⟨(y529), (wrap64 (x7_2 + 1)), rfl, H', ⟨by have := HK1.out; have := HK2.out; omega⟩, HO531, ⟨HB.out⟩⟩
     rw [if_neg c3] at H
     have c3b0 := decide_eq_false c3
     clear c3
     have H' := Aside0.mk H
     clear H
     go_wp2
     repeat (go_quiet (fail); try go_wp2)
     go_loopg [8] k2 (fun kq v8 w' => ∃ (x6_3 : List Int) (x8_3 : Int), v8 = .int .i64 x8_3 ∧ Aside0 (dancestudioref11_least.l2 kq l0 (l0.length : Int) x6_3 x8_3 = some r) ∧ Aside0 (kq ≤ k2) ∧ Aside0 (Kd.R (Kd.int .i64) 3 w' w.heap.size (fun _ => True) u6 x6_3) ∧ Aside0 (Below w.heap.size w w'))
     case atStart => exact ⟨(x6_2), (wrap64 (x4_1 - 2)), rfl, H', ⟨Nat.le_refl _⟩, HO_6, ⟨HB.out⟩⟩
     case round =>
      clear H'
      clear c3b0
      obtain ⟨x6_3, x8_3, rfl, HA, HK3, HO_6, HB⟩ := hrel
      cases gk with
      | zero => exact absurd HA.out (by simp [dancestudioref11_least.l2])
      | succ k3 =>
       have H := HA.out
       clear HA
       simp only [dancestudioref11_least.l2] at H
       by_cases c6 : x8_3 ≥ 0
       rotate_left
       ·
        rw [if_neg c6] at H
        have c6b0 := decide_eq_false c6
        clear c6
        obtain rfl := Option.some.inj H
        go_wp2
        repeat (go_quiet (fail); try go_wp2)
        go_ret
        exact ⟨_, rfl, by exact HO_6.out, HB.out⟩
       rw [if_pos c6] at H
       have c6b0 := decide_eq_true c6
       clear c6
       replace H := Option.bind_eq_some_iff.mp H
       obtain ⟨t532, A70, H⟩ := H
       try dsimp only at H
       have A7 := Aside0.mk A70
       clear A70
       have H' := Aside0.mk H
       clear H
       go_wp2_with (first | (go_at_call 71; (with_reducible refine (dancestudioref11_size.calls k3 x8_3 t532 _ A7.out).mono ?_); rintro e w' ⟨rfl, ⟨nd, rfl⟩⟩; (try first | exact ⟨rfl, _, World.drewN_drewN _ _ _⟩ | exact ⟨rfl, _, Eq.trans (World.drewN_drewN _ _ _) (congrArg (World.drewN _) (Nat.add_assoc _ _ _))⟩)))
       repeat (go_quiet (first | (go_at_call 71; (with_reducible refine (dancestudioref11_size.calls k3 x8_3 t532 _ A7.out).mono ?_); rintro e w' ⟨rfl, ⟨nd, rfl⟩⟩; (try first | exact ⟨rfl, _, World.drewN_drewN _ _ _⟩ | exact ⟨rfl, _, Eq.trans (World.drewN_drewN _ _ _) (congrArg (World.drewN _) (Nat.add_assoc _ _ _))⟩))); try go_wp2_with (first | (go_at_call 71; (with_reducible refine (dancestudioref11_size.calls k3 x8_3 t532 _ A7.out).mono ?_); rintro e w' ⟨rfl, ⟨nd, rfl⟩⟩; (try first | exact ⟨rfl, _, World.drewN_drewN _ _ _⟩ | exact ⟨rfl, _, Eq.trans (World.drewN_drewN _ _ _) (congrArg (World.drewN _) (Nat.add_assoc _ _ _))⟩))))
       go_loopg [10, 11] k3 (fun kq v10 v11 w' => ∃ (x10_4 : Int) (x11_4 : Int), v10 = .int .i64 x10_4 ∧ v11 = .int .i64 x11_4 ∧ Aside0 (dancestudioref11_least.l3 kq l0 (l0.length : Int) x6_3 x8_3 t532 x10_4 x11_4 = some r) ∧ Aside0 (kq ≤ k3) ∧ Aside0 (Kd.R (Kd.int .i64) 3 w' w.heap.size (fun _ => True) u6 x6_3) ∧ Aside0 (Below w.heap.size w w'))
       case atStart => exact ⟨((-1)), (0), rfl, rfl, H', ⟨Nat.le_refl _⟩, HO_6, ⟨hO HB⟩⟩
       case round =>
        clear H'
        clear c6b0
        obtain ⟨x10_4, x11_4, rfl, rfl, HA, HK4, HO_6, HB⟩ := hrel
        cases gk with
        | zero => exact absurd HA.out (by simp [dancestudioref11_least.l3])
        | succ k4 =>
         have H := HA.out
         clear HA
         simp only [dancestudioref11_least.l3] at H
         by_cases c8 : x11_4 < (l0.length : Int)
         rotate_left
         ·
          rw [if_neg c8] at H
          have c8b0 := decide_eq_false c8
          clear c8
          obtain ⟨c24, H⟩ : (0 ≤ x8_3) ∧ _ := mIf H
          have c24b0 := decide_eq_true c24
          clear c24
          obtain ⟨c25, H⟩ : (x8_3 < (x6_3.length : Int)) ∧ _ := mIf H
          have c25b0 := decide_eq_true c25
          clear c25
          obtain ⟨y533, hy533⟩ : ∃ y_ : List Int, y_ = (x6_3.set (x8_3 : Int).toNat x10_4) := ⟨_, rfl⟩
          rw [← hy533] at H
          have Ny533 := Aside0.mk hy533
          clear hy533
          have H' := Aside0.mk H
          clear H
          have p26 : 0 ≤ (x8_3 : Int) := of_decide_eq_true (by assumption)
          have q26 : (x8_3 : Int) < ((x6_3.length : Int) : Int) := of_decide_eq_true (by assumption)
          obtain ⟨go26, co26, eo26, gb1, gl26, cl26, HG26⟩ := Kd.R_form HO_6.out (by omega)
          (first | cases eo26 | (injection eo26 with ea_ en_ ec_; (first | subst ea_ | (injection ea_ with ea_; subst ea_)); subst ec_; clear en_))
          have GB26 := Aside0.mk gb1
          have GG26 := Aside0.mk HG26
          clear gb1 gl26 HG26
          obtain ⟨hx26_0, hf26_0⟩ := Kd.R_celln 0 HO_6.out (x8_3 : Int) p26 q26
          replace p26 := eq_true p26
          replace q26 := eq_true q26
          have HP27 := Kd.R_putg HO_6.out (x8_3 : Int) x10_4
          go_wp2_with (first | ((with_reducible refine gate_store (t := 3) (p := 74) rfl ?_); (try (rw [drewN_self wr]; generalize hq_ : World.drewN wr _ = wr; have n0_ := Aside0.mk (Kd.R_at hq_ HO_6.out); have n1_ := Aside0.mk (below_at hq_ HB.out); clear hq_ HO_6 HB; have HO_6 := n0_; have HB := n1_; clear n0_ n1_; (try (have HP27 := Kd.R_putg HO_6.out (x8_3 : Int) x10_4)))); refine store_event (t := 3) (p := 74) (v := ?vo_w28) (w1 := (wr.setCell ⟨go26, (x8_3 : Int).toNat, none⟩ (.int .i64 x10_4))) ?hg ?ho ?hn ?hr ?_; (case ho => rfl); (case hg => rfl); (case hn => rfl); (case hr => first | (go_simp; done) | (go_simp; rfl)); intro w28 hw; have hg : wr.grownBy w28 (some go26) := (by rw [hw]; exact HP27.2); have hp_ : Kd.R (Kd.int .i64) 3 w28 w.heap.size (fun _ => True) (.slice (some ⟨go26, 0, none⟩) x6_3.length co26) y533 := (by rw [hw, Ny533.out]; exact HP27.1); clear HP27; replace HO_6 := Aside0.mk (hp_); replace HB := Aside0.mk ((by rw [hw]; exact below_set (HB.out) GB26.out : Below w.heap.size w w28)); clear hg hw hp_))
          skip
          go_roundg k4
          case measure => have := HK1.out; have := HK2.out; have := HK3.out; have := HK4.out; omega
          case rel => exact ⟨(y533), (wrap64 (x8_3 - 1)), rfl, H', ⟨by have := HK1.out; have := HK2.out; have := HK3.out; have := HK4.out; omega⟩, HO_6, ⟨HB.out⟩⟩
         rw [if_pos c8] at H
         have c8b0 := decide_eq_true c8
         clear c8
         obtain ⟨c9, H⟩ : (0 ≤ x11_4) ∧ _ := mIf H
         have c9b0 := eq_true c9
         have c9b1 := decide_eq_true c9
         clear c9
         obtain ⟨ji10, hji10⟩ : ∃ j_ : Int, (shl .i64 1 x11_4) = j_ := ⟨_, rfl⟩
         replace H : (if (Go.bits .and .i64 x8_3 (ji10)) = 0 then (if 0 ≤ t532 then (if t532 < (l0.length : Int) then (if x11_4 < ((rd_L2 l0 t532).length : Int) then (if 0 ≤ (Go.bits .or .i64 x8_3 (ji10)) then (if (Go.bits .or .i64 x8_3 (ji10)) < (x6_3.length : Int) then (if x10_4 < 0 then (dancestudioref11_least.l3 k4 l0 (l0.length : Int) x6_3 x8_3 t532 (wrap64 ((rd (rd_L2 l0 t532) x11_4) + (rd x6_3 (Go.bits .or .i64 x8_3 (ji10))))) (wrap64 (x11_4 + 1))) else (if (wrap64 ((rd (rd_L2 l0 t532) x11_4) + (rd x6_3 (Go.bits .or .i64 x8_3 (ji10))))) < x10_4 then (dancestudioref11_least.l3 k4 l0 (l0.length : Int) x6_3 x8_3 t532 (wrap64 ((rd (rd_L2 l0 t532) x11_4) + (rd x6_3 (Go.bits .or .i64 x8_3 (ji10))))) (wrap64 (x11_4 + 1))) else (dancestudioref11_least.l3 k4 l0 (l0.length : Int) x6_3 x8_3 t532 x10_4 (wrap64 (x11_4 + 1))))) else (none)) else (none)) else (none)) else (none)) else (none)) else (dancestudioref11_least.l3 k4 l0 (l0.length : Int) x6_3 x8_3 t532 x10_4 (wrap64 (x11_4 + 1)))) = some r := by first | (rw [hji10] at H; exact H) | (simp only [hji10] at H ⊢; exact H)
         have hji10_ : (IntKind.i64.wrap (1 * 2 ^ min x11_4.toNat 64)) = ji10 := hji10
         have hji10z : x11_4 ≤ 64 → (IntKind.i64.wrap (1 * 2 ^ x11_4.toNat)) = ji10 := shl_small hji10
         have hji10u : (IntKind.i64.wrap (2 ^ min x11_4.toNat 64)) = ji10 := by have h_ := hji10_; rw [Int.one_mul] at h_; exact h_
         have hji10v : x11_4 ≤ 64 → (IntKind.i64.wrap (2 ^ x11_4.toNat)) = ji10 := fun hle_ => by have h_ := hji10z hle_; rw [Int.one_mul] at h_; exact h_
         have hji10y : (wrap64 (1 * 2 ^ min x11_4.toNat 64)) = ji10 := (i64_w _).symm.trans hji10_
         have hji10x : x11_4 ≤ 64 → (wrap64 (1 * 2 ^ x11_4.toNat)) = ji10 := fun h_ => (i64_w _).symm.trans (hji10z h_)
         by_cases c11 : (Go.bits .and .i64 x8_3 (ji10)) = 0
         rotate_left
         ·
          rw [if_neg c11] at H
          have c11b0 := beq_eq_false_iff_ne.mpr c11
          have c11b1 := bne_iff_ne.mpr c11
          have H' := Aside0.mk H
          clear H
          go_wp2
          repeat (go_quiet (fail); try go_wp2)
          go_roundg k4
          case measure => have := HK1.out; have := HK2.out; have := HK3.out; have := HK4.out; omega
          case rel => exact ⟨(x10_4), (wrap64 (x11_4 + 1)), rfl, rfl, H', ⟨by have := HK1.out; have := HK2.out; have := HK3.out; have := HK4.out; omega⟩, HO_6, ⟨HB.out⟩⟩
         rw [if_pos c11] at H
         have c11b0 := beq_iff_eq.mpr c11
         have c11b1 := bne_eq_false_iff_eq.mpr c11
         clear c11
         obtain ⟨c12, H⟩ : (0 ≤ t532) ∧ _ := mIf H
         have c12b0 := decide_eq_true c12
         clear c12
         obtain ⟨c13, H⟩ : (t532 < (l0.length : Int)) ∧ _ := mIf H
         have c13b0 := decide_eq_true c13
         clear c13
         obtain ⟨c14, H⟩ : (x11_4 < ((rd_L2 l0 t532).length : Int)) ∧ _ := mIf H
         have c14b0 := decide_eq_true c14
         clear c14
         have c15b0 := eq_true (of_decide_eq_true (by assumption) : 0 ≤ x11_4)
         obtain ⟨c17, H⟩ : (0 ≤ (Go.bits .or .i64 x8_3 (ji10))) ∧ _ := mIf H
         have c17b0 := decide_eq_true c17
         clear c17
         obtain ⟨c18, H⟩ : ((Go.bits .or .i64 x8_3 (ji10)) < (x6_3.length : Int)) ∧ _ := mIf H
         have c18b0 := decide_eq_true c18
         clear c18
         by_cases c19 : x10_4 < 0
         ·
          rw [if_pos c19] at H
          have c19b0 := decide_eq_true c19
          clear c19
          have H' := Aside0.mk H
          clear H
          have p534 : 0 ≤ (t532 : Int) := of_decide_eq_true (by assumption)
          have q534 : t532 < (l0.length : Int) := of_decide_eq_true (by assumption)
          obtain ⟨ad534, A534_0, c534_0, e534, hx534_0, hl534_0, hi534_0⟩ := at_L2 HR0.out t532 p534 q534
          cases e534
          replace hx534_0 := mHx HB hx534_0
          have HR534_0 := Aside0.mk hi534_0
          have HC534_0 := Aside0.mk hl534_0
          clear hi534_0 hl534_0
          replace p534 := eq_true p534
          replace q534 := eq_true q534
          have p535 : 0 ≤ (x11_4 : Int) := of_decide_eq_true (by assumption)
          have q535 : x11_4 < ((rd_L2 l0 t532).length : Int) := of_decide_eq_true (by assumption)
          obtain ⟨ad535, e535, hx535_0⟩ := Kd.at_int HR534_0.out x11_4 p535 q535
          cases e535
          replace hx535_0 := mHx HB hx535_0
          replace p535 := eq_true p535
          replace q535 := eq_true q535
          obtain ⟨Ao20, co20, eo20⟩ := Kd.R_slice HO_6.out
          subst eo20
          have p536 : 0 ≤ ((Go.bits .or .i64 x8_3 (ji10)) : Int) := of_decide_eq_true (by assumption)
          have q536 : (Go.bits .or .i64 x8_3 (ji10)) < (x6_3.length : Int) := of_decide_eq_true (by assumption)
          obtain ⟨ad536, e536, hx536_0⟩ := Kd.at_int (Kd.R_reads' HO_6.out).2.2 (Go.bits .or .i64 x8_3 (ji10)) p536 q536
          cases e536
          replace p536 := eq_true p536
          replace q536 := eq_true q536
          go_wp2
          repeat (go_quiet (fail); try go_wp2)
          go_roundg k4
          case measure => have := HK1.out; have := HK2.out; have := HK3.out; have := HK4.out; omega
          case rel => exact ⟨(wrap64 ((rd (rd_L2 l0 t532) x11_4) + (rd x6_3 (Go.bits .or .i64 x8_3 (ji10))))), (wrap64 (x11_4 + 1)), (by first | rfl | (simp; done) | (simp only [← hji10] <;> (first | rfl | simp)) | (simp [*]; done)), rfl, H', ⟨by have := HK1.out; have := HK2.out; have := HK3.out; have := HK4.out; omega⟩, HO_6, ⟨hO HB⟩⟩
         rw [if_neg c19] at H
         have c19b0 := decide_eq_false c19
         clear c19
         by_cases c21 : (wrap64 ((rd (rd_L2 l0 t532) x11_4) + (rd x6_3 (Go.bits .or .i64 x8_3 (ji10))))) < x10_4
         rotate_left
         ·
          rw [if_neg c21] at H
          have c21b0 := decide_eq_false c21
          clear c21
          have H' := Aside0.mk H
          clear H
          have p534 : 0 ≤ (t532 : Int) := of_decide_eq_true (by assumption)
          have q534 : t532 < (l0.length : Int) := of_decide_eq_true (by assumption)
          obtain ⟨ad534, A534_0, c534_0, e534, hx534_0, hl534_0, hi534_0⟩ := at_L2 HR0.out t532 p534 q534
          cases e534
          replace hx534_0 := mHx HB hx534_0
          have HR534_0 := Aside0.mk hi534_0
          have HC534_0 := Aside0.mk hl534_0
          clear hi534_0 hl534_0
          replace p534 := eq_true p534
          replace q534 := eq_true q534
          have p535 : 0 ≤ (x11_4 : Int) := of_decide_eq_true (by assumption)
          have q535 : x11_4 < ((rd_L2 l0 t532).length : Int) := of_decide_eq_true (by assumption)
          obtain ⟨ad535, e535, hx535_0⟩ := Kd.at_int HR534_0.out x11_4 p535 q535
          cases e535
          replace hx535_0 := mHx HB hx535_0
          replace p535 := eq_true p535
          replace q535 := eq_true q535
          obtain ⟨Ao23, co23, eo23⟩ := Kd.R_slice HO_6.out
          subst eo23
          have p536 : 0 ≤ ((Go.bits .or .i64 x8_3 (ji10)) : Int) := of_decide_eq_true (by assumption)
          have q536 : (Go.bits .or .i64 x8_3 (ji10)) < (x6_3.length : Int) := of_decide_eq_true (by assumption)
          obtain ⟨ad536, e536, hx536_0⟩ := Kd.at_int (Kd.R_reads' HO_6.out).2.2 (Go.bits .or .i64 x8_3 (ji10)) p536 q536
          cases e536
          replace p536 := eq_true p536
          replace q536 := eq_true q536
          go_wp2
          repeat (go_quiet (fail); try go_wp2)
          go_roundg k4
          case measure => have := HK1.out; have := HK2.out; have := HK3.out; have := HK4.out; omega
          case rel => exact ⟨(x10_4), (wrap64 (x11_4 + 1)), rfl, rfl, H', ⟨by have := HK1.out; have := HK2.out; have := HK3.out; have := HK4.out; omega⟩, HO_6, ⟨hO HB⟩⟩
         rw [if_pos c21] at H
         have c21b0 := decide_eq_true c21
         clear c21
         have H' := Aside0.mk H
         clear H
         have p534 : 0 ≤ (t532 : Int) := of_decide_eq_true (by assumption)
         have q534 : t532 < (l0.length : Int) := of_decide_eq_true (by assumption)
         obtain ⟨ad534, A534_0, c534_0, e534, hx534_0, hl534_0, hi534_0⟩ := at_L2 HR0.out t532 p534 q534
         cases e534
         replace hx534_0 := mHx HB hx534_0
         have HR534_0 := Aside0.mk hi534_0
         have HC534_0 := Aside0.mk hl534_0
         clear hi534_0 hl534_0
         replace p534 := eq_true p534
         replace q534 := eq_true q534
         have p535 : 0 ≤ (x11_4 : Int) := of_decide_eq_true (by assumption)
         have q535 : x11_4 < ((rd_L2 l0 t532).length : Int) := of_decide_eq_true (by assumption)
         obtain ⟨ad535, e535, hx535_0⟩ := Kd.at_int HR534_0.out x11_4 p535 q535
         cases e535
         replace hx535_0 := mHx HB hx535_0
         replace p535 := eq_true p535
         replace q535 := eq_true q535
         obtain ⟨Ao22, co22, eo22⟩ := Kd.R_slice HO_6.out
         subst eo22
         have p536 : 0 ≤ ((Go.bits .or .i64 x8_3 (ji10)) : Int) := of_decide_eq_true (by assumption)
         have q536 : (Go.bits .or .i64 x8_3 (ji10)) < (x6_3.length : Int) := of_decide_eq_true (by assumption)
         obtain ⟨ad536, e536, hx536_0⟩ := Kd.at_int (Kd.R_reads' HO_6.out).2.2 (Go.bits .or .i64 x8_3 (ji10)) p536 q536
         cases e536
         replace p536 := eq_true p536
         replace q536 := eq_true q536
         go_wp2
         repeat (go_quiet (fail); try go_wp2)
         go_roundg k4
         case measure => have := HK1.out; have := HK2.out; have := HK3.out; have := HK4.out; omega
         case rel => exact ⟨(wrap64 ((rd (rd_L2 l0 t532) x11_4) + (rd x6_3 (Go.bits .or .i64 x8_3 (ji10))))), (wrap64 (x11_4 + 1)), (by first | rfl | (simp; done) | (simp only [← hji10] <;> (first | rfl | simp)) | (simp [*]; done)), rfl, H', ⟨by have := HK1.out; have := HK2.out; have := HK3.out; have := HK4.out; omega⟩, HO_6, ⟨hO HB⟩⟩
end Go.Proofs.YtaggccbndmmbhaaDoor.PAll
