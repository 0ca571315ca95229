/- Texts of the proof, laid end to end. -/
import Derived.Test.YtjppjppapdflmaaRMi
import Derived.Test.YtjppjppapdflmaaPAllx0
import Derived.Test.YtjppjppapdflmaaPAllx1
import Derived.Test.YtjppjppapdflmaaPAllf55
import Derived.Test.YtjppjppapdflmaaRPg
import Derived.Test.YtjppjppapdflmaaRPl
namespace Go.Proofs.Ytjppjppapdflmaa.PAll
open Go.RowKit Go.Proofs.YtjppjppapdflmaaW.PrintWords Go.Proofs.YtjppjppapdflmaaW.PrintLast Go.Proofs.YtjppjppapdflmaaW.PrintMore
attribute [local go_sem] max2_int min2_int max_two min_two max_three min_three max_four min_four   -- for this text's walks alone
set_option linter.unusedVariables false
set_option linter.unusedSimpArgs false
attribute [local go_sem high] eqA48
def rehearse_Task_until.f (k : Nat) (l0_0 : List (S53)) (l0_1 : List (S55)) (l0_2 : List (S59)) (a0_3 : Int) (a1 : Int) : Option (List Int × Bool) := (rehearse_Task_until_fn2.f k ([] : List Int) l0_0 l0_1 l0_2 a0_3 a1).bind fun bt280 => (some (bt280.1, bt280.2))
theorem rehearse_Task_until.run_store_func {P : Program} {w : World} {a : Addr} {m : Mode} (fn : Fn) (first cap : Array Value) : (store a (.func fn first cap) m).run P w = stored P w a (.func fn first cap) m := run_store P w a _ m rfl
attribute [local go_sem] rehearse_Task_until.run_store_func
set_option maxHeartbeats 8000000 in
set_option maxRecDepth 100000 in
theorem rehearse_Task_until.calls (k : Nat) (A0_0 : Option Addr) (c0_0 : Nat) (l0_0 : List (S53)) (A0_1 : Option Addr) (c0_1 : Nat) (l0_1 : List (S55)) (A0_2 : Option Addr) (c0_2 : Nat) (l0_2 : List (S59)) (a0_3 : Int) (a1 : Int) (r1 : List Int) (r2 : Bool) (w : World) (hr0_0 : Kd.C k53 w A0_0 l0_0.length l0_0) (hc0_0 : l0_0.length ≤ c0_0) (hr0_1 : Kd.C k55 w A0_1 l0_1.length l0_1) (hc0_1 : l0_1.length ≤ c0_1) (hr0_2 : Kd.C k59 w A0_2 l0_2.length l0_2) (hc0_2 : l0_2.length ≤ c0_2) (h : rehearse_Task_until.f k l0_0 l0_1 l0_2 a0_3 a1 = some (r1, r2)) :
  Calls Try.prog 41 #[.agg #[.slice A0_0 l0_0.length c0_0, .slice A0_1 l0_1.length c0_1, .slice A0_2 l0_2.length c0_2, .int .i64 a0_3], .int .i64 a1] w fun e w' => ∃ v0_ : Value, e = .returned (.tuple #[v0_, .bool r2]) ∧ Kd.R (Kd.int .i64) 3 w' w.heap.size (fun _ => True) v0_ r1 ∧ Below w.heap.size w w' := by
 have hu30 := Try.underlying30
 have HR0_0 := Aside0.mk hr0_0
 have HC0_0 := Aside0.mk hc0_0
 clear hr0_0 hc0_0
 have HR0_1 := Aside0.mk hr0_1
 have HC0_1 := Aside0.mk hc0_1
 clear hr0_1 hc0_1
 have HR0_2 := Aside0.mk hr0_2
 have HC0_2 := Aside0.mk hc0_2
 clear hr0_2 hc0_2
 have HB := Aside0.mk (Below.refl w.heap.size w)
 have H := h
 unfold rehearse_Task_until.f at H
 clear h
 replace H := Option.bind_eq_some_iff.mp H
 obtain ⟨⟨t280, t283⟩, A30, H⟩ := H
 try dsimp only at H
 have A3 := Aside0.mk A30
 clear A30
 simp only [Option.some.injEq, Prod.mk.injEq] at H
 obtain ⟨rfl, rfl⟩ := H
 have hmf : ∀ (fn : Fn) (first cap : Array Value) (w : World), (Instr.makeFunc fn first cap).run Try.prog w = .ok (.func fn first cap) w := fun _ _ _ _ => rfl
 go_enter Try.func41, Try.ntmps41
 go_wp2_with (first | ((with_reducible refine gate_dst (N := 2) rfl ?_); refine box_event rfl (N := 2) rfl (cs := #[.slice A0_0 l0_0.length c0_0, .slice A0_1 l0_1.length c0_1, .slice A0_2 l0_2.length c0_2, .int .i64 a0_3]) (t := 30) (by first | (go_simp; done) | (go_simp; rfl)) ?_; intro gb1 hg w4 hbox hb; have BK1 := Aside0.mk hbox; have GW1 := Aside0.mk ((by rw [hg]; exact (below_size (hO HB)) : w.heap.size ≤ gb1)); have GE1 := GW1; replace HB := mSx HB hb; clear hb hbox hg) | ((with_reducible refine gate_dst (N := 3) rfl ?_); refine box_event rfl (N := 3) rfl (cs := #[.int .i64 a1]) (t := 3) (by first | (go_simp; done) | (go_simp; rfl)) ?_; intro gb2 hg w5 hbox hb; have BK2 := Aside0.mk hbox; have GW2 := Aside0.mk ((by rw [hg]; exact (below_size (hO HB)) : w.heap.size ≤ gb2)); have GE2 := GW2; replace HB := mSx HB hb; have NB1_2 := mNe BK1 hg; have NB2_1 := mSy NB1_2; replace BK1 := mBb BK1 hb; clear hb hbox hg) | ((with_reducible refine gate_dst (N := 6) rfl ?_); refine box_event rfl (N := 6) rfl (cs := #[.slice none 0 0]) (t := 51) (by first | (go_simp; done) | (go_simp; rfl)) ?_; intro gb3 hg w6 hbox hb; have BK3 := Aside0.mk hbox; have GW3 := Aside0.mk ((by rw [hg]; exact (below_size (hO HB)) : w.heap.size ≤ gb3)); have GE3 := GW3; replace HB := mSx HB hb; have NB1_3 := mNe BK1 hg; have NB3_1 := mSy NB1_3; replace BK1 := mBb BK1 hb; have NB2_3 := mNe BK2 hg; have NB3_2 := mSy NB2_3; replace BK2 := mBb BK2 hb; clear hb hbox hg) | ((with_reducible refine gate_dst (N := 7) rfl ?_); refine box_event rfl (N := 7) rfl (cs := #[.nilFunc]) (t := 76) (by first | (go_simp; done) | (go_simp; rfl)) ?_; intro gb4 hg w7 hbox hb; have BK4 := Aside0.mk hbox; have GW4 := Aside0.mk ((by rw [hg]; exact (below_size (hO HB)) : w.heap.size ≤ gb4)); have GE4 := GW4; replace HB := mSx HB hb; have NB1_4 := mNe BK1 hg; have NB4_1 := mSy NB1_4; replace BK1 := mBb BK1 hb; have NB2_4 := mNe BK2 hg; have NB4_2 := mSy NB2_4; replace BK2 := mBb BK2 hb; have NB3_4 := mNe BK3 hg; have NB4_3 := mSy NB3_4; replace BK3 := mBb BK3 hb; clear hb hbox hg; have hnb8 := NB4_1.out; have hnc8 := NB1_4.out; have hnb9 := NB4_2.out; have hnc9 := NB2_4.out; have hnb10 := NB4_3.out; have hnc10 := NB3_4.out; have hcz11 := blk_cell BK4.out; have hfz11 := blk_frozen BK4.out) | ((with_reducible refine gate_dst (N := 8) rfl ?_); refine box_event rfl (N := 8) rfl (cs := #[.nilFunc]) (t := 35) (by first | (go_simp; done) | (go_simp; rfl)) ?_; intro gb5 hg w12 hbox hb; have BK5 := Aside0.mk hbox; have GW5 := Aside0.mk ((by rw [hg]; exact (below_size (hO HB)) : w.heap.size ≤ gb5)); have GE5 := GW5; replace HB := mSx HB hb; have NB1_5 := Aside0.mk ((by rw [hg]; exact Nat.ne_of_lt (blk_lt (g := gb1) (o := .cells #[.slice A0_0 l0_0.length c0_0, .slice A0_1 l0_1.length c0_1, .slice A0_2 l0_2.length c0_2, .int .i64 a0_3] 30 (0, 0)) (by refine blk_far ?_ NB1_4.out _; exact BK1.out)) : gb1 ≠ gb5)); have NB5_1 := mSy NB1_5; replace BK1 := Aside0.mk (blk_below (g := gb1) (o := .cells #[.slice A0_0 l0_0.length c0_0, .slice A0_1 l0_1.length c0_1, .slice A0_2 l0_2.length c0_2, .int .i64 a0_3] 30 (0, 0)) (by refine blk_far ?_ NB1_4.out _; exact BK1.out) hb); have NB2_5 := Aside0.mk ((by rw [hg]; exact Nat.ne_of_lt (blk_lt (g := gb2) (o := .cells #[.int .i64 a1] 3 (0, 0)) (by refine blk_far ?_ NB2_4.out _; exact BK2.out)) : gb2 ≠ gb5)); have NB5_2 := mSy NB2_5; replace BK2 := Aside0.mk (blk_below (g := gb2) (o := .cells #[.int .i64 a1] 3 (0, 0)) (by refine blk_far ?_ NB2_4.out _; exact BK2.out) hb); have NB3_5 := Aside0.mk ((by rw [hg]; exact Nat.ne_of_lt (blk_lt (g := gb3) (o := .cells #[.slice none 0 0] 51 (0, 0)) (by refine blk_far ?_ NB3_4.out _; exact BK3.out)) : gb3 ≠ gb5)); have NB5_3 := mSy NB3_5; replace BK3 := Aside0.mk (blk_below (g := gb3) (o := .cells #[.slice none 0 0] 51 (0, 0)) (by refine blk_far ?_ NB3_4.out _; exact BK3.out) hb); have NB4_5 := Aside0.mk ((by rw [hg]; exact Nat.ne_of_lt (blk_lt (g := gb4) (o := .cells #[.func (.func 53) #[] #[.pointer (some ⟨gb1, 0, none⟩), .pointer (some ⟨gb2, 0, none⟩), .pointer (some ⟨gb3, 0, none⟩)]] 76 (0, 0)) (by refine blk_put (cs := #[.nilFunc]) ?_ 0 _ rfl; exact BK4.out)) : gb4 ≠ gb5)); have NB5_4 := mSy NB4_5; replace BK4 := Aside0.mk (blk_below (g := gb4) (o := .cells #[.func (.func 53) #[] #[.pointer (some ⟨gb1, 0, none⟩), .pointer (some ⟨gb2, 0, none⟩), .pointer (some ⟨gb3, 0, none⟩)]] 76 (0, 0)) (by refine blk_put (cs := #[.nilFunc]) ?_ 0 _ rfl; exact BK4.out) hb); clear hb hbox hg; have hnb13 := NB5_1.out; have hnc13 := NB1_5.out; have hnb14 := NB5_2.out; have hnc14 := NB2_5.out; have hnb15 := NB5_3.out; have hnc15 := NB3_5.out; have hnb16 := NB5_4.out; have hnc16 := NB4_5.out; have hcz17 := blk_cell BK5.out; have hfz17 := blk_frozen BK5.out) | ((with_reducible refine gate_store (t := 35) (p := 8) rfl ?_); refine store_event (t := 35) (p := 8) (v := ?vo_w18) (w1 := (w12.setCell ⟨gb5, 0, none⟩ (.func (.func 55) #[] #[.pointer (some ⟨gb3, 0, none⟩), .pointer (some ⟨gb1, 0, none⟩), .pointer (some ⟨gb2, 0, none⟩), .pointer (some ⟨gb4, 0, none⟩), .pointer (some ⟨gb5, 0, none⟩)]))) ?hg ?ho ?hn ?hr ?_; (case ho => rfl); (case hg => rfl); (case hn => rfl); (case hr => first | (go_simp; done) | (go_simp; rfl)); intro w18 hw; have n0_ : Aside0 (w18.heap[gb1]? = some (.cells #[.slice A0_0 l0_0.length c0_0, .slice A0_1 l0_1.length c0_1, .slice A0_2 l0_2.length c0_2, .int .i64 a0_3] 30 (0, 0))) := ⟨(by rw [hw]; exact (by refine blk_far ?_ NB1_5.out _; exact BK1.out))⟩; have n1_ : Aside0 (w18.heap[gb2]? = some (.cells #[.int .i64 a1] 3 (0, 0))) := ⟨(by rw [hw]; exact (by refine blk_far ?_ NB2_5.out _; exact BK2.out))⟩; have n2_ : Aside0 (w18.heap[gb3]? = some (.cells #[.slice none 0 0] 51 (0, 0))) := ⟨(by rw [hw]; exact (by refine blk_far ?_ NB3_5.out _; exact BK3.out))⟩; have n3_ : Aside0 (w18.heap[gb4]? = some (.cells #[.func (.func 53) #[] #[.pointer (some ⟨gb1, 0, none⟩), .pointer (some ⟨gb2, 0, none⟩), .pointer (some ⟨gb3, 0, none⟩)]] 76 (0, 0))) := ⟨(by rw [hw]; exact (by refine blk_far ?_ NB4_5.out _; exact BK4.out))⟩; have n4_ : Aside0 (w18.heap[gb5]? = some (.cells #[.func (.func 55) #[] #[.pointer (some ⟨gb3, 0, none⟩), .pointer (some ⟨gb1, 0, none⟩), .pointer (some ⟨gb2, 0, none⟩), .pointer (some ⟨gb4, 0, none⟩), .pointer (some ⟨gb5, 0, none⟩)]] 35 (0, 0))) := ⟨(by rw [hw]; exact (by refine blk_put (cs := #[.nilFunc]) ?_ 0 _ rfl; exact BK5.out))⟩; have n5_ : Aside0 (Below w.heap.size w w18) := ⟨(by rw [hw]; exact (hO HB))⟩; clear hw; clear BK1; clear BK2; clear BK3; clear BK4; clear BK5; clear HB; have BK1 := n0_; have BK2 := n1_; have BK3 := n2_; have BK4 := n3_; have BK5 := n4_; have HB := n5_; clear n0_ n1_ n2_ n3_ n4_ n5_; have hcz19 := blk_cell BK5.out; have hfz19 := blk_frozen BK5.out; have hnb20 := NB3_1.out; have hnc20 := NB1_3.out; have hnb21 := NB3_2.out; have hnc21 := NB2_3.out; have hcz22 := blk_cell BK3.out; have hfz22 := blk_frozen BK3.out; have hnb23 := NB1_2.out; have hnc23 := NB2_1.out; have hcz24 := blk_cell BK1.out; have hfz24 := blk_frozen BK1.out; have hcz25 := blk_cell BK2.out; have hfz25 := blk_frozen BK2.out) | (go_at_call 55; (refine (rehearse_Task_until_fn2.calls k (fun k_ => some k_ = (.slice none 0 0 : Value).ownBlock ∨ k_ = gb3) (.slice none 0 0) ([] : List Int) A0_0 c0_0 l0_0 A0_1 c0_1 l0_1 A0_2 c0_2 l0_2 a0_3 a1 t280 t283 w _ ?side1 ?side2 ?side3 ?side4 ?side5 ?side6 ?side7 ?side8 gb3 ?sb0 gb1 ?sb1 gb2 ?sb2 gb4 ?sb3 gb5 ?sb4 GW3.out (.inr rfl) ?sne ?snp ?snf A3.out).mono ?_); (case sb0 => exact BK3.out); (case sb1 => exact BK1.out); (case sb2 => exact BK2.out); (case sb3 => exact BK4.out); (case sb4 => exact BK5.out); (case sne => exact fun h_ => h_.elim (fun e_ => by simp [Value.ownBlock] at e_) NB2_3.out); (case snp => exact fun h_ => h_.elim (fun e_ => by simp [Value.ownBlock] at e_) NB4_3.out); (case snf => exact fun h_ => h_.elim (fun e_ => by simp [Value.ownBlock] at e_) NB5_3.out); (case side1 => repeat (first | (with_reducible first | exact HB.out | apply below_alloc | apply pw_below_drewN | apply below_drew1 | refine below_set ?_ GE1.out | refine below_set ?_ GE2.out | refine below_set ?_ GE3.out | refine below_set ?_ GE4.out | refine below_set ?_ GE5.out) | exact HB.out)); (case side2 => exact Kd.R_nil _ _ _ _ _); (case side3 => exact Kd.C_kept_came k53_heap HR0_0.out (hO HB) (fun k_ hs_ => hs_.elim (fun e_ => by simp [Value.ownBlock] at e_) (fun e_ => by rw [e_]; exact GW3.out))); (case side4 => exact HC0_0.out); (case side5 => exact Kd.C_kept_came k55_heap HR0_1.out (hO HB) (fun k_ hs_ => hs_.elim (fun e_ => by simp [Value.ownBlock] at e_) (fun e_ => by rw [e_]; exact GW3.out))); (case side6 => exact HC0_1.out); (case side7 => exact Kd.C_kept_came k59_heap HR0_2.out (hO HB) (fun k_ hs_ => hs_.elim (fun e_ => by simp [Value.ownBlock] at e_) (fun e_ => by rw [e_]; exact GW3.out))); (case side8 => exact HC0_2.out); rintro e wq_ hx_; obtain ⟨v281, w26, ⟨rfl, rfl⟩, ho0, hb, hkp⟩ := out_view hx_ BK3.out GW3.out (by decide); replace BK1 := Aside0.mk (blk_kept BK1.out hkp (fun hs_ => (fun e_ => by simp [Value.ownBlock] at e_) hs_)); replace BK2 := Aside0.mk (blk_kept BK2.out hkp (fun hs_ => (fun e_ => by simp [Value.ownBlock] at e_) hs_)); replace BK3 := Aside0.mk (blk_kept BK3.out hkp (fun hs_ => (fun e_ => by simp [Value.ownBlock] at e_) hs_)); replace BK4 := Aside0.mk (blk_kept BK4.out hkp (fun hs_ => (fun e_ => by simp [Value.ownBlock] at e_) hs_)); replace BK5 := Aside0.mk (blk_kept BK5.out hkp (fun hs_ => (fun e_ => by simp [Value.ownBlock] at e_) hs_)); have HO282 := Aside0.mk (Kd.R_mono (ok' := fun k_ => True) ho0 (fun k_ hk_ => trivial)); replace HB := Aside0.mk hb; (try clear hb); (try clear hkp); (try clear ho0); obtain ⟨Ao27, co27, eo27⟩ := Kd.R_slice HO282.out; subst eo27; have hcz28 := blk_cell BK3.out; have hfz28 := blk_frozen BK3.out))
 go_ret2
 exact ⟨_, rfl, by exact Kd.R_mono (Kd.R_far (p := ⟨gb3, 0, none⟩) (Kd.R_types HO282.out BK3.out (by decide)) (fun _ hk => hk.2) (.slice Ao27 t280.length co27)) (fun _ hk => trivial), hO HB⟩
mutual
def rehearse_Plan.l0 : Nat → Int → List (S53) → List (S55) → List (S59) → Int → Option ((List (S48)) × Int)
 | 0, _, _, _, _, _ => none
 | k + 1, x5, x285000, x285001, x285002, x285003 => if x5 ≤ x285003 then ((rehearse_Task_crowded.f k x285000 x285001 x285002 x285003 x5).bind fun t287 => (if t287 = true then (rehearse_Plan.l0 k (wrap64 (x5 + 1)) x285000 x285001 x285002 x285003) else ((rehearse_Task_until.f k x285000 x285001 x285002 x285003 x5).bind fun bt288 => (if bt288.2 = true then ((rehearse_Task_rooms.f k x285000 x285001 x285002 x285003 bt288.1).bind fun bt292 => (rehearse_Plan.l1 k bt292.1 ([] : List (S48)) bt288.1 (bt288.1.length : Int) 0)) else (rehearse_Plan.l0 k (wrap64 (x5 + 1)) x285000 x285001 x285002 x285003))))) else (some (([] : List (S48)), 42))
def rehearse_Plan.l1 : Nat → List Int → List (S48) → List Int → Int → Int → Option ((List (S48)) × Int)
 | 0, _, _, _, _, _ => none
 | k + 1, x8, x10, x43, x44, x45 => if x45 < x44 then (if 0 ≤ x45 then (if x45 < (x43.length : Int) then (if x45 < (x8.length : Int) then (if x10.length < 5864062014805 then (rehearse_Plan.l1 k x8 (x10 ++ [(⟨x45, rd x8 x45, rd x43 x45⟩ : S48)]) x43 x44 (wrap64 (x45 + 1))) else (none)) else (none)) else (none)) else (none)) else (some (x10, 0))
end
def rehearse_Plan.f (k : Nat) (l0_0 : List (S53)) (l0_1 : List (S55)) (l0_2 : List (S59)) (a0_3 : Int) : Option ((List (S48)) × Int) := (rehearse_Check.f k l0_0 l0_1 l0_2 a0_3).bind fun t285 => (if t285 = 0 then ((rehearse_Task_least.f k l0_0 l0_1 l0_2 a0_3).bind fun t286 => (rehearse_Plan.l0 k t286 l0_0 l0_1 l0_2 a0_3)) else (some (([] : List (S48)), t285)))
set_option maxHeartbeats 8000000 in
set_option maxRecDepth 100000 in
theorem rehearse_Plan.calls (k : Nat) (A0_0 : Option Addr) (c0_0 : Nat) (l0_0 : List (S53)) (A0_1 : Option Addr) (c0_1 : Nat) (l0_1 : List (S55)) (A0_2 : Option Addr) (c0_2 : Nat) (l0_2 : List (S59)) (a0_3 : Int) (r1 : List (S48)) (r2 : Int) (w : World) (hr0_0 : Kd.C k53 w A0_0 l0_0.length l0_0) (hc0_0 : l0_0.length ≤ c0_0) (hr0_1 : Kd.C k55 w A0_1 l0_1.length l0_1) (hc0_1 : l0_1.length ≤ c0_1) (hr0_2 : Kd.C k59 w A0_2 l0_2.length l0_2) (hc0_2 : l0_2.length ≤ c0_2) (hmx : Mx w) (h : rehearse_Plan.f k l0_0 l0_1 l0_2 a0_3 = some (r1, r2)) :
  Calls Try.prog 21 #[.agg #[.slice A0_0 l0_0.length c0_0, .slice A0_1 l0_1.length c0_1, .slice A0_2 l0_2.length c0_2, .int .i64 a0_3]] w fun e w' => ∃ v0_ : Value, e = .returned (.tuple #[v0_, .int .i64 r2]) ∧ Kd.R k48 48 w' w.heap.size (fun _ => True) v0_ r1 ∧ Below w.heap.size w w' := by
 have HMX_ := Aside0.mk hmx
 clear hmx
 have hu30 := Try.underlying30
 have hu48 := Try.underlying48
 have HR0_0 := Aside0.mk hr0_0
 have HC0_0 := Aside0.mk hc0_0
 clear hr0_0 hc0_0
 have HR0_1 := Aside0.mk hr0_1
 have HC0_1 := Aside0.mk hc0_1
 clear hr0_1 hc0_1
 have HR0_2 := Aside0.mk hr0_2
 have HC0_2 := Aside0.mk hc0_2
 clear hr0_2 hc0_2
 have HB := Aside0.mk (Below.refl w.heap.size w)
 have H := h
 unfold rehearse_Plan.f at H
 clear h
 replace H := Option.bind_eq_some_iff.mp H
 obtain ⟨t285, A20, H⟩ := H
 try dsimp only at H
 have A2 := Aside0.mk A20
 clear A20
 by_cases c3 : t285 = 0
 rotate_left
 ·
  rw [if_neg c3] at H
  have c3b0 := beq_eq_false_iff_ne.mpr c3
  have c3b1 := bne_iff_ne.mpr c3
  simp only [Option.some.injEq, Prod.mk.injEq] at H
  obtain ⟨rfl, rfl⟩ := H
  go_enter Try.func21, Try.ntmps21
  go_wp2_with (first | ((with_reducible refine gate_dst (N := 1) rfl ?_); refine box_event rfl (N := 1) rfl (cs := #[.slice A0_0 l0_0.length c0_0, .slice A0_1 l0_1.length c0_1, .slice A0_2 l0_2.length c0_2, .int .i64 a0_3]) (t := 30) (by first | (go_simp; done) | (go_simp; rfl)) ?_; intro gb1 hg w37 hbox hb; have BK1 := Aside0.mk hbox; have GW1 := mGw HB hg; have GE1 := GW1; replace HB := mSt HB hb; clear hb hbox hg; have hcz38 := blk_cell BK1.out; have hfz38 := blk_frozen BK1.out) | ((with_reducible refine gate_callee (f := 13) rfl ?_); refine goesL_ (some 14) rfl rfl Try.func13 (by kernel_rfl) rfl #[.agg #[.slice A0_0 l0_0.length c0_0, .slice A0_1 l0_1.length c0_1, .slice A0_2 l0_2.length c0_2, .int .i64 a0_3]] rfl (mA1 rfl) ?_; (with_reducible refine (rehearse_Check.calls k _ _ l0_0 _ _ l0_1 _ _ l0_2 a0_3 t285 _ (Kd.C_below HR0_0.out HB.out) HC0_0.out (Kd.C_below HR0_1.out HB.out) HC0_1.out (Kd.C_below HR0_2.out HB.out) HC0_2.out (Mx.below HMX_.out HB.out) A2.out).mono ?_); rintro e w39 ⟨rfl, hb⟩; refine ⟨_, rfl, ?_⟩; replace BK1 := mBb BK1 hb; replace HB := mSt HB hb; (try clear hb)))
  go_ret2
  exact ⟨_, rfl, by first | exact Kd.R_nil _ _ _ _ _ | exact Kd.N_nil _ _ _ _ _ | exact Kd.V_nil _ _ _ _ _ | exact Kd.Q_nil _ _ _ _ _ | exact Kd.S_nil _ _ _ _ _, HB.out⟩
 rw [if_pos c3] at H
 have c3b0 := beq_iff_eq.mpr c3
 have c3b1 := bne_eq_false_iff_eq.mpr c3
 clear c3
 replace H := Option.bind_eq_some_iff.mp H
 obtain ⟨t286, A40, H⟩ := H
 try dsimp only at H
 have A4 := Aside0.mk A40
 clear A40
 have H' := Aside0.mk H
 clear H
 go_enter Try.func21, Try.ntmps21
 go_wp2_with (first | ((with_reducible refine gate_dst (N := 1) rfl ?_); refine box_event rfl (N := 1) rfl (cs := #[.slice A0_0 l0_0.length c0_0, .slice A0_1 l0_1.length c0_1, .slice A0_2 l0_2.length c0_2, .int .i64 a0_3]) (t := 30) (by first | (go_simp; done) | (go_simp; rfl)) ?_; intro gb1 hg w5 hbox hb; have BK1 := Aside0.mk hbox; have GW1 := mGw HB hg; have GE1 := GW1; replace HB := mSt HB hb; clear hb hbox hg; have hcz6 := blk_cell BK1.out; have hfz6 := blk_frozen BK1.out) | ((with_reducible refine gate_callee (f := 13) rfl ?_); refine goesL_ (some 14) rfl rfl Try.func13 (by kernel_rfl) rfl #[.agg #[.slice A0_0 l0_0.length c0_0, .slice A0_1 l0_1.length c0_1, .slice A0_2 l0_2.length c0_2, .int .i64 a0_3]] rfl (mA1 rfl) ?_; (with_reducible refine (rehearse_Check.calls k _ _ l0_0 _ _ l0_1 _ _ l0_2 a0_3 t285 _ (Kd.C_below HR0_0.out HB.out) HC0_0.out (Kd.C_below HR0_1.out HB.out) HC0_1.out (Kd.C_below HR0_2.out HB.out) HC0_2.out (Mx.below HMX_.out HB.out) A2.out).mono ?_); rintro e w7 ⟨rfl, hb⟩; refine ⟨_, rfl, ?_⟩; replace BK1 := mBb BK1 hb; replace HB := mSt HB hb; (try clear hb); have hcz8 := blk_cell BK1.out; have hfz8 := blk_frozen BK1.out) | ((with_reducible refine gate_callee (f := 26) rfl ?_); refine goesL_ (some 19) rfl rfl Try.func26 (by kernel_rfl) rfl #[.agg #[.slice A0_0 l0_0.length c0_0, .slice A0_1 l0_1.length c0_1, .slice A0_2 l0_2.length c0_2, .int .i64 a0_3]] rfl (mA1 rfl) ?_; (with_reducible refine (rehearse_Task_least.calls k _ _ l0_0 _ _ l0_1 _ _ l0_2 a0_3 t286 _ (Kd.C_below HR0_0.out HB.out) HC0_0.out (Kd.C_below HR0_1.out HB.out) HC0_1.out (Kd.C_below HR0_2.out HB.out) HC0_2.out A4.out).mono ?_); rintro e w9 ⟨rfl, hb⟩; refine ⟨_, rfl, ?_⟩; replace BK1 := mBb BK1 hb; replace HB := mSt HB hb; (try clear hb)))
 go_loopg [5] k (fun kq v5 w' => ∃ (x5_1 : Int), v5 = .int .i64 x5_1 ∧ Aside0 (rehearse_Plan.l0 kq x5_1 l0_0 l0_1 l0_2 a0_3 = some (r1, r2)) ∧ Aside0 (kq ≤ k) ∧ Aside0 (w'.heap[gb1]? = some (.cells #[(.slice A0_0 l0_0.length c0_0), (.slice A0_1 l0_1.length c0_1), (.slice A0_2 l0_2.length c0_2), .int .i64 a0_3] 30 (0, 0))) ∧ Aside0 (Below w.heap.size w w'))
 case atStart => exact ⟨(t286), rfl, H', ⟨Nat.le_refl _⟩, ⟨BK1.out⟩, ⟨HB.out⟩⟩
 case round =>
  clear H'
  clear c3b0 c3b1
  obtain ⟨x5_1, rfl, HA, HK1, BK1, HB⟩ := hrel
  cases gk with
  | zero => exact absurd HA.out (by simp [rehearse_Plan.l0])
  | succ k1 =>
   have H := HA.out
   clear HA
   simp only [rehearse_Plan.l0] at H
   by_cases c10 : x5_1 ≤ a0_3
   rotate_left
   ·
    rw [if_neg c10] at H
    have c10b0 := decide_eq_false c10
    clear c10
    simp only [Option.some.injEq, Prod.mk.injEq] at H
    obtain ⟨rfl, rfl⟩ := H
    have hcz36 := blk_cell BK1.out; have hfz36 := blk_frozen BK1.out
    go_wp2
    go_ret2
    exact ⟨_, rfl, by first | exact Kd.R_nil _ _ _ _ _ | exact Kd.N_nil _ _ _ _ _ | exact Kd.V_nil _ _ _ _ _ | exact Kd.Q_nil _ _ _ _ _ | exact Kd.S_nil _ _ _ _ _, HB.out⟩
   rw [if_pos c10] at H
   have c10b0 := decide_eq_true c10
   clear c10
   replace H := Option.bind_eq_some_iff.mp H
   obtain ⟨t287, A110, H⟩ := H
   try dsimp only at H
   have A11 := Aside0.mk A110
   clear A110
   by_cases c12 : t287 = true
   ·
    subst c12
    rw [if_pos rfl] at H
    have H' := Aside0.mk H
    clear H
    have hcz13 := blk_cell BK1.out; have hfz13 := blk_frozen BK1.out
    go_wp2_with (first | ((with_reducible refine gate_callee (f := 40) rfl ?_); refine goesL_ (some 28) rfl rfl Try.func40 (by kernel_rfl) rfl #[.agg #[.slice A0_0 l0_0.length c0_0, .slice A0_1 l0_1.length c0_1, .slice A0_2 l0_2.length c0_2, .int .i64 a0_3], .int .i64 x5_1] rfl (mA2 rfl rfl) ?_; (with_reducible refine (rehearse_Task_crowded.calls k1 _ _ l0_0 _ _ l0_1 _ _ l0_2 a0_3 x5_1 true _ (Kd.C_below HR0_0.out HB.out) HC0_0.out (Kd.C_below HR0_1.out HB.out) HC0_1.out (Kd.C_below HR0_2.out HB.out) HC0_2.out A11.out).mono ?_); rintro e w14 ⟨rfl, hb⟩; refine ⟨_, rfl, ?_⟩; replace BK1 := mBb BK1 hb; replace HB := mSt HB hb; (try clear hb)))
    go_roundg k1
    case measure => have := HK1.out; omega
    case rel => exact ⟨(wrap64 (x5_1 + 1)), rfl, H', ⟨by have := HK1.out; omega⟩, ⟨BK1.out⟩, ⟨HB.out⟩⟩
   replace c12 := Bool.eq_false_iff.mpr c12
   subst c12
   rw [if_neg (show ¬ (false = true) by decide)] at H
   replace H := Option.bind_eq_some_iff.mp H
   obtain ⟨⟨t288, t291⟩, A150, H⟩ := H
   try dsimp only at H
   have A15 := Aside0.mk A150
   clear A150
   by_cases c16 : t291 = true
   rotate_left
   ·
    replace c16 := Bool.eq_false_iff.mpr c16
    subst c16
    rw [if_neg (show ¬ (false = true) by decide)] at H
    have H' := Aside0.mk H
    clear H
    have hcz32 := blk_cell BK1.out; have hfz32 := blk_frozen BK1.out
    go_wp2_with (first | ((with_reducible refine gate_callee (f := 40) rfl ?_); refine goesL_ (some 28) rfl rfl Try.func40 (by kernel_rfl) rfl #[.agg #[.slice A0_0 l0_0.length c0_0, .slice A0_1 l0_1.length c0_1, .slice A0_2 l0_2.length c0_2, .int .i64 a0_3], .int .i64 x5_1] rfl (mA2 rfl rfl) ?_; (with_reducible refine (rehearse_Task_crowded.calls k1 _ _ l0_0 _ _ l0_1 _ _ l0_2 a0_3 x5_1 false _ (Kd.C_below HR0_0.out HB.out) HC0_0.out (Kd.C_below HR0_1.out HB.out) HC0_1.out (Kd.C_below HR0_2.out HB.out) HC0_2.out A11.out).mono ?_); rintro e w33 ⟨rfl, hb⟩; refine ⟨_, rfl, ?_⟩; replace BK1 := mBb BK1 hb; replace HB := mSt HB hb; (try clear hb); have hcz34 := blk_cell BK1.out; have hfz34 := blk_frozen BK1.out) | ((with_reducible refine gate_callee (f := 41) rfl ?_); refine goesL_ (some 32) rfl rfl Try.func41 (by kernel_rfl) rfl #[.agg #[.slice A0_0 l0_0.length c0_0, .slice A0_1 l0_1.length c0_1, .slice A0_2 l0_2.length c0_2, .int .i64 a0_3], .int .i64 x5_1] rfl (mA2 rfl rfl) ?_; (with_reducible refine (rehearse_Task_until.calls k1 _ _ l0_0 _ _ l0_1 _ _ l0_2 a0_3 x5_1 t288 false _ (Kd.C_below HR0_0.out HB.out) HC0_0.out (Kd.C_below HR0_1.out HB.out) HC0_1.out (Kd.C_below HR0_2.out HB.out) HC0_2.out A15.out).mono ?_); rintro e w35 ⟨v289, rfl, ho0, hb⟩; refine ⟨_, rfl, ?_⟩; have HO290 := Aside0.mk (Kd.R_lower ho0 (below_size HB.out)); replace BK1 := mBb BK1 hb; replace HB := mSt HB hb; (try clear hb); (try clear ho0)))
    go_roundg k1
    case measure => have := HK1.out; omega
    case rel => exact ⟨(wrap64 (x5_1 + 1)), rfl, H', ⟨by have := HK1.out; omega⟩, ⟨BK1.out⟩, ⟨HB.out⟩⟩
   subst c16
   rw [if_pos rfl] at H
   replace H := Option.bind_eq_some_iff.mp H
   obtain ⟨⟨t292, t295⟩, A170, H⟩ := H
   try dsimp only at H
   have A17 := Aside0.mk A170
   clear A170
   have H' := Aside0.mk H
   clear H
   have hcz18 := blk_cell BK1.out; have hfz18 := blk_frozen BK1.out
   go_wp2_with (first | ((with_reducible refine gate_callee (f := 40) rfl ?_); refine goesL_ (some 28) rfl rfl Try.func40 (by kernel_rfl) rfl #[.agg #[.slice A0_0 l0_0.length c0_0, .slice A0_1 l0_1.length c0_1, .slice A0_2 l0_2.length c0_2, .int .i64 a0_3], .int .i64 x5_1] rfl (mA2 rfl rfl) ?_; (with_reducible refine (rehearse_Task_crowded.calls k1 _ _ l0_0 _ _ l0_1 _ _ l0_2 a0_3 x5_1 false _ (Kd.C_below HR0_0.out HB.out) HC0_0.out (Kd.C_below HR0_1.out HB.out) HC0_1.out (Kd.C_below HR0_2.out HB.out) HC0_2.out A11.out).mono ?_); rintro e w19 ⟨rfl, hb⟩; refine ⟨_, rfl, ?_⟩; replace BK1 := mBb BK1 hb; replace HB := mSt HB hb; (try clear hb); have hcz20 := blk_cell BK1.out; have hfz20 := blk_frozen BK1.out) | ((with_reducible refine gate_callee (f := 41) rfl ?_); refine goesL_ (some 32) rfl rfl Try.func41 (by kernel_rfl) rfl #[.agg #[.slice A0_0 l0_0.length c0_0, .slice A0_1 l0_1.length c0_1, .slice A0_2 l0_2.length c0_2, .int .i64 a0_3], .int .i64 x5_1] rfl (mA2 rfl rfl) ?_; (with_reducible refine (rehearse_Task_until.calls k1 _ _ l0_0 _ _ l0_1 _ _ l0_2 a0_3 x5_1 t288 true _ (Kd.C_below HR0_0.out HB.out) HC0_0.out (Kd.C_below HR0_1.out HB.out) HC0_1.out (Kd.C_below HR0_2.out HB.out) HC0_2.out A15.out).mono ?_); rintro e w21 ⟨v289, rfl, ho0, hb⟩; refine ⟨_, rfl, ?_⟩; have HO290 := Aside0.mk (Kd.R_lower ho0 (below_size HB.out)); replace BK1 := mBb BK1 hb; replace HB := mSt HB hb; (try clear hb); (try clear ho0); have hcz22 := blk_cell BK1.out; have hfz22 := blk_frozen BK1.out; obtain ⟨Ao23, co23, eo23⟩ := Kd.R_slice HO290.out; subst eo23) | ((with_reducible refine gate_callee (f := 42) rfl ?_); refine goesL_ (some 40) rfl rfl Try.func42 (by kernel_rfl) rfl #[.agg #[.slice A0_0 l0_0.length c0_0, .slice A0_1 l0_1.length c0_1, .slice A0_2 l0_2.length c0_2, .int .i64 a0_3], .slice Ao23 t288.length co23] rfl (mA2 rfl rfl) ?_; (with_reducible refine (rehearse_Task_rooms.calls k1 _ _ l0_0 _ _ l0_1 _ _ l0_2 a0_3 _ _ t288 t292 t295 _ (Kd.C_below HR0_0.out HB.out) HC0_0.out (Kd.C_below HR0_1.out HB.out) HC0_1.out (Kd.C_below HR0_2.out HB.out) HC0_2.out ((Kd.R_reads' HO290.out).2.2) ((Kd.R_reads' HO290.out).2.1) A17.out).mono ?_); rintro e w24 ⟨v293, rfl, ho0, hb⟩; refine ⟨_, rfl, ?_⟩; have HO294 := Aside0.mk (Kd.R_lower (Kd.R_new' ho0 (Kd.R_lt HO290.out)) (below_size HB.out)); replace HO290 := Aside0.mk (Kd.R_elder' HO290.out (Kd.R_base ho0) hb); replace BK1 := mBb BK1 hb; replace HB := mSt HB hb; (try clear hb); (try clear ho0)))
   go_loopg [10, 45] k1 (fun kq v10 v45 w' => ∃ (x10_2 : List (S48)) (x45_2 : Int), v45 = .int .i64 x45_2 ∧ Aside0 (rehearse_Plan.l1 kq t292 x10_2 t288 (t288.length : Int) x45_2 = some (r1, r2)) ∧ Aside0 (kq ≤ k1) ∧ Aside0 (Kd.R (Kd.int .i64) 3 w' w.heap.size (fun k_ => some k_ ≠ ((.slice Ao23 t288.length co23) : Value).ownBlock) v293 t292) ∧ Aside0 (Kd.R k48 48 w' w.heap.size (fun _ => True) v10 x10_2) ∧ Aside0 (Kd.R (Kd.int .i64) 3 w' w.heap.size (fun k_ => some k_ ≠ (v293 : Value).ownBlock) (.slice Ao23 t288.length co23) t288) ∧ Aside0 (w'.heap[gb1]? = some (.cells #[(.slice A0_0 l0_0.length c0_0), (.slice A0_1 l0_1.length c0_1), (.slice A0_2 l0_2.length c0_2), .int .i64 a0_3] 30 (0, 0))) ∧ Aside0 (Below w.heap.size w w'))
   case atStart => exact ⟨(([] : List (S48))), (0), rfl, H', ⟨Nat.le_refl _⟩, ⟨Kd.R_mono HO294.out (fun _ hk => hk.2)⟩, ⟨by first | exact Kd.R_nil _ _ _ _ _ | exact Kd.N_nil _ _ _ _ _ | exact Kd.V_nil _ _ _ _ _ | exact Kd.Q_nil _ _ _ _ _ | exact Kd.S_nil _ _ _ _ _⟩, ⟨Kd.R_mono HO290.out (fun _ hk => hk.2)⟩, ⟨BK1.out⟩, ⟨HB.out⟩⟩
   case round =>
    clear H'
    try clear c1; try clear c2; try clear p2; try clear c3; try clear c3b0; try clear c3b1; try clear c4; try clear p6; try clear c10; try clear c10b0; try clear c12; try clear c13; try clear c16; try clear c21; try clear hcz13_0; try clear hcz13_1; try clear hcz13_2; try clear hcz13_3; try clear hcz18_0; try clear hcz18_1; try clear hcz18_2; try clear hcz18_3; try clear hcz20_0; try clear hcz20_1; try clear hcz20_2; try clear hcz20_3; try clear hcz22_0; try clear hcz22_1; try clear hcz22_2; try clear hcz22_3; try clear hcz6_0; try clear hcz6_1; try clear hcz6_2; try clear hcz6_3; try clear hcz8_0; try clear hcz8_1; try clear hcz8_2; try clear hcz8_3; try clear hfz13_0; try clear hfz13_1; try clear hfz13_2; try clear hfz13_3; try clear hfz18_0; try clear hfz18_1; try clear hfz18_2; try clear hfz18_3; try clear hfz20_0; try clear hfz20_1; try clear hfz20_2; try clear hfz20_3; try clear hfz22_0; try clear hfz22_1; try clear hfz22_2; try clear hfz22_3; try clear hfz6_0; try clear hfz6_1; try clear hfz6_2; try clear hfz6_3; try clear hfz8_0; try clear hfz8_1; try clear hfz8_2; try clear hfz8_3
    obtain ⟨x10_2, x45_2, rfl, HA, HK2, HO_8, HO_10, HO_43, BK1, HB⟩ := hrel
    cases gk with
    | zero => exact absurd HA.out (by simp [rehearse_Plan.l1])
    | succ k2 =>
     have H := HA.out
     clear HA
     simp only [rehearse_Plan.l1] at H
     by_cases c25 : x45_2 < (t288.length : Int)
     rotate_left
     ·
      rw [if_neg c25] at H
      have c25b0 := decide_eq_false c25
      clear c25
      simp only [Option.some.injEq, Prod.mk.injEq] at H
      obtain ⟨rfl, rfl⟩ := H
      go_wp2
      go_ret2
      exact ⟨_, rfl, by exact HO_10.out, HB.out⟩
     rw [if_pos c25] at H
     have c25b0 := decide_eq_true c25
     clear c25
     obtain ⟨c26, H⟩ : (0 ≤ x45_2) ∧ _ := mIf H
     have c26b0 := decide_eq_true c26
     clear c26
     obtain ⟨c27, H⟩ : (x45_2 < (t288.length : Int)) ∧ _ := mIf H
     have c27b0 := decide_eq_true c27
     clear c27
     obtain ⟨c28, H⟩ : (x45_2 < (t292.length : Int)) ∧ _ := mIf H
     have c28b0 := decide_eq_true c28
     clear c28
     obtain ⟨c29, H⟩ : (x10_2.length < 5864062014805) ∧ _ := mIf H
     have LMc29 := Aside0.mk c29
     clear c29
     obtain ⟨y298, hy298⟩ : ∃ y_ : List (S48), y_ = (x10_2 ++ [(⟨x45_2, rd t292 x45_2, rd t288 x45_2⟩ : S48)]) := ⟨_, rfl⟩
     rw [← hy298] at H
     have Ny298 := Aside0.mk hy298
     clear hy298
     have H' := Aside0.mk H
     clear H
     have p296 : 0 ≤ (x45_2 : Int) := of_decide_eq_true (by assumption)
     have q296 : x45_2 < (t288.length : Int) := of_decide_eq_true (by assumption)
     obtain ⟨ad296, e296, hx296_0⟩ := Kd.at_int (Kd.R_reads' HO_43.out).2.2 x45_2 p296 q296
     cases e296
     replace p296 := eq_true p296
     replace q296 := eq_true q296
     obtain ⟨Ao30, co30, eo30⟩ := Kd.R_slice HO_8.out
     subst eo30
     have p297 : 0 ≤ (x45_2 : Int) := of_decide_eq_true (by assumption)
     have q297 : x45_2 < (t292.length : Int) := of_decide_eq_true (by assumption)
     obtain ⟨ad297, e297, hx297_0⟩ := Kd.at_int (Kd.R_reads' HO_8.out).2.2 x45_2 p297 q297
     cases e297
     replace p297 := eq_true p297
     replace q297 := eq_true q297
     go_wp2_with (first | ((with_reducible refine gate_builtin (b := .append) (xs := #[.tmp 50, .tmp 58]) rfl ?_); at_builtin; refine Kd.R_append k48 (w0 := w) w.heap.size rfl (.tmp 50) (.tmp 58) 37 48 (.agg #[(.int .i64 0), (.int .i64 0), (.int .i64 0)]) 24 rfl Try.underlying37 info48 rfl (by decide) (by omega) u10 x10_2 (⟨x45_2, rd t292 x45_2, rd t288 x45_2⟩ : S48) [.int .i64 x45_2, .int .i64 (rd t292 x45_2), .int .i64 (rd t288 x45_2)] (fun _ => True) (fun _ => False) rfl rfl ?aP (fun _ hk => hk.elim) ?aF ?aO ?aB ?aS ?aL ?_; (case aP => exact k48_mkM _ _ _ (⟨x45_2, rd t292 x45_2, rd t288 x45_2⟩ : S48)); (case aB => exact HB.out); (case aF => exact (fun _ _ => trivial)); (case aO => exact HO_10.out); (case aS => exact (below_size HB.out)); (case aL => have := LMc29.out; omega); intro v299 w31 ho hb hg hat; rw [← Ny298.out] at ho; replace HO_8 := Aside0.mk (Kd.R_over' HO_8.out (Kd.R_typed HO_10.out) (by decide) hg); replace HO_43 := Aside0.mk (Kd.R_over' HO_43.out (Kd.R_typed HO_10.out) (by decide) hg); replace BK1 := Aside0.mk (blk_grown (g := gb1) (o := .cells #[.slice A0_0 l0_0.length c0_0, .slice A0_1 l0_1.length c0_1, .slice A0_2 l0_2.length c0_2, .int .i64 a0_3] 30 (0, 0)) BK1.out hg (Kd.R_ne HO_10.out BK1.out (by decide))); replace HB := Aside0.mk hb; have HO300 := Aside0.mk ho; clear HO_10; clear ho hb hg hat))
     go_roundg k2
     case measure => have := HK1.out; have := HK2.out; omega
     case rel => exact ⟨(y298), (wrap64 (x45_2 + 1)), rfl, H', ⟨by have := HK1.out; have := HK2.out; omega⟩, HO_8, HO300, HO_43, ⟨BK1.out⟩, ⟨HB.out⟩⟩
def dancestudiolaw50_planned.f (k : Nat) (l0_0 : List (S53)) (l0_1 : List (S55)) (l0_2 : List (S59)) (a0_3 : Int) (l1 : List (S48)) : Option (Bool) := (dancestudiolaw50_of.f).bind fun t320 => ((rehearse_Plan.f k l0_0 l0_1 l0_2 a0_3).bind fun bt321 => ((dancestudioref50_Same.f k bt321.1 l1).bind fun t325 => (if t325 = true then (some (bt321.2 == 0)) else (some false))))
set_option maxHeartbeats 8000000 in
set_option maxRecDepth 100000 in
theorem dancestudiolaw50_planned.calls (k : Nat) (A0_0 : Option Addr) (c0_0 : Nat) (l0_0 : List (S53)) (A0_1 : Option Addr) (c0_1 : Nat) (l0_1 : List (S55)) (A0_2 : Option Addr) (c0_2 : Nat) (l0_2 : List (S59)) (a0_3 : Int) (A1 : Option Addr) (c1 : Nat) (l1 : List (S48)) (r : Bool) (w : World) (hr0_0 : Kd.C k53 w A0_0 l0_0.length l0_0) (hc0_0 : l0_0.length ≤ c0_0) (hr0_1 : Kd.C k55 w A0_1 l0_1.length l0_1) (hc0_1 : l0_1.length ≤ c0_1) (hr0_2 : Kd.C k59 w A0_2 l0_2.length l0_2) (hc0_2 : l0_2.length ≤ c0_2) (hr1 : Kd.C k48 w A1 l1.length l1) (hc1 : l1.length ≤ c1) (hmx : Mx w) (h : dancestudiolaw50_planned.f k l0_0 l0_1 l0_2 a0_3 l1 = some r) :
  Calls Try.prog 31 #[.agg #[.slice A0_0 l0_0.length c0_0, .slice A0_1 l0_1.length c0_1, .slice A0_2 l0_2.length c0_2, .int .i64 a0_3], .slice A1 l1.length c1] w fun e w' => e = .returned (.bool r) ∧ Below w.heap.size w w' := by
 have HMX_ := Aside0.mk hmx
 clear hmx
 have hu30 := Try.underlying26
 have HR0_0 := Aside0.mk hr0_0
 have HC0_0 := Aside0.mk hc0_0
 clear hr0_0 hc0_0
 have HR0_1 := Aside0.mk hr0_1
 have HC0_1 := Aside0.mk hc0_1
 clear hr0_1 hc0_1
 have HR0_2 := Aside0.mk hr0_2
 have HC0_2 := Aside0.mk hc0_2
 clear hr0_2 hc0_2
 have HR1 := Aside0.mk hr1
 have HC1 := Aside0.mk hc1
 clear hr1 hc1
 have HB := Aside0.mk (Below.refl w.heap.size w)
 have H := h
 unfold dancestudiolaw50_planned.f at H
 clear h
 replace H := Option.bind_eq_some_iff.mp H
 obtain ⟨t320, A30, H⟩ := H
 try dsimp only at H
 have A3 := Aside0.mk A30
 clear A30
 replace H := Option.bind_eq_some_iff.mp H
 obtain ⟨⟨t321, t324⟩, A40, H⟩ := H
 try dsimp only at H
 have A4 := Aside0.mk A40
 clear A40
 replace H := Option.bind_eq_some_iff.mp H
 obtain ⟨t325, A50, H⟩ := H
 try dsimp only at H
 have A5 := Aside0.mk A50
 clear A50
 by_cases c6 : t325 = true
 ·
  subst c6
  rw [if_pos rfl] at H
  obtain rfl := Option.some.inj H
  go_enter Try.func31, Try.ntmps31
  go_wp2_with (first | ((with_reducible refine gate_dst (N := 2) rfl ?_); refine box_event rfl (N := 2) rfl (cs := #[.slice A0_0 l0_0.length c0_0, .slice A0_1 l0_1.length c0_1, .slice A0_2 l0_2.length c0_2, .int .i64 a0_3]) (t := 26) (by first | (go_simp; done) | (go_simp; rfl)) ?_; intro gb1 hg w7 hbox hb; have BK1 := Aside0.mk hbox; have GW1 := mGw HB hg; have GE1 := GW1; replace HB := mSt HB hb; clear hb hbox hg; have hcz8 := blk_cell BK1.out; have hfz8 := blk_frozen BK1.out) | (go_at_call 11; (with_reducible refine (dancestudiolaw50_of.calls  t320 _ A3.out).mono ?_); rintro e w9 ⟨rfl, hb⟩; replace BK1 := mBb BK1 hb; replace HB := mSt HB hb; (try clear hb)) | ((with_reducible refine gate_callee (f := 21) rfl ?_); refine goesL_ (some 10) rfl rfl Try.func21 (by kernel_rfl) rfl #[.agg #[.slice A0_0 l0_0.length c0_0, .slice A0_1 l0_1.length c0_1, .slice A0_2 l0_2.length c0_2, .int .i64 a0_3]] rfl (mA1 rfl) ?_; (with_reducible refine (rehearse_Plan.calls k _ _ l0_0 _ _ l0_1 _ _ l0_2 a0_3 t321 t324 _ (Kd.C_below HR0_0.out HB.out) HC0_0.out (Kd.C_below HR0_1.out HB.out) HC0_1.out (Kd.C_below HR0_2.out HB.out) HC0_2.out (Mx.below HMX_.out HB.out) A4.out).mono ?_); rintro e w10 ⟨v322, rfl, ho0, hb⟩; refine ⟨_, rfl, ?_⟩; have HO323 := Aside0.mk (Kd.R_lower ho0 (below_size HB.out)); replace BK1 := mBb BK1 hb; replace HB := mSt HB hb; (try clear hb); (try clear ho0); obtain ⟨Ao11, co11, eo11⟩ := Kd.R_slice HO323.out; subst eo11) | ((with_reducible refine gate_callee (f := 23) rfl ?_); refine goesL_ (some 15) rfl rfl Try.func23 (by kernel_rfl) rfl #[.slice Ao11 t321.length co11, .slice A1 l1.length c1] rfl (mA2 rfl rfl) ?_; (with_reducible refine (dancestudioref50_Same.calls k _ _ t321 _ _ l1 true _ ((Kd.R_reads' HO323.out).2.2) ((Kd.R_reads' HO323.out).2.1) (Kd.C_below HR1.out HB.out) HC1.out A5.out).mono ?_); rintro e w' ⟨rfl, ⟨nd, rfl⟩⟩; refine ⟨_, rfl, ?_⟩))
  go_ret
  exact ⟨rfl, hO HB⟩
 replace c6 := Bool.eq_false_iff.mpr c6
 subst c6
 rw [if_neg (show ¬ (false = true) by decide)] at H
 obtain rfl := Option.some.inj H
 go_enter Try.func31, Try.ntmps31
 go_wp2_with (first | ((with_reducible refine gate_dst (N := 2) rfl ?_); refine box_event rfl (N := 2) rfl (cs := #[.slice A0_0 l0_0.length c0_0, .slice A0_1 l0_1.length c0_1, .slice A0_2 l0_2.length c0_2, .int .i64 a0_3]) (t := 26) (by first | (go_simp; done) | (go_simp; rfl)) ?_; intro gb1 hg w12 hbox hb; have BK1 := Aside0.mk hbox; have GW1 := mGw HB hg; have GE1 := GW1; replace HB := mSt HB hb; clear hb hbox hg; have hcz13 := blk_cell BK1.out; have hfz13 := blk_frozen BK1.out) | (go_at_call 11; (with_reducible refine (dancestudiolaw50_of.calls  t320 _ A3.out).mono ?_); rintro e w14 ⟨rfl, hb⟩; replace BK1 := mBb BK1 hb; replace HB := mSt HB hb; (try clear hb)) | ((with_reducible refine gate_callee (f := 21) rfl ?_); refine goesL_ (some 10) rfl rfl Try.func21 (by kernel_rfl) rfl #[.agg #[.slice A0_0 l0_0.length c0_0, .slice A0_1 l0_1.length c0_1, .slice A0_2 l0_2.length c0_2, .int .i64 a0_3]] rfl (mA1 rfl) ?_; (with_reducible refine (rehearse_Plan.calls k _ _ l0_0 _ _ l0_1 _ _ l0_2 a0_3 t321 t324 _ (Kd.C_below HR0_0.out HB.out) HC0_0.out (Kd.C_below HR0_1.out HB.out) HC0_1.out (Kd.C_below HR0_2.out HB.out) HC0_2.out (Mx.below HMX_.out HB.out) A4.out).mono ?_); rintro e w15 ⟨v322, rfl, ho0, hb⟩; refine ⟨_, rfl, ?_⟩; have HO323 := Aside0.mk (Kd.R_lower ho0 (below_size HB.out)); replace BK1 := mBb BK1 hb; replace HB := mSt HB hb; (try clear hb); (try clear ho0); obtain ⟨Ao16, co16, eo16⟩ := Kd.R_slice HO323.out; subst eo16) | ((with_reducible refine gate_callee (f := 23) rfl ?_); refine goesL_ (some 15) rfl rfl Try.func23 (by kernel_rfl) rfl #[.slice Ao16 t321.length co16, .slice A1 l1.length c1] rfl (mA2 rfl rfl) ?_; (with_reducible refine (dancestudioref50_Same.calls k _ _ t321 _ _ l1 false _ ((Kd.R_reads' HO323.out).2.2) ((Kd.R_reads' HO323.out).2.1) (Kd.C_below HR1.out HB.out) HC1.out A5.out).mono ?_); rintro e w' ⟨rfl, ⟨nd, rfl⟩⟩; refine ⟨_, rfl, ?_⟩))
 go_ret
 exact ⟨rfl, hO HB⟩
def dancestudiolaw50_example.f (l0 : List (S59)) : Option ((List (S53)) × (List (S55)) × (List (S59)) × Int) := some ((([(⟨(⟨#[97]⟩ : ByteArray), 2, (([0, 1] : List Int))⟩ : S53), (⟨(⟨#[98]⟩ : ByteArray), 3, (([1, 2] : List Int))⟩ : S53), (⟨(⟨#[99]⟩ : ByteArray), 2, (([3] : List Int))⟩ : S53)] : List (S53))), (([(⟨3⟩ : S55), (⟨3⟩ : S55)] : List (S55))), l0, 6)
set_option maxHeartbeats 8000000 in
set_option maxRecDepth 100000 in
theorem dancestudiolaw50_example.calls (P0_ : Nat → Prop) (u9000_ : Value) (l0 : List (S59)) (r1 : List (S53)) (r2 : List (S55)) (r3 : List (S59)) (r4 : Int) (w0 w : World) (hB : Below w0.heap.size w0 w) (ho0 : Kd.R k59 59 w w0.heap.size P0_ u9000_ l0) (h : dancestudiolaw50_example.f l0 = some (r1, r2, r3, r4)) :
  Calls Try.prog 30 #[u9000_] w fun e w' => ∃ v0_ v1_ v2_ : Value, e = .returned (.agg #[v0_, v1_, v2_, .int .i64 r4]) ∧ Kd.N k53 53 w' w.heap.size (fun k_ => (P0_ k_ ∨ w.heap.size ≤ k_) ∧ some k_ ≠ (v1_ : Value).ownBlock ∧ some k_ ≠ (v2_ : Value).ownBlock) v0_ r1 ∧ Kd.R k55 55 w' w0.heap.size (fun k_ => (P0_ k_ ∨ w.heap.size ≤ k_)) v1_ r2 ∧ Kd.R k59 59 w' w0.heap.size (fun k_ => (P0_ k_ ∨ w.heap.size ≤ k_)) v2_ r3 ∧ Below w0.heap.size w0 w' ∧ Kept w w' (fun k_ => P0_ k_) := by
 have hu30 := Try.underlying26
 have hu53 := Try.underlying53
 have hu55 := Try.underlying55
 have HO0 := Aside0.mk (show Kd.R k59 59 w w0.heap.size (fun k_ => (P0_ k_ ∨ w.heap.size ≤ k_)) u9000_ l0 from Kd.R_mono ho0 (fun k_ hk => (.inl hk)))
 have HK := Aside0.mk (Kept.refl w (fun k_ => P0_ k_))
 have HW0 := Aside0.mk hB.size
 have HB := Aside0.mk hB
 clear hB
 have H := h
 unfold dancestudiolaw50_example.f at H
 clear h
 obtain ⟨y302, hy302⟩ : ∃ y_ : List Int, y_ = (([0, 1] : List Int)) := ⟨_, rfl⟩
 rw [← hy302] at H
 have Ny302 := Aside0.mk hy302
 clear hy302
 obtain ⟨y305, hy305⟩ : ∃ y_ : List Int, y_ = (([1, 2] : List Int)) := ⟨_, rfl⟩
 rw [← hy305] at H
 have Ny305 := Aside0.mk hy305
 clear hy305
 obtain ⟨y308, hy308⟩ : ∃ y_ : List Int, y_ = (([3] : List Int)) := ⟨_, rfl⟩
 rw [← hy308] at H
 have Ny308 := Aside0.mk hy308
 clear hy308
 obtain ⟨y311, hy311⟩ : ∃ y_ : List (S53), y_ = (([(⟨(⟨#[97]⟩ : ByteArray), 2, y302⟩ : S53), (⟨(⟨#[98]⟩ : ByteArray), 3, y305⟩ : S53), (⟨(⟨#[99]⟩ : ByteArray), 2, y308⟩ : S53)] : List (S53))) := ⟨_, rfl⟩
 rw [← hy311] at H
 have Ny311 := Aside0.mk hy311
 clear hy311
 obtain ⟨y314, hy314⟩ : ∃ y_ : List (S55), y_ = (([(⟨3⟩ : S55), (⟨3⟩ : S55)] : List (S55))) := ⟨_, rfl⟩
 rw [← hy314] at H
 have Ny314 := Aside0.mk hy314
 clear hy314
 simp only [Option.some.injEq, Prod.mk.injEq] at H
 obtain ⟨rfl, rfl, rfl, rfl⟩ := H
 go_enter Try.func30, Try.ntmps30
 go_wp2_with (first | ((with_reducible refine gate_dst (N := 2) rfl ?_); refine box_event rfl (N := 2) rfl (cs := #[.slice none 0 0, .slice none 0 0, .slice none 0 0, .int .i64 0]) (t := 26) (by first | (go_simp; done) | (go_simp; rfl)) ?_; intro gb1 hg w2 hbox hb; replace HO0 := Aside0.mk (Kd.R_below HO0.out hb); have BK1 := Aside0.mk hbox; have GW1 := Aside0.mk ((by rw [hg]; exact (by first | exact HK.out.1 | exact (show Kept w _ (fun k_ => P0_ k_) from by repeat (first | (with_reducible first | exact HK.out | apply Kept.alloc | apply Kept.drewN | apply Kept.drew) | exact HK.out)).1) : w.heap.size ≤ gb1)); replace HK := Aside0.mk (Kept.below (S := (fun k_ => P0_ k_)) (by repeat (first | (with_reducible first | exact HK.out | apply Kept.alloc | apply Kept.drewN | apply Kept.drew) | exact HK.out)) hb); have GE1 := Aside0.mk ((by rw [hg]; exact (below_size HB.out) : w0.heap.size ≤ gb1)); replace HB := mSt HB hb; clear hb hbox hg) | ((with_reducible refine gate_dst (N := 3) rfl ?_); refine Kd.R_lit (Kd.int .i64) _ 3 ?hg (N := 3) ?hd (xs := ([0, 1] : List Int)) (inner := [.int .i64 0, .int .i64 1]) (ok := fun _ => True) (okp := fun _ => True) ?hr ?hp (fun _ hk => hk) trivial (Below.refl _ _) (Nat.le_refl _) (by simp) ?_; (case hd => rfl); (case hg => rfl); (case hr => first | (go_simp; done) | (go_simp; rfl)); (case hp => exact (Reps.one (show Kd.M (Kd.int .i64) _ _ _ 0 [.int .i64 0] from rfl) (Reps.one (show Kd.M (Kd.int .i64) _ _ _ 1 [.int .i64 1] from rfl) (Reps.none _ _)))); intro v303 w3 ho4 hb hg_ hnew_; clear hg_ hnew_; (first | rw [← Ny302.out] at ho4 | (simp only [Int.reduceToNat] at ho4; rw [← Ny302.out] at ho4)); replace HO0 := Aside0.mk (Kd.R_below HO0.out hb); have HO304 := Aside0.mk (Kd.R_lower (Kd.R_newM (M := fun k_ => (P0_ k_ ∨ w.heap.size ≤ k_)) ho4 (by first | exact HK.out.1 | exact (show Kept w _ (fun k_ => P0_ k_) from by repeat (first | (with_reducible first | exact HK.out | apply Kept.alloc | apply Kept.drewN | apply Kept.drew | refine Kept.setCell ?_ (.inr GW1.out) _) | exact HK.out)).1) (fun k_ h_ => .inr h_)) (below_size HB.out)); replace BK1 := mBb BK1 hb; replace HK := Aside0.mk (Kept.below (S := (fun k_ => P0_ k_)) (by repeat (first | (with_reducible first | exact HK.out | apply Kept.alloc | apply Kept.drewN | apply Kept.drew | refine Kept.setCell ?_ (.inr GW1.out) _) | exact HK.out)) hb); replace HB := mSt HB hb; clear hb ho4; obtain ⟨Ao5, co5, eo5⟩ := Kd.R_slice HO304.out; subst eo5) | ((with_reducible refine gate_dst (N := 5) rfl ?_); refine Kd.R_lit (Kd.int .i64) _ 3 ?hg (N := 5) ?hd (xs := ([1, 2] : List Int)) (inner := [.int .i64 1, .int .i64 2]) (ok := fun _ => True) (okp := fun _ => True) ?hr ?hp (fun _ hk => hk) trivial (Below.refl _ _) (Nat.le_refl _) (by simp) ?_; (case hd => rfl); (case hg => rfl); (case hr => first | (go_simp; done) | (go_simp; rfl)); (case hp => exact (Reps.one (show Kd.M (Kd.int .i64) _ _ _ 1 [.int .i64 1] from rfl) (Reps.one (show Kd.M (Kd.int .i64) _ _ _ 2 [.int .i64 2] from rfl) (Reps.none _ _)))); intro v306 w6 ho7 hb hg_ hnew_; clear hg_ hnew_; (first | rw [← Ny305.out] at ho7 | (simp only [Int.reduceToNat] at ho7; rw [← Ny305.out] at ho7)); replace HO0 := Aside0.mk (Kd.R_below HO0.out hb); have HO307 := Aside0.mk (Kd.R_lower (Kd.R_new' (Kd.R_newM (M := fun k_ => (P0_ k_ ∨ w.heap.size ≤ k_)) ho7 (by first | exact HK.out.1 | exact (show Kept w _ (fun k_ => P0_ k_) from by repeat (first | (with_reducible first | exact HK.out | apply Kept.alloc | apply Kept.drewN | apply Kept.drew | refine Kept.setCell ?_ (.inr GW1.out) _) | exact HK.out)).1) (fun k_ h_ => .inr h_)) (Kd.R_lt HO304.out)) (below_size HB.out)); replace HO304 := Aside0.mk (Kd.R_elder' HO304.out (Kd.R_base ho7) hb); replace BK1 := mBb BK1 hb; replace HK := Aside0.mk (Kept.below (S := (fun k_ => P0_ k_)) (by repeat (first | (with_reducible first | exact HK.out | apply Kept.alloc | apply Kept.drewN | apply Kept.drew | refine Kept.setCell ?_ (.inr GW1.out) _) | exact HK.out)) hb); replace HB := mSt HB hb; clear hb ho7; obtain ⟨Ao8, co8, eo8⟩ := Kd.R_slice HO307.out; subst eo8) | ((with_reducible refine gate_dst (N := 7) rfl ?_); refine Kd.R_lit (Kd.int .i64) _ 3 ?hg (N := 7) ?hd (xs := ([3] : List Int)) (inner := [.int .i64 3]) (ok := fun _ => True) (okp := fun _ => True) ?hr ?hp (fun _ hk => hk) trivial (Below.refl _ _) (Nat.le_refl _) (by simp) ?_; (case hd => rfl); (case hg => rfl); (case hr => first | (go_simp; done) | (go_simp; rfl)); (case hp => exact (Reps.one (show Kd.M (Kd.int .i64) _ _ _ 3 [.int .i64 3] from rfl) (Reps.none _ _))); intro v309 w9 ho10 hb hg_ hnew_; clear hg_ hnew_; (first | rw [← Ny308.out] at ho10 | (simp only [Int.reduceToNat] at ho10; rw [← Ny308.out] at ho10)); replace HO0 := Aside0.mk (Kd.R_below HO0.out hb); have HO310 := Aside0.mk (Kd.R_lower (Kd.R_new' (Kd.R_new' (Kd.R_newM (M := fun k_ => (P0_ k_ ∨ w.heap.size ≤ k_)) ho10 (by first | exact HK.out.1 | exact (show Kept w _ (fun k_ => P0_ k_) from by repeat (first | (with_reducible first | exact HK.out | apply Kept.alloc | apply Kept.drewN | apply Kept.drew | refine Kept.setCell ?_ (.inr GW1.out) _) | exact HK.out)).1) (fun k_ h_ => .inr h_)) (Kd.R_lt HO304.out)) (Kd.R_lt HO307.out)) (below_size HB.out)); replace HO304 := Aside0.mk (Kd.R_elder' HO304.out (Kd.R_base ho10) hb); replace HO307 := Aside0.mk (Kd.R_elder' HO307.out (Kd.R_base ho10) hb); replace BK1 := mBb BK1 hb; replace HK := Aside0.mk (Kept.below (S := (fun k_ => P0_ k_)) (by repeat (first | (with_reducible first | exact HK.out | apply Kept.alloc | apply Kept.drewN | apply Kept.drew | refine Kept.setCell ?_ (.inr GW1.out) _) | exact HK.out)) hb); replace HB := mSt HB hb; clear hb ho10; obtain ⟨Ao11, co11, eo11⟩ := Kd.R_slice HO310.out; subst eo11) | ((with_reducible refine gate_dst (N := 9) rfl ?_); refine Kd.N_lit k53 _ 53 ?hg (N' := 9) ?hd (xs := ([(⟨(⟨#[97]⟩ : ByteArray), 2, y302⟩ : S53), (⟨(⟨#[98]⟩ : ByteArray), 3, y305⟩ : S53), (⟨(⟨#[99]⟩ : ByteArray), 2, y308⟩ : S53)] : List (S53))) (inner := [.string (⟨#[97]⟩ : ByteArray), .int .i64 2, .slice Ao5 y302.length co5, .string (⟨#[98]⟩ : ByteArray), .int .i64 3, .slice Ao8 y305.length co8, .string (⟨#[99]⟩ : ByteArray), .int .i64 2, .slice Ao11 y308.length co11]) (ok := (fun k_ => (P0_ k_ ∨ w.heap.size ≤ k_) ∧ some k_ ≠ (u9000_ : Value).ownBlock ∧ k_ ≠ gb1)) (okp := (fun k_ => (P0_ k_ ∨ w.heap.size ≤ k_) ∧ some k_ ≠ (u9000_ : Value).ownBlock ∧ k_ ≠ gb1)) ?hr ?hp (fun _ hk => hk) ((show ∀ k_, w9.heap.size ≤ k_ → (fun k_ => (P0_ k_ ∨ w.heap.size ≤ k_) ∧ some k_ ≠ (u9000_ : Value).ownBlock ∧ k_ ≠ gb1) k_ from fun k_ hk => ⟨(.inr (Nat.le_trans (by first | exact HK.out.1 | exact (show Kept w _ (fun k_ => P0_ k_) from by repeat (first | (with_reducible first | exact HK.out | apply Kept.alloc | apply Kept.drewN | apply Kept.drew | refine Kept.setCell ?_ (.inr GW1.out) _) | exact HK.out)).1) hk)), Kd.fresh' (Kd.R_lt HO0.out) k_ hk, Kd.freshB (g := gb1) (o := .cells #[.slice none 0 0, .slice none 0 0, .slice none 0 0, .int .i64 0] 26 (0, 0)) BK1.out k_ hk⟩) _ (Nat.le_refl _)) (Below.refl _ _) (Nat.le_refl _) (by simp) ?_; (case hd => rfl); (case hg => rfl); (case hr => first | (go_simp; done) | (go_simp; rfl)); (case hp => exact (Reps.c3 (show Kd.FK k53 _ _ (⟨(⟨#[97]⟩ : ByteArray), 2, y302⟩ : S53) [.string (⟨#[97]⟩ : ByteArray), .int .i64 2, .slice Ao5 y302.length co5] from (k53_mkF _ _ (⟨(⟨#[97]⟩ : ByteArray), 2, y302⟩ : S53) (Kd.R_reads' (Kd.R_mono (ok' := (fun k_ => (P0_ k_ ∨ w.heap.size ≤ k_) ∧ some k_ ≠ (u9000_ : Value).ownBlock ∧ k_ ≠ gb1)) (Kd.R_types (Kd.R_apart' (HO304.out) (Kd.R_typed HO0.out) (by decide)) BK1.out (by decide)) (fun k_ hk => ⟨hk.1.1.1.1.1, ⟨hk.1.2, hk.2⟩⟩))).2.1 (Kd.R_F (Kd.R_mono (ok' := (fun k_ => (P0_ k_ ∨ w.heap.size ≤ k_) ∧ some k_ ≠ (u9000_ : Value).ownBlock ∧ k_ ≠ gb1)) (Kd.R_types (Kd.R_apart' (HO304.out) (Kd.R_typed HO0.out) (by decide)) BK1.out (by decide)) (fun k_ hk => ⟨hk.1.1.1.1.1, ⟨hk.1.2, hk.2⟩⟩))))) (Reps.c3 (show Kd.FK k53 _ _ (⟨(⟨#[98]⟩ : ByteArray), 3, y305⟩ : S53) [.string (⟨#[98]⟩ : ByteArray), .int .i64 3, .slice Ao8 y305.length co8] from (k53_mkF _ _ (⟨(⟨#[98]⟩ : ByteArray), 3, y305⟩ : S53) (Kd.R_reads' (Kd.R_mono (ok' := (fun k_ => (P0_ k_ ∨ w.heap.size ≤ k_) ∧ some k_ ≠ (u9000_ : Value).ownBlock ∧ k_ ≠ gb1)) (Kd.R_types (Kd.R_apart' (HO307.out) (Kd.R_typed HO0.out) (by decide)) BK1.out (by decide)) (fun k_ hk => ⟨hk.1.1.1.1.1, ⟨hk.1.2, hk.2⟩⟩))).2.1 (Kd.R_F (Kd.R_mono (ok' := (fun k_ => (P0_ k_ ∨ w.heap.size ≤ k_) ∧ some k_ ≠ (u9000_ : Value).ownBlock ∧ k_ ≠ gb1)) (Kd.R_types (Kd.R_apart' (HO307.out) (Kd.R_typed HO0.out) (by decide)) BK1.out (by decide)) (fun k_ hk => ⟨hk.1.1.1.1.1, ⟨hk.1.2, hk.2⟩⟩))))) (Reps.c3 (show Kd.FK k53 _ _ (⟨(⟨#[99]⟩ : ByteArray), 2, y308⟩ : S53) [.string (⟨#[99]⟩ : ByteArray), .int .i64 2, .slice Ao11 y308.length co11] from (k53_mkF _ _ (⟨(⟨#[99]⟩ : ByteArray), 2, y308⟩ : S53) (Kd.R_reads' (Kd.R_mono (ok' := (fun k_ => (P0_ k_ ∨ w.heap.size ≤ k_) ∧ some k_ ≠ (u9000_ : Value).ownBlock ∧ k_ ≠ gb1)) (Kd.R_types (Kd.R_apart' (HO310.out) (Kd.R_typed HO0.out) (by decide)) BK1.out (by decide)) (fun k_ hk => ⟨hk.1.1.1.1.1, ⟨hk.1.2, hk.2⟩⟩))).2.1 (Kd.R_F (Kd.R_mono (ok' := (fun k_ => (P0_ k_ ∨ w.heap.size ≤ k_) ∧ some k_ ≠ (u9000_ : Value).ownBlock ∧ k_ ≠ gb1)) (Kd.R_types (Kd.R_apart' (HO310.out) (Kd.R_typed HO0.out) (by decide)) BK1.out (by decide)) (fun k_ hk => ⟨hk.1.1.1.1.1, ⟨hk.1.2, hk.2⟩⟩))))) (Reps.none _ _))))); intro v312 w12 ho13 hb hg_ hnew_; clear hg_ hnew_; (first | rw [← Ny311.out] at ho13 | (simp only [Int.reduceToNat] at ho13; rw [← Ny311.out] at ho13)); replace HO0 := Aside0.mk (Kd.R_below HO0.out hb); have HO313 := Aside0.mk (Kd.N_lower ho13 (by first | exact HK.out.1 | exact (show Kept w _ (fun k_ => P0_ k_) from by repeat (first | (with_reducible first | exact HK.out | apply Kept.alloc | apply Kept.drewN | apply Kept.drew | refine Kept.setCell ?_ (.inr GW1.out) _) | exact HK.out)).1)); replace BK1 := mBb BK1 hb; replace HK := Aside0.mk (Kept.below (S := (fun k_ => P0_ k_)) (by repeat (first | (with_reducible first | exact HK.out | apply Kept.alloc | apply Kept.drewN | apply Kept.drew | refine Kept.setCell ?_ (.inr GW1.out) _) | exact HK.out)) hb); replace HB := mSt HB hb; clear HO304 HO307 HO310; clear hb ho13) | ((with_reducible refine gate_dst (N := 12) rfl ?_); refine Kd.R_lit k55 _ 55 ?hg (N := 12) ?hd (xs := ([(⟨3⟩ : S55), (⟨3⟩ : S55)] : List (S55))) (inner := [.int .i64 3, .int .i64 3]) (ok := fun _ => True) (okp := fun _ => True) ?hr ?hp (fun _ hk => hk) trivial (Below.refl _ _) (Nat.le_refl _) (by simp) ?_; (case hd => rfl); (case hg => rfl); (case hr => first | (go_simp; done) | (go_simp; rfl)); (case hp => exact (Reps.one (k55_mkM _ _ _ _) (Reps.one (k55_mkM _ _ _ _) (Reps.none _ _)))); intro v315 w14 ho15 hb hg_ hnew_; clear hg_ hnew_; (first | rw [← Ny314.out] at ho15 | (simp only [Int.reduceToNat] at ho15; rw [← Ny314.out] at ho15)); replace HO0 := Aside0.mk (Kd.R_below HO0.out hb); replace HO313 := Aside0.mk (Kd.N_elder' HO313.out (Kd.R_base ho15) hb); have HO316 := Aside0.mk (Kd.R_lower (Kd.R_newM (M := fun k_ => (P0_ k_ ∨ w.heap.size ≤ k_)) ho15 (by first | exact HK.out.1 | exact (show Kept w _ (fun k_ => P0_ k_) from by repeat (first | (with_reducible first | exact HK.out | apply Kept.alloc | apply Kept.drewN | apply Kept.drew | refine Kept.setCell ?_ (.inr GW1.out) _) | exact HK.out)).1) (fun k_ h_ => .inr h_)) (below_size HB.out)); replace BK1 := mBb BK1 hb; replace HK := Aside0.mk (Kept.below (S := (fun k_ => P0_ k_)) (by repeat (first | (with_reducible first | exact HK.out | apply Kept.alloc | apply Kept.drewN | apply Kept.drew | refine Kept.setCell ?_ (.inr GW1.out) _) | exact HK.out)) hb); replace HB := mSt HB hb; clear hb ho15; obtain ⟨Ao16, co16, eo16⟩ := Kd.R_slice HO0.out; subst eo16; obtain ⟨Ao17, co17, eo17⟩ := Kd.R_slice HO316.out; subst eo17; obtain ⟨Ao18, co18, eo18⟩ := Kd.N_slice HO313.out; subst eo18; have hcz19 := blk_cell BK1.out; have hfz19 := blk_frozen BK1.out))
 refine bodyPost_ret (results_cell_row rfl _ _ gb1 26 #[.slice Ao18 y311.length co18, .slice Ao17 y314.length co17, .slice Ao16 l0.length co16, .int .i64 6] (0, 0) _ rfl (by refine blk_put (cs := #[.slice Ao18 y311.length co18, .slice Ao17 y314.length co17, .slice Ao16 l0.length co16, .int .i64 0]) ?_ 3 _ rfl; refine blk_put (cs := #[.slice Ao18 y311.length co18, .slice Ao17 y314.length co17, .slice none 0 0, .int .i64 0]) ?_ 2 _ rfl; refine blk_put (cs := #[.slice Ao18 y311.length co18, .slice none 0 0, .slice none 0 0, .int .i64 0]) ?_ 1 _ rfl; refine blk_put (cs := #[.slice none 0 0, .slice none 0 0, .slice none 0 0, .int .i64 0]) ?_ 0 _ rfl; exact BK1.out) Try.underlying26 rfl (by kernel_rfl)) rfl ?_
 exact ⟨_, _, _, rfl, by (with_reducible repeat (first | apply Kd.N_alloc | apply Kd.N_drewN | apply Kd.N_drew)); exact Kd.N_mono (Kd.N_far (p := ⟨gb1, 3, none⟩) (Kd.N_far (p := ⟨gb1, 2, none⟩) (Kd.N_far (p := ⟨gb1, 1, none⟩) (Kd.N_far (p := ⟨gb1, 0, none⟩) (Kd.N_mono HO313.out (fun k_ hk => (⟨hk, hk.1.2.2⟩ : _ ∧ k_ ≠ gb1))) (fun _ hk => hk.2) (.slice Ao18 y311.length co18)) (fun _ hk => hk.2) (.slice Ao17 y314.length co17)) (fun _ hk => hk.2) (.slice Ao16 l0.length co16)) (fun _ hk => hk.2) (.int .i64 6)) (fun _ hk => ⟨hk.1.1.1, ⟨hk.1.2, hk.1.1.2.1⟩⟩), by exact Kd.R_mono (Kd.R_far (p := ⟨gb1, 3, none⟩) (Kd.R_far (p := ⟨gb1, 2, none⟩) (Kd.R_far (p := ⟨gb1, 1, none⟩) (Kd.R_far (p := ⟨gb1, 0, none⟩) (Kd.R_types HO316.out BK1.out (by decide)) (fun _ hk => hk.2) (.slice Ao18 y311.length co18)) (fun _ hk => hk.2) (.slice Ao17 y314.length co17)) (fun _ hk => hk.2) (.slice Ao16 l0.length co16)) (fun _ hk => hk.2) (.int .i64 6)) (fun _ hk => hk.1.1), by exact Kd.R_mono (Kd.R_far (p := ⟨gb1, 3, none⟩) (Kd.R_far (p := ⟨gb1, 2, none⟩) (Kd.R_far (p := ⟨gb1, 1, none⟩) (Kd.R_far (p := ⟨gb1, 0, none⟩) (Kd.R_types HO0.out BK1.out (by decide)) (fun _ hk => hk.2) (.slice Ao18 y311.length co18)) (fun _ hk => hk.2) (.slice Ao17 y314.length co17)) (fun _ hk => hk.2) (.slice Ao16 l0.length co16)) (fun _ hk => hk.2) (.int .i64 6)) (fun _ hk => hk.1), by repeat (first | (with_reducible first | exact HB.out | apply below_alloc | apply pw_below_drewN | apply below_drew1 | refine below_set ?_ GE1.out) | exact HB.out), by repeat (first | (with_reducible first | exact HK.out | apply Kept.alloc | apply Kept.drewN | apply Kept.drew | refine Kept.setCell ?_ (.inr GW1.out) _) | exact HK.out)⟩
end Go.Proofs.Ytjppjppapdflmaa.PAll
