/- Written by wip/myprint.py of this repo (the kit's print, with additions of this session). -/
import Derived.Test.YtacaeebjanglgaaQFnExactUsedByx0
import Derived.Test.YtacaeebjanglgaaQFnExactUsedByx1
import Derived.Test.YtacaeebjanglgaaQFnExactUsedByx3
import Derived.Test.YtacaeebjanglgaaQFnExactUsedByx7
import Derived.Test.YtacaeebjanglgaaQFnExactUsedByx10
set_option maxRecDepth 100000
namespace Go.Proofs.Ytacaeebjanglgaa.QFnExactUsedBy
open Go.RowKit Go.Proofs.YtacaeebjanglgaaW.PrintWords Go.Proofs.YtacaeebjanglgaaW.PrintLast Go.Proofs.YtacaeebjanglgaaW.PrintMore
attribute [local go_sem] max2_int min2_int max_two min_two max_three min_three max_four min_four   -- for this text's walks alone
set_option linter.unusedVariables false
set_option linter.unusedSimpArgs false

/-! ### impl_UsedBy: function 21 -/
def impl_UsedBy.f (k : Nat) (a0_0 : Int) (l0_1 : List (S66)) (l0_2 : List (S68)) (a0_3 : Int) : Option (Int) := (impl_isStore.f k a0_0 l0_1 l0_2 a0_3).bind fun t310 => (if t310 = true then ((impl_used.f k a0_0 l0_1 l0_2 a0_3).bind fun t311 => (some t311)) else (some (-1)))
theorem impl_UsedBy.mono : ∀ a0 a1 a2 a3 k, LeO (impl_UsedBy.f k a0 a1 a2 a3) (impl_UsedBy.f (k + 1) a0 a1 a2 a3) := by
 intro a0 a1 a2 a3 k
 unfold impl_UsedBy.f
 repeat' first
   | (with_reducible exact impl_isStore.mono _ _ _ _ _)
   | (with_reducible exact impl_used.mono _ _ _ _ _)
   | (with_reducible exact LeO.refl _)
   | (with_reducible exact LeO.none _)
   | (with_reducible refine LeO.ite ?_ ?_)
   | (with_reducible refine LeO.bind ?_ (fun _ => ?_))
   | exact impl_isStore.mono _ _ _ _ _
   | exact impl_used.mono _ _ _ _ _
   | exact LeO.none _
   | refine LeO.ite ?_ ?_
   | refine LeO.bind ?_ (fun _ => ?_)
set_option maxHeartbeats 8000000 in
set_option maxRecDepth 100000 in
theorem impl_UsedBy.calls (k : Nat) (a0_0 : Int) (A0_1 : Option Addr) (c0_1 : Nat) (l0_1 : List (S66)) (A0_2 : Option Addr) (c0_2 : Nat) (l0_2 : List (S68)) (a0_3 : Int) (r : Int) (w : World) (hr0_1 : Kd.C k66 w A0_1 l0_1.length l0_1) (hc0_1 : l0_1.length ≤ c0_1) (hr0_2 : Kd.C k68 w A0_2 l0_2.length l0_2) (hc0_2 : l0_2.length ≤ c0_2) (h : impl_UsedBy.f k a0_0 l0_1 l0_2 a0_3 = some r) :
  Calls Try.prog 21 #[.agg #[.int .i64 a0_0, .slice A0_1 l0_1.length c0_1, .slice A0_2 l0_2.length c0_2, .int .i64 a0_3]] w fun e w' => e = .returned (.int .i64 r) ∧ Below w.heap.size w w' := by
 have hu31 := Try.underlying31
 have HR0_1 := Aside0.mk hr0_1
 have HC0_1 := Aside0.mk hc0_1
 clear hr0_1 hc0_1
 have HR0_2 := Aside0.mk hr0_2
 have HC0_2 := Aside0.mk hc0_2
 clear hr0_2 hc0_2
 have HB := Aside0.mk (Below.refl w.heap.size w)
 have H : ((impl_isStore.f k a0_0 l0_1 l0_2 a0_3).bind fun t310 => (if t310 = true then ((impl_used.f k a0_0 l0_1 l0_2 a0_3).bind fun t311 => (some t311)) else (some (-1)))) = some r := h
 clear h
 replace H := Option.bind_eq_some_iff.mp H
 obtain ⟨t310, A20, H⟩ := H
 replace H : (if t310 = true then ((impl_used.f k a0_0 l0_1 l0_2 a0_3).bind fun t311 => (some t311)) else (some (-1))) = some r := H
 have A2 := Aside0.mk A20
 clear A20
 by_cases c3 : t310 = true
 ·
  subst c3
  have H1 : ((impl_used.f k a0_0 l0_1 l0_2 a0_3).bind fun t311 => (some t311)) = some r := by rw [if_pos rfl] at H; exact H
  clear H
  have H := H1
  clear H1
  replace H := Option.bind_eq_some_iff.mp H
  obtain ⟨t311, A40, H⟩ := H
  replace H : (some t311) = some r := H
  have A4 := Aside0.mk A40
  clear A40
  obtain rfl := Option.some.inj H
  go_enter Try.func21, Try.ntmps21
  go_wp2_with (first | ((with_reducible refine gate_dst (N := 1) rfl ?_); refine box_event ?hg (N := 1) ?hd (cs := #[.int .i64 a0_0, .slice A0_1 l0_1.length c0_1, .slice A0_2 l0_2.length c0_2, .int .i64 a0_3]) (t := 31) ?hr ?_; (case hd => rfl); (case hg => rfl); (case hr => exact zq2); intro gb309 hg w5 hbox hb; have n0_ := Aside0.mk (below_step zq3 hb); have n1_ := Aside0.mk (hbox); have n2_ := Aside0.mk ((zq130 : w.heap.size ≤ gb309)); have n3_ := Aside0.mk ((zq130 : w.heap.size ≤ gb309)); clear HB; have HB := n0_; have BK309 := n1_; have GW309 := n2_; have GE309 := n3_; clear n0_ n1_ n2_ n3_; clear hb hbox hg; have hcz6_0 : w5.cell? ⟨gb309, 0, none⟩ = some (.int .i64 a0_0) := (blk_cell BK309.out 0).trans rfl; have hcz6_1 : w5.cell? ⟨gb309, 1, none⟩ = some (.slice A0_1 l0_1.length c0_1) := (blk_cell BK309.out 1).trans rfl; have hcz6_2 : w5.cell? ⟨gb309, 2, none⟩ = some (.slice A0_2 l0_2.length c0_2) := (blk_cell BK309.out 2).trans rfl; have hcz6_3 : w5.cell? ⟨gb309, 3, none⟩ = some (.int .i64 a0_3) := (blk_cell BK309.out 3).trans rfl; have hfz6_0 := blk_frozen BK309.out 0; have hfz6_1 := blk_frozen BK309.out 1; have hfz6_2 := blk_frozen BK309.out 2; have hfz6_3 := blk_frozen BK309.out 3) | ((with_reducible refine gate_callee (f := 55) rfl ?_); refine goesL_ (some 4) rfl rfl Try.func55 (by kernel_rfl) rfl #[.agg #[.int .i64 a0_0, .slice A0_1 l0_1.length c0_1, .slice A0_2 l0_2.length c0_2, .int .i64 a0_3]] rfl zq8 ?_; (with_reducible refine (impl_isStore.calls k a0_0 _ _ l0_1 _ _ l0_2 a0_3 true _ ?side1 ?side2 ?side3 ?side4 A2.out).mono ?_); (case side1 => exact zq11); (case side2 => exact zq12); (case side3 => exact zq15); (case side4 => exact zq16); rintro e w7 ⟨rfl, hb⟩; refine ⟨_, rfl, ?_⟩; have n0_ := Aside0.mk (blk_below (g := gb309) (o := .cells #[.int .i64 a0_0, .slice A0_1 l0_1.length c0_1, .slice A0_2 l0_2.length c0_2, .int .i64 a0_3] 31 (0, 0)) zq50 hb); have n1_ := Aside0.mk (below_step zq51 hb); clear BK309; clear HB; have BK309 := n0_; have HB := n1_; clear n0_ n1_; (try clear hb); (try clear hb2); (try clear hk); (try clear hi); have hcz8_0 : w7.cell? ⟨gb309, 0, none⟩ = some (.int .i64 a0_0) := (blk_cell BK309.out 0).trans rfl; have hcz8_1 : w7.cell? ⟨gb309, 1, none⟩ = some (.slice A0_1 l0_1.length c0_1) := (blk_cell BK309.out 1).trans rfl; have hcz8_2 : w7.cell? ⟨gb309, 2, none⟩ = some (.slice A0_2 l0_2.length c0_2) := (blk_cell BK309.out 2).trans rfl; have hcz8_3 : w7.cell? ⟨gb309, 3, none⟩ = some (.int .i64 a0_3) := (blk_cell BK309.out 3).trans rfl; have hfz8_0 := blk_frozen BK309.out 0; have hfz8_1 := blk_frozen BK309.out 1; have hfz8_2 := blk_frozen BK309.out 2; have hfz8_3 := blk_frozen BK309.out 3) | ((with_reducible refine gate_callee (f := 58) rfl ?_); refine goesL_ (some 7) rfl rfl Try.func58 (by kernel_rfl) rfl #[.agg #[.int .i64 a0_0, .slice A0_1 l0_1.length c0_1, .slice A0_2 l0_2.length c0_2, .int .i64 a0_3]] rfl zq8 ?_; (with_reducible refine (impl_used.calls k a0_0 _ _ l0_1 _ _ l0_2 a0_3 t311 _ ?side1 ?side2 ?side3 ?side4 A4.out).mono ?_); (case side1 => exact zq11); (case side2 => exact zq12); (case side3 => exact zq15); (case side4 => exact zq16); rintro e w9 ⟨rfl, hb⟩; refine ⟨_, rfl, ?_⟩; have n0_ := Aside0.mk (blk_below (g := gb309) (o := .cells #[.int .i64 a0_0, .slice A0_1 l0_1.length c0_1, .slice A0_2 l0_2.length c0_2, .int .i64 a0_3] 31 (0, 0)) zq50 hb); have n1_ := Aside0.mk (below_step zq51 hb); clear BK309; clear HB; have BK309 := n0_; have HB := n1_; clear n0_ n1_; (try clear hb); (try clear hb2); (try clear hk); (try clear hi)))
  go_ret
  exact ⟨zq4, zq51⟩
 ·
  replace c3 := Bool.eq_false_iff.mpr c3
  subst c3
  have H1 : (some (-1)) = some r := by rw [if_neg (show ¬ (false = true) by decide)] at H; exact H
  clear H
  have H := H1
  clear H1
  obtain rfl := Option.some.inj H
  go_enter Try.func21, Try.ntmps21
  go_wp2_with (first | ((with_reducible refine gate_dst (N := 1) rfl ?_); refine box_event ?hg (N := 1) ?hd (cs := #[.int .i64 a0_0, .slice A0_1 l0_1.length c0_1, .slice A0_2 l0_2.length c0_2, .int .i64 a0_3]) (t := 31) ?hr ?_; (case hd => rfl); (case hg => rfl); (case hr => exact zq2); intro gb309 hg w10 hbox hb; have n0_ := Aside0.mk (below_step zq3 hb); have n1_ := Aside0.mk (hbox); have n2_ := Aside0.mk ((zq130 : w.heap.size ≤ gb309)); have n3_ := Aside0.mk ((zq130 : w.heap.size ≤ gb309)); clear HB; have HB := n0_; have BK309 := n1_; have GW309 := n2_; have GE309 := n3_; clear n0_ n1_ n2_ n3_; clear hb hbox hg; have hcz11_0 : w10.cell? ⟨gb309, 0, none⟩ = some (.int .i64 a0_0) := (blk_cell BK309.out 0).trans rfl; have hcz11_1 : w10.cell? ⟨gb309, 1, none⟩ = some (.slice A0_1 l0_1.length c0_1) := (blk_cell BK309.out 1).trans rfl; have hcz11_2 : w10.cell? ⟨gb309, 2, none⟩ = some (.slice A0_2 l0_2.length c0_2) := (blk_cell BK309.out 2).trans rfl; have hcz11_3 : w10.cell? ⟨gb309, 3, none⟩ = some (.int .i64 a0_3) := (blk_cell BK309.out 3).trans rfl; have hfz11_0 := blk_frozen BK309.out 0; have hfz11_1 := blk_frozen BK309.out 1; have hfz11_2 := blk_frozen BK309.out 2; have hfz11_3 := blk_frozen BK309.out 3) | ((with_reducible refine gate_callee (f := 55) rfl ?_); refine goesL_ (some 4) rfl rfl Try.func55 (by kernel_rfl) rfl #[.agg #[.int .i64 a0_0, .slice A0_1 l0_1.length c0_1, .slice A0_2 l0_2.length c0_2, .int .i64 a0_3]] rfl zq8 ?_; (with_reducible refine (impl_isStore.calls k a0_0 _ _ l0_1 _ _ l0_2 a0_3 false _ ?side1 ?side2 ?side3 ?side4 A2.out).mono ?_); (case side1 => exact zq11); (case side2 => exact zq12); (case side3 => exact zq15); (case side4 => exact zq16); rintro e w12 ⟨rfl, hb⟩; refine ⟨_, rfl, ?_⟩; have n0_ := Aside0.mk (blk_below (g := gb309) (o := .cells #[.int .i64 a0_0, .slice A0_1 l0_1.length c0_1, .slice A0_2 l0_2.length c0_2, .int .i64 a0_3] 31 (0, 0)) zq50 hb); have n1_ := Aside0.mk (below_step zq51 hb); clear BK309; clear HB; have BK309 := n0_; have HB := n1_; clear n0_ n1_; (try clear hb); (try clear hb2); (try clear hk); (try clear hi)))
  go_ret
  exact ⟨zq4, zq51⟩

/-! ### laws_FnExactUsedBy: function 4 -/
def laws_FnExactUsedBy.f (k : Nat) (a0_0 : Int) (l0_1 : List (S95)) (l0_2 : List (S97)) (a0_3 : Int) : Option (Bool) := (laws_szStore.f k a0_0 l0_1 l0_2 a0_3 1048576).bind fun t313 => (if t313 < 0 then (some true) else ((laws_toStore.f k a0_0 l0_1 l0_2 a0_3).bind fun bt314 => ((spec_UsedBy.f k bt314.1 bt314.2.1 bt314.2.2.1 bt314.2.2.2).bind fun t322 => ((laws_toStore.f k a0_0 l0_1 l0_2 a0_3).bind fun bt323 => ((impl_UsedBy.f k bt323.1 bt323.2.1 bt323.2.2.1 bt323.2.2.2).bind fun t332 => (if t332 = t322 then ((laws_toStore.f k a0_0 l0_1 l0_2 a0_3).bind fun bt333 => ((laws_eqStore.f k bt323.1 bt323.2.1 bt323.2.2.1 bt323.2.2.2 bt333.1 bt333.2.1 bt333.2.2.1 bt333.2.2.2).bind fun t341 => (if t341 = true then (some true) else (some false)))) else (some false)))))))
theorem laws_FnExactUsedBy.mono : ∀ a0 a1 a2 a3 k, LeO (laws_FnExactUsedBy.f k a0 a1 a2 a3) (laws_FnExactUsedBy.f (k + 1) a0 a1 a2 a3) := by
 intro a0 a1 a2 a3 k
 unfold laws_FnExactUsedBy.f
 repeat' first
   | (with_reducible exact impl_UsedBy.mono _ _ _ _ _)
   | (with_reducible exact laws_eqStore.mono _ _ _ _ _ _ _ _ _)
   | (with_reducible exact laws_szStore.mono _ _ _ _ _ _)
   | (with_reducible exact laws_toStore.mono _ _ _ _ _)
   | (with_reducible exact spec_UsedBy.mono _ _ _ _ _)
   | (with_reducible exact LeO.refl _)
   | (with_reducible exact LeO.none _)
   | (with_reducible refine LeO.ite ?_ ?_)
   | (with_reducible refine LeO.bind ?_ (fun _ => ?_))
   | exact impl_UsedBy.mono _ _ _ _ _
   | exact laws_eqStore.mono _ _ _ _ _ _ _ _ _
   | exact laws_szStore.mono _ _ _ _ _ _
   | exact laws_toStore.mono _ _ _ _ _
   | exact spec_UsedBy.mono _ _ _ _ _
   | exact LeO.none _
   | refine LeO.ite ?_ ?_
   | refine LeO.bind ?_ (fun _ => ?_)
set_option maxHeartbeats 8000000 in
set_option maxRecDepth 100000 in
theorem laws_FnExactUsedBy.calls (k : Nat) (a0_0 : Int) (A0_1 : Option Addr) (c0_1 : Nat) (l0_1 : List (S95)) (A0_2 : Option Addr) (c0_2 : Nat) (l0_2 : List (S97)) (a0_3 : Int) (r : Bool) (w : World) (hr0_1 : Kd.C k95 w A0_1 l0_1.length l0_1) (hc0_1 : l0_1.length ≤ c0_1) (hr0_2 : Kd.C k97 w A0_2 l0_2.length l0_2) (hc0_2 : l0_2.length ≤ c0_2) (h : laws_FnExactUsedBy.f k a0_0 l0_1 l0_2 a0_3 = some r) :
  Calls Try.prog 4 #[.agg #[.int .i64 a0_0, .slice A0_1 l0_1.length c0_1, .slice A0_2 l0_2.length c0_2, .int .i64 a0_3]] w fun e w' => e = .returned (.bool r) ∧ Below w.heap.size w w' := by
 have hu25 := Try.underlying25
 have hu31 := Try.underlying31
 have HR0_1 := Aside0.mk hr0_1
 have HC0_1 := Aside0.mk hc0_1
 clear hr0_1 hc0_1
 have HR0_2 := Aside0.mk hr0_2
 have HC0_2 := Aside0.mk hc0_2
 clear hr0_2 hc0_2
 have HB := Aside0.mk (Below.refl w.heap.size w)
 have H : ((laws_szStore.f k a0_0 l0_1 l0_2 a0_3 1048576).bind fun t313 => (if t313 < 0 then (some true) else ((laws_toStore.f k a0_0 l0_1 l0_2 a0_3).bind fun bt314 => ((spec_UsedBy.f k bt314.1 bt314.2.1 bt314.2.2.1 bt314.2.2.2).bind fun t322 => ((laws_toStore.f k a0_0 l0_1 l0_2 a0_3).bind fun bt323 => ((impl_UsedBy.f k bt323.1 bt323.2.1 bt323.2.2.1 bt323.2.2.2).bind fun t332 => (if t332 = t322 then ((laws_toStore.f k a0_0 l0_1 l0_2 a0_3).bind fun bt333 => ((laws_eqStore.f k bt323.1 bt323.2.1 bt323.2.2.1 bt323.2.2.2 bt333.1 bt333.2.1 bt333.2.2.1 bt333.2.2.2).bind fun t341 => (if t341 = true then (some true) else (some false)))) else (some false)))))))) = some r := h
 clear h
 replace H := Option.bind_eq_some_iff.mp H
 obtain ⟨t313, A20, H⟩ := H
 replace H : (if t313 < 0 then (some true) else ((laws_toStore.f k a0_0 l0_1 l0_2 a0_3).bind fun bt314 => ((spec_UsedBy.f k bt314.1 bt314.2.1 bt314.2.2.1 bt314.2.2.2).bind fun t322 => ((laws_toStore.f k a0_0 l0_1 l0_2 a0_3).bind fun bt323 => ((impl_UsedBy.f k bt323.1 bt323.2.1 bt323.2.2.1 bt323.2.2.2).bind fun t332 => (if t332 = t322 then ((laws_toStore.f k a0_0 l0_1 l0_2 a0_3).bind fun bt333 => ((laws_eqStore.f k bt323.1 bt323.2.1 bt323.2.2.1 bt323.2.2.2 bt333.1 bt333.2.1 bt333.2.2.1 bt333.2.2.2).bind fun t341 => (if t341 = true then (some true) else (some false)))) else (some false))))))) = some r := H
 have A2 := Aside0.mk A20
 clear A20
 by_cases c3 : t313 < 0
 ·
  rw [if_pos c3] at H
  have c3b0 : decide (t313 < 0) = true := decide_eq_true c3
  clear c3
  obtain rfl := Option.some.inj H
  go_enter Try.func4, Try.ntmps4
  go_wp2_with (first | ((with_reducible refine gate_dst (N := 1) rfl ?_); refine box_event ?hg (N := 1) ?hd (cs := #[.int .i64 a0_0, .slice A0_1 l0_1.length c0_1, .slice A0_2 l0_2.length c0_2, .int .i64 a0_3]) (t := 25) ?hr ?_; (case hd => rfl); (case hg => rfl); (case hr => exact zq2); intro gb312 hg w4 hbox hb; have n0_ := Aside0.mk (below_step zq3 hb); have n1_ := Aside0.mk (hbox); have n2_ := Aside0.mk ((zq130 : w.heap.size ≤ gb312)); have n3_ := Aside0.mk ((zq130 : w.heap.size ≤ gb312)); clear HB; have HB := n0_; have BK312 := n1_; have GW312 := n2_; have GE312 := n3_; clear n0_ n1_ n2_ n3_; clear hb hbox hg; have hcz5_0 : w4.cell? ⟨gb312, 0, none⟩ = some (.int .i64 a0_0) := (blk_cell BK312.out 0).trans rfl; have hcz5_1 : w4.cell? ⟨gb312, 1, none⟩ = some (.slice A0_1 l0_1.length c0_1) := (blk_cell BK312.out 1).trans rfl; have hcz5_2 : w4.cell? ⟨gb312, 2, none⟩ = some (.slice A0_2 l0_2.length c0_2) := (blk_cell BK312.out 2).trans rfl; have hcz5_3 : w4.cell? ⟨gb312, 3, none⟩ = some (.int .i64 a0_3) := (blk_cell BK312.out 3).trans rfl; have hfz5_0 := blk_frozen BK312.out 0; have hfz5_1 := blk_frozen BK312.out 1; have hfz5_2 := blk_frozen BK312.out 2; have hfz5_3 := blk_frozen BK312.out 3) | ((with_reducible refine gate_callee (f := 15) rfl ?_); refine goesL_ (some 9) rfl rfl Try.func15 (by kernel_rfl) rfl #[.agg #[.int .i64 a0_0, .slice A0_1 l0_1.length c0_1, .slice A0_2 l0_2.length c0_2, .int .i64 a0_3], .int .i64 1048576] rfl zq8 ?_; (with_reducible refine (laws_szStore.calls k a0_0 _ _ l0_1 _ _ l0_2 a0_3 1048576 t313 _ ?side1 ?side2 ?side3 ?side4 A2.out).mono ?_); (case side1 => exact zq11); (case side2 => exact zq12); (case side3 => exact zq15); (case side4 => exact zq16); rintro e w6 ⟨rfl, hb⟩; refine ⟨_, rfl, ?_⟩; have n0_ := Aside0.mk (blk_below (g := gb312) (o := .cells #[.int .i64 a0_0, .slice A0_1 l0_1.length c0_1, .slice A0_2 l0_2.length c0_2, .int .i64 a0_3] 25 (0, 0)) zq52 hb); have n1_ := Aside0.mk (below_step zq53 hb); clear BK312; clear HB; have BK312 := n0_; have HB := n1_; clear n0_ n1_; (try clear hb); (try clear hb2); (try clear hk); (try clear hi)))
  go_ret
  exact ⟨zq4, zq53⟩
 ·
  rw [if_neg c3] at H
  have c3b0 : decide (t313 < 0) = false := decide_eq_false c3
  clear c3
  replace H := Option.bind_eq_some_iff.mp H
  obtain ⟨⟨t314, t315, t318, t321⟩, A70, H⟩ := H
  replace H : ((spec_UsedBy.f k t314 t315 t318 t321).bind fun t322 => ((laws_toStore.f k a0_0 l0_1 l0_2 a0_3).bind fun bt323 => ((impl_UsedBy.f k bt323.1 bt323.2.1 bt323.2.2.1 bt323.2.2.2).bind fun t332 => (if t332 = t322 then ((laws_toStore.f k a0_0 l0_1 l0_2 a0_3).bind fun bt333 => ((laws_eqStore.f k bt323.1 bt323.2.1 bt323.2.2.1 bt323.2.2.2 bt333.1 bt333.2.1 bt333.2.2.1 bt333.2.2.2).bind fun t341 => (if t341 = true then (some true) else (some false)))) else (some false))))) = some r := H
  have A7 := Aside0.mk A70
  clear A70
  replace H := Option.bind_eq_some_iff.mp H
  obtain ⟨t322, A80, H⟩ := H
  replace H : ((laws_toStore.f k a0_0 l0_1 l0_2 a0_3).bind fun bt323 => ((impl_UsedBy.f k bt323.1 bt323.2.1 bt323.2.2.1 bt323.2.2.2).bind fun t332 => (if t332 = t322 then ((laws_toStore.f k a0_0 l0_1 l0_2 a0_3).bind fun bt333 => ((laws_eqStore.f k bt323.1 bt323.2.1 bt323.2.2.1 bt323.2.2.2 bt333.1 bt333.2.1 bt333.2.2.1 bt333.2.2.2).bind fun t341 => (if t341 = true then (some true) else (some false)))) else (some false)))) = some r := H
  have A8 := Aside0.mk A80
  clear A80
  replace H := Option.bind_eq_some_iff.mp H
  obtain ⟨⟨t323, t324, t327, t330⟩, A90, H⟩ := H
  replace H : ((impl_UsedBy.f k t323 t324 t327 t330).bind fun t332 => (if t332 = t322 then ((laws_toStore.f k a0_0 l0_1 l0_2 a0_3).bind fun bt333 => ((laws_eqStore.f k t323 t324 t327 t330 bt333.1 bt333.2.1 bt333.2.2.1 bt333.2.2.2).bind fun t341 => (if t341 = true then (some true) else (some false)))) else (some false))) = some r := H
  have A9 := Aside0.mk A90
  clear A90
  replace H := Option.bind_eq_some_iff.mp H
  obtain ⟨t332, A100, H⟩ := H
  replace H : (if t332 = t322 then ((laws_toStore.f k a0_0 l0_1 l0_2 a0_3).bind fun bt333 => ((laws_eqStore.f k t323 t324 t327 t330 bt333.1 bt333.2.1 bt333.2.2.1 bt333.2.2.2).bind fun t341 => (if t341 = true then (some true) else (some false)))) else (some false)) = some r := H
  have A10 := Aside0.mk A100
  clear A100
  by_cases c11 : t332 = t322
  ·
   rw [if_pos c11] at H
   have c11b0 : (t332 == t322) = true := beq_iff_eq.mpr c11
   have c11b1 : (t332 != t322) = false := bne_eq_false_iff_eq.mpr c11
   clear c11
   replace H := Option.bind_eq_some_iff.mp H
   obtain ⟨⟨t333, t334, t337, t340⟩, A120, H⟩ := H
   replace H : ((laws_eqStore.f k t323 t324 t327 t330 t333 t334 t337 t340).bind fun t341 => (if t341 = true then (some true) else (some false))) = some r := H
   have A12 := Aside0.mk A120
   clear A120
   replace H := Option.bind_eq_some_iff.mp H
   obtain ⟨t341, A130, H⟩ := H
   replace H : (if t341 = true then (some true) else (some false)) = some r := H
   have A13 := Aside0.mk A130
   clear A130
   by_cases c14 : t341 = true
   ·
    subst c14
    have H1 : (some true) = some r := by rw [if_pos rfl] at H; exact H
    clear H
    have H := H1
    clear H1
    obtain rfl := Option.some.inj H
    go_enter Try.func4, Try.ntmps4
    try go_wp2_with (first | ((with_reducible refine gate_dst (N := 1) rfl ?_); refine box_event ?hg (N := 1) ?hd (cs := #[.int .i64 a0_0, .slice A0_1 l0_1.length c0_1, .slice A0_2 l0_2.length c0_2, .int .i64 a0_3]) (t := 25) ?hr ?_; (case hd => rfl); (case hg => rfl); (case hr => exact zq2); intro gb312 hg w15 hbox hb; have n0_ := Aside0.mk (below_step zq3 hb); have n1_ := Aside0.mk (hbox); have n2_ := Aside0.mk ((zq130 : w.heap.size ≤ gb312)); have n3_ := Aside0.mk ((zq130 : w.heap.size ≤ gb312)); clear HB; have HB := n0_; have BK312 := n1_; have GW312 := n2_; have GE312 := n3_; clear n0_ n1_ n2_ n3_; clear hb hbox hg; have hcz16_0 : w15.cell? ⟨gb312, 0, none⟩ = some (.int .i64 a0_0) := (blk_cell BK312.out 0).trans rfl; have hcz16_1 : w15.cell? ⟨gb312, 1, none⟩ = some (.slice A0_1 l0_1.length c0_1) := (blk_cell BK312.out 1).trans rfl; have hcz16_2 : w15.cell? ⟨gb312, 2, none⟩ = some (.slice A0_2 l0_2.length c0_2) := (blk_cell BK312.out 2).trans rfl; have hcz16_3 : w15.cell? ⟨gb312, 3, none⟩ = some (.int .i64 a0_3) := (blk_cell BK312.out 3).trans rfl; have hfz16_0 := blk_frozen BK312.out 0; have hfz16_1 := blk_frozen BK312.out 1; have hfz16_2 := blk_frozen BK312.out 2; have hfz16_3 := blk_frozen BK312.out 3) | ((with_reducible refine gate_callee (f := 15) rfl ?_); refine goesL_ (some 9) rfl rfl Try.func15 (by kernel_rfl) rfl #[.agg #[.int .i64 a0_0, .slice A0_1 l0_1.length c0_1, .slice A0_2 l0_2.length c0_2, .int .i64 a0_3], .int .i64 1048576] rfl zq8 ?_; (with_reducible refine (laws_szStore.calls k a0_0 _ _ l0_1 _ _ l0_2 a0_3 1048576 t313 _ ?side1 ?side2 ?side3 ?side4 A2.out).mono ?_); (case side1 => exact zq11); (case side2 => exact zq12); (case side3 => exact zq15); (case side4 => exact zq16); rintro e w17 ⟨rfl, hb⟩; refine ⟨_, rfl, ?_⟩; have n0_ := Aside0.mk (blk_below (g := gb312) (o := .cells #[.int .i64 a0_0, .slice A0_1 l0_1.length c0_1, .slice A0_2 l0_2.length c0_2, .int .i64 a0_3] 25 (0, 0)) zq52 hb); have n1_ := Aside0.mk (below_step zq53 hb); clear BK312; clear HB; have BK312 := n0_; have HB := n1_; clear n0_ n1_; (try clear hb); (try clear hb2); (try clear hk); (try clear hi); have hcz18_0 : w17.cell? ⟨gb312, 0, none⟩ = some (.int .i64 a0_0) := (blk_cell BK312.out 0).trans rfl; have hcz18_1 : w17.cell? ⟨gb312, 1, none⟩ = some (.slice A0_1 l0_1.length c0_1) := (blk_cell BK312.out 1).trans rfl; have hcz18_2 : w17.cell? ⟨gb312, 2, none⟩ = some (.slice A0_2 l0_2.length c0_2) := (blk_cell BK312.out 2).trans rfl; have hcz18_3 : w17.cell? ⟨gb312, 3, none⟩ = some (.int .i64 a0_3) := (blk_cell BK312.out 3).trans rfl; have hfz18_0 := blk_frozen BK312.out 0; have hfz18_1 := blk_frozen BK312.out 1; have hfz18_2 := blk_frozen BK312.out 2; have hfz18_3 := blk_frozen BK312.out 3) | ((with_reducible refine gate_callee (f := 17) rfl ?_); refine goesL_ (some 13) rfl rfl Try.func17 (by kernel_rfl) rfl #[.agg #[.int .i64 a0_0, .slice A0_1 l0_1.length c0_1, .slice A0_2 l0_2.length c0_2, .int .i64 a0_3]] rfl zq8 ?_; (with_reducible refine (laws_toStore.calls k a0_0 _ _ l0_1 _ _ l0_2 a0_3 t314 t315 t318 t321 _ ?side1 ?side2 ?side3 ?side4 A7.out).mono ?_); (case side1 => exact zq11); (case side2 => exact zq12); (case side3 => exact zq15); (case side4 => exact zq16); rintro e w19 ⟨v316, v319, rfl, ho0, ho1, hb⟩; refine ⟨_, rfl, ?_⟩; have n0_ := Aside0.mk (Kd.R_lower ho0 (below_size zq53)); have n1_ := Aside0.mk (Kd.R_lower ho1 (below_size zq53)); have n2_ := Aside0.mk (blk_below (g := gb312) (o := .cells #[.int .i64 a0_0, .slice A0_1 l0_1.length c0_1, .slice A0_2 l0_2.length c0_2, .int .i64 a0_3] 25 (0, 0)) zq52 hb); have n3_ := Aside0.mk (below_step zq53 hb); clear BK312; clear HB; have HO317 := n0_; have HO320 := n1_; have BK312 := n2_; have HB := n3_; clear n0_ n1_ n2_ n3_; (try clear hb); (try clear hb2); (try clear hk); (try clear hi); (try clear ho0); (try clear ho1); obtain ⟨Ao20, co20, eo20⟩ := Kd.R_slice HO317.out; subst eo20; obtain ⟨Ao21, co21, eo21⟩ := Kd.R_slice HO320.out; subst eo21) | ((with_reducible refine gate_callee (f := 20) rfl ?_); refine goesL_ (some 14) rfl rfl Try.func20 (by kernel_rfl) rfl #[.agg #[.int .i64 t314, .slice Ao20 t315.length co20, .slice Ao21 t318.length co21, .int .i64 t321]] rfl zq8 ?_; (with_reducible refine (spec_UsedBy.calls k t314 _ _ t315 _ _ t318 t321 t322 _ ?side1 ?side2 ?side3 ?side4 A8.out).mono ?_); (case side1 => exact zq54); (case side2 => exact zq55); (case side3 => exact zq56); (case side4 => exact zq57); rintro e w22 ⟨rfl, hb⟩; refine ⟨_, rfl, ?_⟩; have n0_ := Aside0.mk (Kd.R_below zq58 hb); have n1_ := Aside0.mk (Kd.R_below zq59 hb); have n2_ := Aside0.mk (blk_below (g := gb312) (o := .cells #[.int .i64 a0_0, .slice A0_1 l0_1.length c0_1, .slice A0_2 l0_2.length c0_2, .int .i64 a0_3] 25 (0, 0)) zq52 hb); have n3_ := Aside0.mk (below_step zq53 hb); clear HO317; clear HO320; clear BK312; clear HB; have HO317 := n0_; have HO320 := n1_; have BK312 := n2_; have HB := n3_; clear n0_ n1_ n2_ n3_; (try clear hb); (try clear hb2); (try clear hk); (try clear hi); have hcz23_0 : w22.cell? ⟨gb312, 0, none⟩ = some (.int .i64 a0_0) := (blk_cell BK312.out 0).trans rfl; have hcz23_1 : w22.cell? ⟨gb312, 1, none⟩ = some (.slice A0_1 l0_1.length c0_1) := (blk_cell BK312.out 1).trans rfl; have hcz23_2 : w22.cell? ⟨gb312, 2, none⟩ = some (.slice A0_2 l0_2.length c0_2) := (blk_cell BK312.out 2).trans rfl; have hcz23_3 : w22.cell? ⟨gb312, 3, none⟩ = some (.int .i64 a0_3) := (blk_cell BK312.out 3).trans rfl; have hfz23_0 := blk_frozen BK312.out 0; have hfz23_1 := blk_frozen BK312.out 1; have hfz23_2 := blk_frozen BK312.out 2; have hfz23_3 := blk_frozen BK312.out 3) | ((with_reducible refine gate_callee (f := 17) rfl ?_); refine goesL_ (some 16) rfl rfl Try.func17 (by kernel_rfl) rfl #[.agg #[.int .i64 a0_0, .slice A0_1 l0_1.length c0_1, .slice A0_2 l0_2.length c0_2, .int .i64 a0_3]] rfl zq8 ?_; (with_reducible refine (laws_toStore.calls k a0_0 _ _ l0_1 _ _ l0_2 a0_3 t323 t324 t327 t330 _ ?side1 ?side2 ?side3 ?side4 A9.out).mono ?_); (case side1 => exact zq11); (case side2 => exact zq12); (case side3 => exact zq15); (case side4 => exact zq16); rintro e w24 ⟨v325, v328, rfl, ho0, ho1, hb⟩; refine ⟨_, rfl, ?_⟩; have n0_ := Aside0.mk (Kd.R_elder' zq58 (Kd.R_base ho0) hb); have n1_ := Aside0.mk (Kd.R_elder' zq59 (Kd.R_base ho1) hb); have n2_ := Aside0.mk (Kd.R_lower (Kd.R_new' ho0 (Kd.R_lt zq58)) (below_size zq53)); have n3_ := Aside0.mk (Kd.R_lower (Kd.R_new' ho1 (Kd.R_lt zq59)) (below_size zq53)); have n4_ := Aside0.mk (blk_below (g := gb312) (o := .cells #[.int .i64 a0_0, .slice A0_1 l0_1.length c0_1, .slice A0_2 l0_2.length c0_2, .int .i64 a0_3] 25 (0, 0)) zq52 hb); have n5_ := Aside0.mk (below_step zq53 hb); clear HO317; clear HO320; clear BK312; clear HB; have HO317 := n0_; have HO320 := n1_; have HO326 := n2_; have HO329 := n3_; have BK312 := n4_; have HB := n5_; clear n0_ n1_ n2_ n3_ n4_ n5_; (try clear hb); (try clear hb2); (try clear hk); (try clear hi); (try clear ho0); (try clear ho1)) | ((with_reducible refine gate_dst (N := 5) rfl ?_); refine box_event ?hg (N := 5) ?hd (cs := #[.int .i64 0, .slice none 0 0, .slice none 0 0, .int .i64 0]) (t := 31) ?hr ?_; (case hd => rfl); (case hg => rfl); (case hr => exact zq2); intro gb331 hg w25 hbox hb; have n0_ := Aside0.mk (Kd.R_below zq58 hb); have n1_ := Aside0.mk (Kd.R_below zq59 hb); have n2_ := Aside0.mk (Kd.R_below zq60 hb); have n3_ := Aside0.mk (Kd.R_below zq61 hb); have n4_ := Aside0.mk (blk_below (g := gb312) (o := .cells #[.int .i64 a0_0, .slice A0_1 l0_1.length c0_1, .slice A0_2 l0_2.length c0_2, .int .i64 a0_3] 25 (0, 0)) zq52 hb); have n5_ := Aside0.mk (below_step zq53 hb); have n6_ := Aside0.mk (hbox); have n7_ := Aside0.mk ((zq146 : w.heap.size ≤ gb331)); have n8_ := Aside0.mk ((zq146 : w.heap.size ≤ gb331)); have n9_ := Aside0.mk ((zq147 : gb312 ≠ gb331)); have n10_ := Aside0.mk ((zq148 : gb331 ≠ gb312)); clear HO317; clear HO320; clear HO326; clear HO329; clear BK312; clear HB; have HO317 := n0_; have HO320 := n1_; have HO326 := n2_; have HO329 := n3_; have BK312 := n4_; have HB := n5_; have BK331 := n6_; have GW331 := n7_; have GE331 := n8_; have NB312_331 := n9_; have NB331_312 := n10_; clear n0_ n1_ n2_ n3_ n4_ n5_ n6_ n7_ n8_ n9_ n10_; clear hb hbox hg; have hnb26 := NB331_312.out; have hnc26 := NB312_331.out; have hcz27_0 : w25.cell? ⟨gb331, 0, none⟩ = some (.int .i64 0) := (blk_cell BK331.out 0).trans rfl; have hcz27_1 : w25.cell? ⟨gb331, 1, none⟩ = some (.slice none 0 0) := (blk_cell BK331.out 1).trans rfl; have hcz27_2 : w25.cell? ⟨gb331, 2, none⟩ = some (.slice none 0 0) := (blk_cell BK331.out 2).trans rfl; have hcz27_3 : w25.cell? ⟨gb331, 3, none⟩ = some (.int .i64 0) := (blk_cell BK331.out 3).trans rfl; have hfz27_0 := blk_frozen BK331.out 0; have hfz27_1 := blk_frozen BK331.out 1; have hfz27_2 := blk_frozen BK331.out 2; have hfz27_3 := blk_frozen BK331.out 3; obtain ⟨Ao28, co28, eo28⟩ := Kd.R_slice HO326.out; subst eo28; obtain ⟨Ao29, co29, eo29⟩ := Kd.R_slice HO329.out; subst eo29) | ((with_reducible refine gate_callee (f := 21) rfl ?_); refine goesL_ (some 18) rfl rfl Try.func21 (by kernel_rfl) rfl #[.agg #[.int .i64 t323, .slice Ao28 t324.length co28, .slice Ao29 t327.length co29, .int .i64 t330]] rfl zq8 ?_; (with_reducible refine (impl_UsedBy.calls k t323 _ _ t324 _ _ t327 t330 t332 _ ?side1 ?side2 ?side3 ?side4 A10.out).mono ?_); (case side1 => refine (Kd.R_reads' (e := 66) (base := w.heap.size) (ok := fun k_ => (True ∧ some k_ ≠ (.slice Ao20 t315.length co20 : Value).ownBlock)) (n := t324.length) (c := co28) ?_).2.2; exact zq62); (case side2 => exact zq63); (case side3 => refine (Kd.R_reads' (e := 68) (base := w.heap.size) (ok := fun k_ => (True ∧ some k_ ≠ (.slice Ao21 t318.length co21 : Value).ownBlock)) (n := t327.length) (c := co29) ?_).2.2; exact zq64); (case side4 => exact zq65); rintro e w30 ⟨rfl, hb⟩; refine ⟨_, rfl, ?_⟩; have n0_ := Aside0.mk (Kd.R_below (by (with_reducible repeat (first | apply Kd.R_alloc | apply Kd.R_drewN | apply Kd.R_drew)); exact (Kd.R_mono (Kd.R_far (p := ⟨gb331, 3, none⟩) (Kd.R_far (p := ⟨gb331, 2, none⟩) (Kd.R_far (p := ⟨gb331, 1, none⟩) (Kd.R_far (p := ⟨gb331, 0, none⟩) (Kd.R_types HO317.out BK331.out (by decide)) (fun _ hk => hk.2) (.int .i64 t323)) (fun _ hk => hk.2) (.slice Ao28 t324.length co28)) (fun _ hk => hk.2) (.slice Ao29 t327.length co29)) (fun _ hk => hk.2) (.int .i64 t330)) (fun _ h_ => h_.1))) hb); have n1_ := Aside0.mk (Kd.R_below (by (with_reducible repeat (first | apply Kd.R_alloc | apply Kd.R_drewN | apply Kd.R_drew)); exact (Kd.R_mono (Kd.R_far (p := ⟨gb331, 3, none⟩) (Kd.R_far (p := ⟨gb331, 2, none⟩) (Kd.R_far (p := ⟨gb331, 1, none⟩) (Kd.R_far (p := ⟨gb331, 0, none⟩) (Kd.R_types HO320.out BK331.out (by decide)) (fun _ hk => hk.2) (.int .i64 t323)) (fun _ hk => hk.2) (.slice Ao28 t324.length co28)) (fun _ hk => hk.2) (.slice Ao29 t327.length co29)) (fun _ hk => hk.2) (.int .i64 t330)) (fun _ h_ => h_.1))) hb); have n2_ := Aside0.mk (Kd.R_below zq62 hb); have n3_ := Aside0.mk (Kd.R_below zq64 hb); have n4_ := Aside0.mk (blk_below (g := gb312) (o := .cells #[.int .i64 a0_0, .slice A0_1 l0_1.length c0_1, .slice A0_2 l0_2.length c0_2, .int .i64 a0_3] 25 (0, 0)) zq66 hb); have n5_ := Aside0.mk (blk_below (g := gb331) (o := .cells #[.int .i64 t323, .slice Ao28 t324.length co28, .slice Ao29 t327.length co29, .int .i64 t330] 31 (0, 0)) (by (with_reducible repeat (first | refine blk_drewN ?_ _ | refine blk_drew ?_ | refine blk_alloc ?_ _)); refine blk_put (cs := #[.int .i64 t323, .slice Ao28 t324.length co28, .slice Ao29 t327.length co29, .int .i64 0]) ?_ 3 _ rfl; (with_reducible repeat (first | refine blk_drewN ?_ _ | refine blk_drew ?_ | refine blk_alloc ?_ _)); refine blk_put (cs := #[.int .i64 t323, .slice Ao28 t324.length co28, .slice none 0 0, .int .i64 0]) ?_ 2 _ rfl; (with_reducible repeat (first | refine blk_drewN ?_ _ | refine blk_drew ?_ | refine blk_alloc ?_ _)); refine blk_put (cs := #[.int .i64 t323, .slice none 0 0, .slice none 0 0, .int .i64 0]) ?_ 1 _ rfl; (with_reducible repeat (first | refine blk_drewN ?_ _ | refine blk_drew ?_ | refine blk_alloc ?_ _)); refine blk_put (cs := #[.int .i64 0, .slice none 0 0, .slice none 0 0, .int .i64 0]) ?_ 0 _ rfl; (with_reducible repeat (first | refine blk_drewN ?_ _ | refine blk_drew ?_ | refine blk_alloc ?_ _)); exact BK331.out) hb); have n6_ := Aside0.mk (below_step zq67 hb); clear HO317; clear HO320; clear HO326; clear HO329; clear BK312; clear BK331; clear HB; have HO317 := n0_; have HO320 := n1_; have HO326 := n2_; have HO329 := n3_; have BK312 := n4_; have BK331 := n5_; have HB := n6_; clear n0_ n1_ n2_ n3_ n4_ n5_ n6_; (try clear hb); (try clear hb2); (try clear hk); (try clear hi)))
    have n0_ := Aside0.mk (Kd.R_drew HO317.out)
    have n1_ := Aside0.mk (Kd.R_drew HO320.out)
    have n2_ := Aside0.mk (Kd.R_drew HO326.out)
    have n3_ := Aside0.mk (Kd.R_drew HO329.out)
    have n4_ := Aside0.mk (blk_drew BK312.out)
    have n5_ := Aside0.mk (blk_drew BK331.out)
    have n6_ := Aside0.mk (below_drew1 HB.out)
    clear HO317
    clear HO320
    clear HO326
    clear HO329
    clear BK312
    clear BK331
    clear HB
    have HO317 := n0_
    have HO320 := n1_
    have HO326 := n2_
    have HO329 := n3_
    have BK312 := n4_
    have BK331 := n5_
    have HB := n6_
    clear n0_ n1_ n2_ n3_ n4_ n5_ n6_
    refine start_ (n := 5) (S := fun w' => w'.cell? ⟨gb331, 0, none⟩ = some (.int .i64 t323) ∧ w'.cell? ⟨gb331, 1, none⟩ = some (.slice Ao28 t324.length co28) ∧ w'.cell? ⟨gb331, 2, none⟩ = some (.slice Ao29 t327.length co29) ∧ w'.cell? ⟨gb331, 3, none⟩ = some (.int .i64 t330) ∧ w'.cell? ⟨gb312, 0, none⟩ = some (.int .i64 a0_0) ∧ w'.cell? ⟨gb312, 1, none⟩ = some (.slice A0_1 l0_1.length c0_1) ∧ w'.cell? ⟨gb312, 2, none⟩ = some (.slice A0_2 l0_2.length c0_2) ∧ w'.cell? ⟨gb312, 3, none⟩ = some (.int .i64 a0_3)) (ds := []) #[false, false, false, false, false] (by kernel_rfl) rfl rfl ⟨(blk_cell BK331.out 0).trans rfl, (blk_cell BK331.out 1).trans rfl, (blk_cell BK331.out 2).trans rfl, (blk_cell BK331.out 3).trans rfl, (blk_cell BK312.out 0).trans rfl, (blk_cell BK312.out 1).trans rfl, (blk_cell BK312.out 2).trans rfl, (blk_cell BK312.out 3).trans rfl⟩ (fun hHeld => ?_)
    generalize w30.drew = w31 at HO317 HO320 HO326 HO329 BK312 BK331 HB hHeld ⊢
    refine take_ (i := 0) (N := some 22) (v := ?_) (a' := ?_) #[true, false, false, false, false] rfl rfl (by kernel_rfl) (fun _ _ _ h => h) (Or.inl ⟨by rfl, ?_⟩) hHeld ?_ ?_
    rotate_left
    exact zq170
    rotate_left
    exact zq167
    refine take_ (i := 1) (N := some 23) (v := ?_) (a' := ?_) #[true, true, false, false, false] rfl rfl (by kernel_rfl) (fun _ _ _ h => h) (Or.inl ⟨by rfl, ?_⟩) hHeld ?_ ?_
    rotate_left
    exact zq170
    rotate_left
    exact zq167
    refine one_ (i := 2) (N := some 24) #[true, true, true, false, false] rfl rfl (by kernel_rfl) (by decide) (fun K hK => ?_)
    refine goes_ Try.func17 (by kernel_rfl) rfl #[.agg #[.int .i64 a0_0, .slice A0_1 l0_1.length c0_1, .slice A0_2 l0_2.length c0_2, .int .i64 a0_3]] (by rfl) rfl rfl zq8 ?_
    with_reducible refine (laws_toStore.calls k a0_0 _ _ l0_1 _ _ l0_2 a0_3 t333 t334 t337 t340 _ ?side1 ?side2 ?side3 ?side4 A12.out).mono ?_
    (case side1 => exact zq11)
    (case side2 => exact zq12)
    (case side3 => exact zq15)
    (case side4 => exact zq16)
    rintro e w32 ⟨v335, v338, rfl, ho0, ho1, hb⟩
    refine ⟨_, rfl, ?_⟩
    have n0_ := Aside0.mk (Kd.R_elder' zq58 (Kd.R_base ho0) hb)
    have n1_ := Aside0.mk (Kd.R_elder' zq59 (Kd.R_base ho1) hb)
    have n2_ := Aside0.mk (Kd.R_elder' zq60 (Kd.R_base ho0) hb)
    have n3_ := Aside0.mk (Kd.R_elder' zq61 (Kd.R_base ho1) hb)
    have n4_ := Aside0.mk (Kd.R_lower (Kd.R_new' (Kd.R_new' ho0 (Kd.R_lt zq58)) (Kd.R_lt zq60)) (below_size zq67))
    have n5_ := Aside0.mk (Kd.R_lower (Kd.R_new' (Kd.R_new' ho1 (Kd.R_lt zq59)) (Kd.R_lt zq61)) (below_size zq67))
    have n6_ := Aside0.mk (blk_below (g := gb312) (o := .cells #[.int .i64 a0_0, .slice A0_1 l0_1.length c0_1, .slice A0_2 l0_2.length c0_2, .int .i64 a0_3] 25 (0, 0)) zq52 hb)
    have n7_ := Aside0.mk (blk_below (g := gb331) (o := .cells #[.int .i64 t323, .slice Ao28 t324.length co28, .slice Ao29 t327.length co29, .int .i64 t330] 31 (0, 0)) zq68 hb)
    have n8_ := Aside0.mk (below_step zq67 hb)
    clear HO317
    clear HO320
    clear HO326
    clear HO329
    clear BK312
    clear BK331
    clear HB
    have HO317 := n0_
    have HO320 := n1_
    have HO326 := n2_
    have HO329 := n3_
    have HO336 := n4_
    have HO339 := n5_
    have BK312 := n6_
    have BK331 := n7_
    have HB := n8_
    clear n0_ n1_ n2_ n3_ n4_ n5_ n6_ n7_ n8_
    (try clear hb)
    (try clear hb2)
    (try clear hk)
    (try clear hi)
    (try clear ho0)
    (try clear ho1)
    obtain ⟨Ao33, co33, eo33⟩ := Kd.R_slice HO336.out
    (first | subst eo33 | (injection eo33 with f1_ f2_ f3_; have f4_ := f1_.symm; have f5_ := f3_.symm; clear f1_ f2_ f3_; subst f4_; subst f5_))
    obtain ⟨Ao34, co34, eo34⟩ := Kd.R_slice HO339.out
    (first | subst eo34 | (injection eo34 with f1_ f2_ f3_; have f4_ := f1_.symm; have f5_ := f3_.symm; clear f1_ f2_ f3_; subst f4_; subst f5_))
    refine hK.out _ _ ⟨(blk_cell BK331.out 0).trans rfl, (blk_cell BK331.out 1).trans rfl, (blk_cell BK331.out 2).trans rfl, (blk_cell BK331.out 3).trans rfl, (blk_cell BK312.out 0).trans rfl, (blk_cell BK312.out 1).trans rfl, (blk_cell BK312.out 2).trans rfl, (blk_cell BK312.out 3).trans rfl⟩ (fun hHeld => ?_)
    clear hK K
    refine norm_ (a' := ?_) ?_ ?_
    rotate_left
    ·
     show Act.put _ (some 24) _ = _
     simp only [Act.put, List.setIfInBounds_toArray, List.set_cons_zero, List.set_cons_succ, i64_w, i32_w]
     rfl
    refine one_ (i := 3) (N := some 25) #[true, true, true, true, false] rfl rfl (by kernel_rfl) (by decide) (fun K hK => ?_)
    refine goes_ Try.func19 (by kernel_rfl) rfl #[.agg #[.int .i64 t323, .slice Ao28 t324.length co28, .slice Ao29 t327.length co29, .int .i64 t330], .agg #[.int .i64 t333, .slice Ao33 t334.length co33, .slice Ao34 t337.length co34, .int .i64 t340]] (by rfl) rfl rfl zq8 ?_
    with_reducible refine (laws_eqStore.calls k t323 _ _ t324 _ _ t327 t330 t333 _ _ t334 _ _ t337 t340 true _ ?side1 ?side2 ?side3 ?side4 ?side5 ?side6 ?side7 ?side8 A13.out).mono ?_
    (case side1 => exact zq69)
    (case side2 => exact zq63)
    (case side3 => exact zq70)
    (case side4 => exact zq65)
    (case side5 => exact zq71)
    (case side6 => exact (Kd.R_reads' HO336.out).2.1)
    (case side7 => exact zq72)
    (case side8 => exact (Kd.R_reads' HO339.out).2.1)
    rintro e w35 ⟨rfl, hb⟩
    refine ⟨_, rfl, ?_⟩
    have n0_ := Aside0.mk (Kd.R_below zq58 hb)
    have n1_ := Aside0.mk (Kd.R_below zq59 hb)
    have n2_ := Aside0.mk (Kd.R_below zq60 hb)
    have n3_ := Aside0.mk (Kd.R_below zq61 hb)
    have n4_ := Aside0.mk (Kd.R_below zq73 hb)
    have n5_ := Aside0.mk (Kd.R_below zq74 hb)
    have n6_ := Aside0.mk (blk_below (g := gb312) (o := .cells #[.int .i64 a0_0, .slice A0_1 l0_1.length c0_1, .slice A0_2 l0_2.length c0_2, .int .i64 a0_3] 25 (0, 0)) zq52 hb)
    have n7_ := Aside0.mk (blk_below (g := gb331) (o := .cells #[.int .i64 t323, .slice Ao28 t324.length co28, .slice Ao29 t327.length co29, .int .i64 t330] 31 (0, 0)) zq68 hb)
    have n8_ := Aside0.mk (below_step zq67 hb)
    clear HO317
    clear HO320
    clear HO326
    clear HO329
    clear HO336
    clear HO339
    clear BK312
    clear BK331
    clear HB
    have HO317 := n0_
    have HO320 := n1_
    have HO326 := n2_
    have HO329 := n3_
    have HO336 := n4_
    have HO339 := n5_
    have BK312 := n6_
    have BK331 := n7_
    have HB := n8_
    clear n0_ n1_ n2_ n3_ n4_ n5_ n6_ n7_ n8_
    (try clear hb)
    (try clear hb2)
    (try clear hk)
    (try clear hi)
    refine hK.out _ _ ⟨(blk_cell BK331.out 0).trans rfl, (blk_cell BK331.out 1).trans rfl, (blk_cell BK331.out 2).trans rfl, (blk_cell BK331.out 3).trans rfl, (blk_cell BK312.out 0).trans rfl, (blk_cell BK312.out 1).trans rfl, (blk_cell BK312.out 2).trans rfl, (blk_cell BK312.out 3).trans rfl⟩ (fun hHeld => ?_)
    clear hK K
    refine norm_ (a' := ?_) ?_ ?_
    rotate_left
    exact zq175
    refine pure_ (i := 4) (N := some 26) (v := ?_) (a' := ?_) #[true, true, true, true, true] rfl rfl (by kernel_rfl) (fun _ _ _ h => h) (Or.inl ⟨by rfl, ?_⟩) ?_ ?_
    rotate_left
    exact zq166
    rotate_left
    exact zq167
    refine done_ (by kernel_rfl) ?_
    try go_wp2
    go_ret
    exact ⟨zq4, zq67⟩
   ·
    replace c14 := Bool.eq_false_iff.mpr c14
    subst c14
    have H1 : (some false) = some r := by rw [if_neg (show ¬ (false = true) by decide)] at H; exact H
    clear H
    have H := H1
    clear H1
    obtain rfl := Option.some.inj H
    go_enter Try.func4, Try.ntmps4
    try go_wp2_with (first | ((with_reducible refine gate_dst (N := 1) rfl ?_); refine box_event ?hg (N := 1) ?hd (cs := #[.int .i64 a0_0, .slice A0_1 l0_1.length c0_1, .slice A0_2 l0_2.length c0_2, .int .i64 a0_3]) (t := 25) ?hr ?_; (case hd => rfl); (case hg => rfl); (case hr => exact zq2); intro gb312 hg w36 hbox hb; have n0_ := Aside0.mk (below_step zq3 hb); have n1_ := Aside0.mk (hbox); have n2_ := Aside0.mk ((zq130 : w.heap.size ≤ gb312)); have n3_ := Aside0.mk ((zq130 : w.heap.size ≤ gb312)); clear HB; have HB := n0_; have BK312 := n1_; have GW312 := n2_; have GE312 := n3_; clear n0_ n1_ n2_ n3_; clear hb hbox hg; have hcz37_0 : w36.cell? ⟨gb312, 0, none⟩ = some (.int .i64 a0_0) := (blk_cell BK312.out 0).trans rfl; have hcz37_1 : w36.cell? ⟨gb312, 1, none⟩ = some (.slice A0_1 l0_1.length c0_1) := (blk_cell BK312.out 1).trans rfl; have hcz37_2 : w36.cell? ⟨gb312, 2, none⟩ = some (.slice A0_2 l0_2.length c0_2) := (blk_cell BK312.out 2).trans rfl; have hcz37_3 : w36.cell? ⟨gb312, 3, none⟩ = some (.int .i64 a0_3) := (blk_cell BK312.out 3).trans rfl; have hfz37_0 := blk_frozen BK312.out 0; have hfz37_1 := blk_frozen BK312.out 1; have hfz37_2 := blk_frozen BK312.out 2; have hfz37_3 := blk_frozen BK312.out 3) | ((with_reducible refine gate_callee (f := 15) rfl ?_); refine goesL_ (some 9) rfl rfl Try.func15 (by kernel_rfl) rfl #[.agg #[.int .i64 a0_0, .slice A0_1 l0_1.length c0_1, .slice A0_2 l0_2.length c0_2, .int .i64 a0_3], .int .i64 1048576] rfl zq8 ?_; (with_reducible refine (laws_szStore.calls k a0_0 _ _ l0_1 _ _ l0_2 a0_3 1048576 t313 _ ?side1 ?side2 ?side3 ?side4 A2.out).mono ?_); (case side1 => exact zq11); (case side2 => exact zq12); (case side3 => exact zq15); (case side4 => exact zq16); rintro e w38 ⟨rfl, hb⟩; refine ⟨_, rfl, ?_⟩; have n0_ := Aside0.mk (blk_below (g := gb312) (o := .cells #[.int .i64 a0_0, .slice A0_1 l0_1.length c0_1, .slice A0_2 l0_2.length c0_2, .int .i64 a0_3] 25 (0, 0)) zq52 hb); have n1_ := Aside0.mk (below_step zq53 hb); clear BK312; clear HB; have BK312 := n0_; have HB := n1_; clear n0_ n1_; (try clear hb); (try clear hb2); (try clear hk); (try clear hi); have hcz39_0 : w38.cell? ⟨gb312, 0, none⟩ = some (.int .i64 a0_0) := (blk_cell BK312.out 0).trans rfl; have hcz39_1 : w38.cell? ⟨gb312, 1, none⟩ = some (.slice A0_1 l0_1.length c0_1) := (blk_cell BK312.out 1).trans rfl; have hcz39_2 : w38.cell? ⟨gb312, 2, none⟩ = some (.slice A0_2 l0_2.length c0_2) := (blk_cell BK312.out 2).trans rfl; have hcz39_3 : w38.cell? ⟨gb312, 3, none⟩ = some (.int .i64 a0_3) := (blk_cell BK312.out 3).trans rfl; have hfz39_0 := blk_frozen BK312.out 0; have hfz39_1 := blk_frozen BK312.out 1; have hfz39_2 := blk_frozen BK312.out 2; have hfz39_3 := blk_frozen BK312.out 3) | ((with_reducible refine gate_callee (f := 17) rfl ?_); refine goesL_ (some 13) rfl rfl Try.func17 (by kernel_rfl) rfl #[.agg #[.int .i64 a0_0, .slice A0_1 l0_1.length c0_1, .slice A0_2 l0_2.length c0_2, .int .i64 a0_3]] rfl zq8 ?_; (with_reducible refine (laws_toStore.calls k a0_0 _ _ l0_1 _ _ l0_2 a0_3 t314 t315 t318 t321 _ ?side1 ?side2 ?side3 ?side4 A7.out).mono ?_); (case side1 => exact zq11); (case side2 => exact zq12); (case side3 => exact zq15); (case side4 => exact zq16); rintro e w40 ⟨v316, v319, rfl, ho0, ho1, hb⟩; refine ⟨_, rfl, ?_⟩; have n0_ := Aside0.mk (Kd.R_lower ho0 (below_size zq53)); have n1_ := Aside0.mk (Kd.R_lower ho1 (below_size zq53)); have n2_ := Aside0.mk (blk_below (g := gb312) (o := .cells #[.int .i64 a0_0, .slice A0_1 l0_1.length c0_1, .slice A0_2 l0_2.length c0_2, .int .i64 a0_3] 25 (0, 0)) zq52 hb); have n3_ := Aside0.mk (below_step zq53 hb); clear BK312; clear HB; have HO317 := n0_; have HO320 := n1_; have BK312 := n2_; have HB := n3_; clear n0_ n1_ n2_ n3_; (try clear hb); (try clear hb2); (try clear hk); (try clear hi); (try clear ho0); (try clear ho1); obtain ⟨Ao41, co41, eo41⟩ := Kd.R_slice HO317.out; subst eo41; obtain ⟨Ao42, co42, eo42⟩ := Kd.R_slice HO320.out; subst eo42) | ((with_reducible refine gate_callee (f := 20) rfl ?_); refine goesL_ (some 14) rfl rfl Try.func20 (by kernel_rfl) rfl #[.agg #[.int .i64 t314, .slice Ao41 t315.length co41, .slice Ao42 t318.length co42, .int .i64 t321]] rfl zq8 ?_; (with_reducible refine (spec_UsedBy.calls k t314 _ _ t315 _ _ t318 t321 t322 _ ?side1 ?side2 ?side3 ?side4 A8.out).mono ?_); (case side1 => exact zq54); (case side2 => exact zq55); (case side3 => exact zq56); (case side4 => exact zq57); rintro e w43 ⟨rfl, hb⟩; refine ⟨_, rfl, ?_⟩; have n0_ := Aside0.mk (Kd.R_below zq58 hb); have n1_ := Aside0.mk (Kd.R_below zq59 hb); have n2_ := Aside0.mk (blk_below (g := gb312) (o := .cells #[.int .i64 a0_0, .slice A0_1 l0_1.length c0_1, .slice A0_2 l0_2.length c0_2, .int .i64 a0_3] 25 (0, 0)) zq52 hb); have n3_ := Aside0.mk (below_step zq53 hb); clear HO317; clear HO320; clear BK312; clear HB; have HO317 := n0_; have HO320 := n1_; have BK312 := n2_; have HB := n3_; clear n0_ n1_ n2_ n3_; (try clear hb); (try clear hb2); (try clear hk); (try clear hi); have hcz44_0 : w43.cell? ⟨gb312, 0, none⟩ = some (.int .i64 a0_0) := (blk_cell BK312.out 0).trans rfl; have hcz44_1 : w43.cell? ⟨gb312, 1, none⟩ = some (.slice A0_1 l0_1.length c0_1) := (blk_cell BK312.out 1).trans rfl; have hcz44_2 : w43.cell? ⟨gb312, 2, none⟩ = some (.slice A0_2 l0_2.length c0_2) := (blk_cell BK312.out 2).trans rfl; have hcz44_3 : w43.cell? ⟨gb312, 3, none⟩ = some (.int .i64 a0_3) := (blk_cell BK312.out 3).trans rfl; have hfz44_0 := blk_frozen BK312.out 0; have hfz44_1 := blk_frozen BK312.out 1; have hfz44_2 := blk_frozen BK312.out 2; have hfz44_3 := blk_frozen BK312.out 3) | ((with_reducible refine gate_callee (f := 17) rfl ?_); refine goesL_ (some 16) rfl rfl Try.func17 (by kernel_rfl) rfl #[.agg #[.int .i64 a0_0, .slice A0_1 l0_1.length c0_1, .slice A0_2 l0_2.length c0_2, .int .i64 a0_3]] rfl zq8 ?_; (with_reducible refine (laws_toStore.calls k a0_0 _ _ l0_1 _ _ l0_2 a0_3 t323 t324 t327 t330 _ ?side1 ?side2 ?side3 ?side4 A9.out).mono ?_); (case side1 => exact zq11); (case side2 => exact zq12); (case side3 => exact zq15); (case side4 => exact zq16); rintro e w45 ⟨v325, v328, rfl, ho0, ho1, hb⟩; refine ⟨_, rfl, ?_⟩; have n0_ := Aside0.mk (Kd.R_elder' zq58 (Kd.R_base ho0) hb); have n1_ := Aside0.mk (Kd.R_elder' zq59 (Kd.R_base ho1) hb); have n2_ := Aside0.mk (Kd.R_lower (Kd.R_new' ho0 (Kd.R_lt zq58)) (below_size zq53)); have n3_ := Aside0.mk (Kd.R_lower (Kd.R_new' ho1 (Kd.R_lt zq59)) (below_size zq53)); have n4_ := Aside0.mk (blk_below (g := gb312) (o := .cells #[.int .i64 a0_0, .slice A0_1 l0_1.length c0_1, .slice A0_2 l0_2.length c0_2, .int .i64 a0_3] 25 (0, 0)) zq52 hb); have n5_ := Aside0.mk (below_step zq53 hb); clear HO317; clear HO320; clear BK312; clear HB; have HO317 := n0_; have HO320 := n1_; have HO326 := n2_; have HO329 := n3_; have BK312 := n4_; have HB := n5_; clear n0_ n1_ n2_ n3_ n4_ n5_; (try clear hb); (try clear hb2); (try clear hk); (try clear hi); (try clear ho0); (try clear ho1)) | ((with_reducible refine gate_dst (N := 5) rfl ?_); refine box_event ?hg (N := 5) ?hd (cs := #[.int .i64 0, .slice none 0 0, .slice none 0 0, .int .i64 0]) (t := 31) ?hr ?_; (case hd => rfl); (case hg => rfl); (case hr => exact zq2); intro gb331 hg w46 hbox hb; have n0_ := Aside0.mk (Kd.R_below zq58 hb); have n1_ := Aside0.mk (Kd.R_below zq59 hb); have n2_ := Aside0.mk (Kd.R_below zq60 hb); have n3_ := Aside0.mk (Kd.R_below zq61 hb); have n4_ := Aside0.mk (blk_below (g := gb312) (o := .cells #[.int .i64 a0_0, .slice A0_1 l0_1.length c0_1, .slice A0_2 l0_2.length c0_2, .int .i64 a0_3] 25 (0, 0)) zq52 hb); have n5_ := Aside0.mk (below_step zq53 hb); have n6_ := Aside0.mk (hbox); have n7_ := Aside0.mk ((zq146 : w.heap.size ≤ gb331)); have n8_ := Aside0.mk ((zq146 : w.heap.size ≤ gb331)); have n9_ := Aside0.mk ((zq147 : gb312 ≠ gb331)); have n10_ := Aside0.mk ((zq148 : gb331 ≠ gb312)); clear HO317; clear HO320; clear HO326; clear HO329; clear BK312; clear HB; have HO317 := n0_; have HO320 := n1_; have HO326 := n2_; have HO329 := n3_; have BK312 := n4_; have HB := n5_; have BK331 := n6_; have GW331 := n7_; have GE331 := n8_; have NB312_331 := n9_; have NB331_312 := n10_; clear n0_ n1_ n2_ n3_ n4_ n5_ n6_ n7_ n8_ n9_ n10_; clear hb hbox hg; have hnb47 := NB331_312.out; have hnc47 := NB312_331.out; have hcz48_0 : w46.cell? ⟨gb331, 0, none⟩ = some (.int .i64 0) := (blk_cell BK331.out 0).trans rfl; have hcz48_1 : w46.cell? ⟨gb331, 1, none⟩ = some (.slice none 0 0) := (blk_cell BK331.out 1).trans rfl; have hcz48_2 : w46.cell? ⟨gb331, 2, none⟩ = some (.slice none 0 0) := (blk_cell BK331.out 2).trans rfl; have hcz48_3 : w46.cell? ⟨gb331, 3, none⟩ = some (.int .i64 0) := (blk_cell BK331.out 3).trans rfl; have hfz48_0 := blk_frozen BK331.out 0; have hfz48_1 := blk_frozen BK331.out 1; have hfz48_2 := blk_frozen BK331.out 2; have hfz48_3 := blk_frozen BK331.out 3; obtain ⟨Ao49, co49, eo49⟩ := Kd.R_slice HO326.out; subst eo49; obtain ⟨Ao50, co50, eo50⟩ := Kd.R_slice HO329.out; subst eo50) | ((with_reducible refine gate_callee (f := 21) rfl ?_); refine goesL_ (some 18) rfl rfl Try.func21 (by kernel_rfl) rfl #[.agg #[.int .i64 t323, .slice Ao49 t324.length co49, .slice Ao50 t327.length co50, .int .i64 t330]] rfl zq8 ?_; (with_reducible refine (impl_UsedBy.calls k t323 _ _ t324 _ _ t327 t330 t332 _ ?side1 ?side2 ?side3 ?side4 A10.out).mono ?_); (case side1 => refine (Kd.R_reads' (e := 66) (base := w.heap.size) (ok := fun k_ => (True ∧ some k_ ≠ (.slice Ao41 t315.length co41 : Value).ownBlock)) (n := t324.length) (c := co49) ?_).2.2; exact zq75); (case side2 => exact zq63); (case side3 => refine (Kd.R_reads' (e := 68) (base := w.heap.size) (ok := fun k_ => (True ∧ some k_ ≠ (.slice Ao42 t318.length co42 : Value).ownBlock)) (n := t327.length) (c := co50) ?_).2.2; exact zq76); (case side4 => exact zq65); rintro e w51 ⟨rfl, hb⟩; refine ⟨_, rfl, ?_⟩; have n0_ := Aside0.mk (Kd.R_below (by (with_reducible repeat (first | apply Kd.R_alloc | apply Kd.R_drewN | apply Kd.R_drew)); exact (Kd.R_mono (Kd.R_far (p := ⟨gb331, 3, none⟩) (Kd.R_far (p := ⟨gb331, 2, none⟩) (Kd.R_far (p := ⟨gb331, 1, none⟩) (Kd.R_far (p := ⟨gb331, 0, none⟩) (Kd.R_types HO317.out BK331.out (by decide)) (fun _ hk => hk.2) (.int .i64 t323)) (fun _ hk => hk.2) (.slice Ao49 t324.length co49)) (fun _ hk => hk.2) (.slice Ao50 t327.length co50)) (fun _ hk => hk.2) (.int .i64 t330)) (fun _ h_ => h_.1))) hb); have n1_ := Aside0.mk (Kd.R_below (by (with_reducible repeat (first | apply Kd.R_alloc | apply Kd.R_drewN | apply Kd.R_drew)); exact (Kd.R_mono (Kd.R_far (p := ⟨gb331, 3, none⟩) (Kd.R_far (p := ⟨gb331, 2, none⟩) (Kd.R_far (p := ⟨gb331, 1, none⟩) (Kd.R_far (p := ⟨gb331, 0, none⟩) (Kd.R_types HO320.out BK331.out (by decide)) (fun _ hk => hk.2) (.int .i64 t323)) (fun _ hk => hk.2) (.slice Ao49 t324.length co49)) (fun _ hk => hk.2) (.slice Ao50 t327.length co50)) (fun _ hk => hk.2) (.int .i64 t330)) (fun _ h_ => h_.1))) hb); have n2_ := Aside0.mk (Kd.R_below zq75 hb); have n3_ := Aside0.mk (Kd.R_below zq76 hb); have n4_ := Aside0.mk (blk_below (g := gb312) (o := .cells #[.int .i64 a0_0, .slice A0_1 l0_1.length c0_1, .slice A0_2 l0_2.length c0_2, .int .i64 a0_3] 25 (0, 0)) zq66 hb); have n5_ := Aside0.mk (blk_below (g := gb331) (o := .cells #[.int .i64 t323, .slice Ao49 t324.length co49, .slice Ao50 t327.length co50, .int .i64 t330] 31 (0, 0)) (by (with_reducible repeat (first | refine blk_drewN ?_ _ | refine blk_drew ?_ | refine blk_alloc ?_ _)); refine blk_put (cs := #[.int .i64 t323, .slice Ao49 t324.length co49, .slice Ao50 t327.length co50, .int .i64 0]) ?_ 3 _ rfl; (with_reducible repeat (first | refine blk_drewN ?_ _ | refine blk_drew ?_ | refine blk_alloc ?_ _)); refine blk_put (cs := #[.int .i64 t323, .slice Ao49 t324.length co49, .slice none 0 0, .int .i64 0]) ?_ 2 _ rfl; (with_reducible repeat (first | refine blk_drewN ?_ _ | refine blk_drew ?_ | refine blk_alloc ?_ _)); refine blk_put (cs := #[.int .i64 t323, .slice none 0 0, .slice none 0 0, .int .i64 0]) ?_ 1 _ rfl; (with_reducible repeat (first | refine blk_drewN ?_ _ | refine blk_drew ?_ | refine blk_alloc ?_ _)); refine blk_put (cs := #[.int .i64 0, .slice none 0 0, .slice none 0 0, .int .i64 0]) ?_ 0 _ rfl; (with_reducible repeat (first | refine blk_drewN ?_ _ | refine blk_drew ?_ | refine blk_alloc ?_ _)); exact BK331.out) hb); have n6_ := Aside0.mk (below_step zq67 hb); clear HO317; clear HO320; clear HO326; clear HO329; clear BK312; clear BK331; clear HB; have HO317 := n0_; have HO320 := n1_; have HO326 := n2_; have HO329 := n3_; have BK312 := n4_; have BK331 := n5_; have HB := n6_; clear n0_ n1_ n2_ n3_ n4_ n5_ n6_; (try clear hb); (try clear hb2); (try clear hk); (try clear hi)))
    have n0_ := Aside0.mk (Kd.R_drew HO317.out)
    have n1_ := Aside0.mk (Kd.R_drew HO320.out)
    have n2_ := Aside0.mk (Kd.R_drew HO326.out)
    have n3_ := Aside0.mk (Kd.R_drew HO329.out)
    have n4_ := Aside0.mk (blk_drew BK312.out)
    have n5_ := Aside0.mk (blk_drew BK331.out)
    have n6_ := Aside0.mk (below_drew1 HB.out)
    clear HO317
    clear HO320
    clear HO326
    clear HO329
    clear BK312
    clear BK331
    clear HB
    have HO317 := n0_
    have HO320 := n1_
    have HO326 := n2_
    have HO329 := n3_
    have BK312 := n4_
    have BK331 := n5_
    have HB := n6_
    clear n0_ n1_ n2_ n3_ n4_ n5_ n6_
    refine start_ (n := 5) (S := fun w' => w'.cell? ⟨gb331, 0, none⟩ = some (.int .i64 t323) ∧ w'.cell? ⟨gb331, 1, none⟩ = some (.slice Ao49 t324.length co49) ∧ w'.cell? ⟨gb331, 2, none⟩ = some (.slice Ao50 t327.length co50) ∧ w'.cell? ⟨gb331, 3, none⟩ = some (.int .i64 t330) ∧ w'.cell? ⟨gb312, 0, none⟩ = some (.int .i64 a0_0) ∧ w'.cell? ⟨gb312, 1, none⟩ = some (.slice A0_1 l0_1.length c0_1) ∧ w'.cell? ⟨gb312, 2, none⟩ = some (.slice A0_2 l0_2.length c0_2) ∧ w'.cell? ⟨gb312, 3, none⟩ = some (.int .i64 a0_3)) (ds := []) #[false, false, false, false, false] (by kernel_rfl) rfl rfl ⟨(blk_cell BK331.out 0).trans rfl, (blk_cell BK331.out 1).trans rfl, (blk_cell BK331.out 2).trans rfl, (blk_cell BK331.out 3).trans rfl, (blk_cell BK312.out 0).trans rfl, (blk_cell BK312.out 1).trans rfl, (blk_cell BK312.out 2).trans rfl, (blk_cell BK312.out 3).trans rfl⟩ (fun hHeld => ?_)
    generalize w51.drew = w52 at HO317 HO320 HO326 HO329 BK312 BK331 HB hHeld ⊢
    refine take_ (i := 0) (N := some 22) (v := ?_) (a' := ?_) #[true, false, false, false, false] rfl rfl (by kernel_rfl) (fun _ _ _ h => h) (Or.inl ⟨by rfl, ?_⟩) hHeld ?_ ?_
    rotate_left
    exact zq170
    rotate_left
    exact zq167
    refine take_ (i := 1) (N := some 23) (v := ?_) (a' := ?_) #[true, true, false, false, false] rfl rfl (by kernel_rfl) (fun _ _ _ h => h) (Or.inl ⟨by rfl, ?_⟩) hHeld ?_ ?_
    rotate_left
    exact zq170
    rotate_left
    exact zq167
    refine one_ (i := 2) (N := some 24) #[true, true, true, false, false] rfl rfl (by kernel_rfl) (by decide) (fun K hK => ?_)
    refine goes_ Try.func17 (by kernel_rfl) rfl #[.agg #[.int .i64 a0_0, .slice A0_1 l0_1.length c0_1, .slice A0_2 l0_2.length c0_2, .int .i64 a0_3]] (by rfl) rfl rfl zq8 ?_
    with_reducible refine (laws_toStore.calls k a0_0 _ _ l0_1 _ _ l0_2 a0_3 t333 t334 t337 t340 _ ?side1 ?side2 ?side3 ?side4 A12.out).mono ?_
    (case side1 => exact zq11)
    (case side2 => exact zq12)
    (case side3 => exact zq15)
    (case side4 => exact zq16)
    rintro e w53 ⟨v335, v338, rfl, ho0, ho1, hb⟩
    refine ⟨_, rfl, ?_⟩
    have n0_ := Aside0.mk (Kd.R_elder' zq58 (Kd.R_base ho0) hb)
    have n1_ := Aside0.mk (Kd.R_elder' zq59 (Kd.R_base ho1) hb)
    have n2_ := Aside0.mk (Kd.R_elder' zq60 (Kd.R_base ho0) hb)
    have n3_ := Aside0.mk (Kd.R_elder' zq61 (Kd.R_base ho1) hb)
    have n4_ := Aside0.mk (Kd.R_lower (Kd.R_new' (Kd.R_new' ho0 (Kd.R_lt zq58)) (Kd.R_lt zq60)) (below_size zq67))
    have n5_ := Aside0.mk (Kd.R_lower (Kd.R_new' (Kd.R_new' ho1 (Kd.R_lt zq59)) (Kd.R_lt zq61)) (below_size zq67))
    have n6_ := Aside0.mk (blk_below (g := gb312) (o := .cells #[.int .i64 a0_0, .slice A0_1 l0_1.length c0_1, .slice A0_2 l0_2.length c0_2, .int .i64 a0_3] 25 (0, 0)) zq52 hb)
    have n7_ := Aside0.mk (blk_below (g := gb331) (o := .cells #[.int .i64 t323, .slice Ao49 t324.length co49, .slice Ao50 t327.length co50, .int .i64 t330] 31 (0, 0)) zq68 hb)
    have n8_ := Aside0.mk (below_step zq67 hb)
    clear HO317
    clear HO320
    clear HO326
    clear HO329
    clear BK312
    clear BK331
    clear HB
    have HO317 := n0_
    have HO320 := n1_
    have HO326 := n2_
    have HO329 := n3_
    have HO336 := n4_
    have HO339 := n5_
    have BK312 := n6_
    have BK331 := n7_
    have HB := n8_
    clear n0_ n1_ n2_ n3_ n4_ n5_ n6_ n7_ n8_
    (try clear hb)
    (try clear hb2)
    (try clear hk)
    (try clear hi)
    (try clear ho0)
    (try clear ho1)
    obtain ⟨Ao54, co54, eo54⟩ := Kd.R_slice HO336.out
    (first | subst eo54 | (injection eo54 with f1_ f2_ f3_; have f4_ := f1_.symm; have f5_ := f3_.symm; clear f1_ f2_ f3_; subst f4_; subst f5_))
    obtain ⟨Ao55, co55, eo55⟩ := Kd.R_slice HO339.out
    (first | subst eo55 | (injection eo55 with f1_ f2_ f3_; have f4_ := f1_.symm; have f5_ := f3_.symm; clear f1_ f2_ f3_; subst f4_; subst f5_))
    refine hK.out _ _ ⟨(blk_cell BK331.out 0).trans rfl, (blk_cell BK331.out 1).trans rfl, (blk_cell BK331.out 2).trans rfl, (blk_cell BK331.out 3).trans rfl, (blk_cell BK312.out 0).trans rfl, (blk_cell BK312.out 1).trans rfl, (blk_cell BK312.out 2).trans rfl, (blk_cell BK312.out 3).trans rfl⟩ (fun hHeld => ?_)
    clear hK K
    refine norm_ (a' := ?_) ?_ ?_
    rotate_left
    ·
     show Act.put _ (some 24) _ = _
     simp only [Act.put, List.setIfInBounds_toArray, List.set_cons_zero, List.set_cons_succ, i64_w, i32_w]
     rfl
    refine one_ (i := 3) (N := some 25) #[true, true, true, true, false] rfl rfl (by kernel_rfl) (by decide) (fun K hK => ?_)
    refine goes_ Try.func19 (by kernel_rfl) rfl #[.agg #[.int .i64 t323, .slice Ao49 t324.length co49, .slice Ao50 t327.length co50, .int .i64 t330], .agg #[.int .i64 t333, .slice Ao54 t334.length co54, .slice Ao55 t337.length co55, .int .i64 t340]] (by rfl) rfl rfl zq8 ?_
    with_reducible refine (laws_eqStore.calls k t323 _ _ t324 _ _ t327 t330 t333 _ _ t334 _ _ t337 t340 false _ ?side1 ?side2 ?side3 ?side4 ?side5 ?side6 ?side7 ?side8 A13.out).mono ?_
    (case side1 => exact zq69)
    (case side2 => exact zq63)
    (case side3 => exact zq70)
    (case side4 => exact zq65)
    (case side5 => exact zq71)
    (case side6 => exact (Kd.R_reads' HO336.out).2.1)
    (case side7 => exact zq72)
    (case side8 => exact (Kd.R_reads' HO339.out).2.1)
    rintro e w56 ⟨rfl, hb⟩
    refine ⟨_, rfl, ?_⟩
    have n0_ := Aside0.mk (Kd.R_below zq58 hb)
    have n1_ := Aside0.mk (Kd.R_below zq59 hb)
    have n2_ := Aside0.mk (Kd.R_below zq60 hb)
    have n3_ := Aside0.mk (Kd.R_below zq61 hb)
    have n4_ := Aside0.mk (Kd.R_below zq73 hb)
    have n5_ := Aside0.mk (Kd.R_below zq74 hb)
    have n6_ := Aside0.mk (blk_below (g := gb312) (o := .cells #[.int .i64 a0_0, .slice A0_1 l0_1.length c0_1, .slice A0_2 l0_2.length c0_2, .int .i64 a0_3] 25 (0, 0)) zq52 hb)
    have n7_ := Aside0.mk (blk_below (g := gb331) (o := .cells #[.int .i64 t323, .slice Ao49 t324.length co49, .slice Ao50 t327.length co50, .int .i64 t330] 31 (0, 0)) zq68 hb)
    have n8_ := Aside0.mk (below_step zq67 hb)
    clear HO317
    clear HO320
    clear HO326
    clear HO329
    clear HO336
    clear HO339
    clear BK312
    clear BK331
    clear HB
    have HO317 := n0_
    have HO320 := n1_
    have HO326 := n2_
    have HO329 := n3_
    have HO336 := n4_
    have HO339 := n5_
    have BK312 := n6_
    have BK331 := n7_
    have HB := n8_
    clear n0_ n1_ n2_ n3_ n4_ n5_ n6_ n7_ n8_
    (try clear hb)
    (try clear hb2)
    (try clear hk)
    (try clear hi)
    refine hK.out _ _ ⟨(blk_cell BK331.out 0).trans rfl, (blk_cell BK331.out 1).trans rfl, (blk_cell BK331.out 2).trans rfl, (blk_cell BK331.out 3).trans rfl, (blk_cell BK312.out 0).trans rfl, (blk_cell BK312.out 1).trans rfl, (blk_cell BK312.out 2).trans rfl, (blk_cell BK312.out 3).trans rfl⟩ (fun hHeld => ?_)
    clear hK K
    refine norm_ (a' := ?_) ?_ ?_
    rotate_left
    exact zq175
    refine pure_ (i := 4) (N := some 26) (v := ?_) (a' := ?_) #[true, true, true, true, true] rfl rfl (by kernel_rfl) (fun _ _ _ h => h) (Or.inl ⟨by rfl, ?_⟩) ?_ ?_
    rotate_left
    exact zq166
    rotate_left
    exact zq167
    refine done_ (by kernel_rfl) ?_
    try go_wp2
    go_ret
    exact ⟨zq4, zq67⟩
  ·
   rw [if_neg c11] at H
   have c11b0 : (t332 == t322) = false := beq_eq_false_iff_ne.mpr c11
   have c11b1 : (t332 != t322) = true := bne_iff_ne.mpr c11
   obtain rfl := Option.some.inj H
   go_enter Try.func4, Try.ntmps4
   go_wp2_with (first | ((with_reducible refine gate_dst (N := 1) rfl ?_); refine box_event ?hg (N := 1) ?hd (cs := #[.int .i64 a0_0, .slice A0_1 l0_1.length c0_1, .slice A0_2 l0_2.length c0_2, .int .i64 a0_3]) (t := 25) ?hr ?_; (case hd => rfl); (case hg => rfl); (case hr => exact zq2); intro gb312 hg w57 hbox hb; have n0_ := Aside0.mk (below_step zq3 hb); have n1_ := Aside0.mk (hbox); have n2_ := Aside0.mk ((zq130 : w.heap.size ≤ gb312)); have n3_ := Aside0.mk ((zq130 : w.heap.size ≤ gb312)); clear HB; have HB := n0_; have BK312 := n1_; have GW312 := n2_; have GE312 := n3_; clear n0_ n1_ n2_ n3_; clear hb hbox hg; have hcz58_0 : w57.cell? ⟨gb312, 0, none⟩ = some (.int .i64 a0_0) := (blk_cell BK312.out 0).trans rfl; have hcz58_1 : w57.cell? ⟨gb312, 1, none⟩ = some (.slice A0_1 l0_1.length c0_1) := (blk_cell BK312.out 1).trans rfl; have hcz58_2 : w57.cell? ⟨gb312, 2, none⟩ = some (.slice A0_2 l0_2.length c0_2) := (blk_cell BK312.out 2).trans rfl; have hcz58_3 : w57.cell? ⟨gb312, 3, none⟩ = some (.int .i64 a0_3) := (blk_cell BK312.out 3).trans rfl; have hfz58_0 := blk_frozen BK312.out 0; have hfz58_1 := blk_frozen BK312.out 1; have hfz58_2 := blk_frozen BK312.out 2; have hfz58_3 := blk_frozen BK312.out 3) | ((with_reducible refine gate_callee (f := 15) rfl ?_); refine goesL_ (some 9) rfl rfl Try.func15 (by kernel_rfl) rfl #[.agg #[.int .i64 a0_0, .slice A0_1 l0_1.length c0_1, .slice A0_2 l0_2.length c0_2, .int .i64 a0_3], .int .i64 1048576] rfl zq8 ?_; (with_reducible refine (laws_szStore.calls k a0_0 _ _ l0_1 _ _ l0_2 a0_3 1048576 t313 _ ?side1 ?side2 ?side3 ?side4 A2.out).mono ?_); (case side1 => exact zq11); (case side2 => exact zq12); (case side3 => exact zq15); (case side4 => exact zq16); rintro e w59 ⟨rfl, hb⟩; refine ⟨_, rfl, ?_⟩; have n0_ := Aside0.mk (blk_below (g := gb312) (o := .cells #[.int .i64 a0_0, .slice A0_1 l0_1.length c0_1, .slice A0_2 l0_2.length c0_2, .int .i64 a0_3] 25 (0, 0)) zq52 hb); have n1_ := Aside0.mk (below_step zq53 hb); clear BK312; clear HB; have BK312 := n0_; have HB := n1_; clear n0_ n1_; (try clear hb); (try clear hb2); (try clear hk); (try clear hi); have hcz60_0 : w59.cell? ⟨gb312, 0, none⟩ = some (.int .i64 a0_0) := (blk_cell BK312.out 0).trans rfl; have hcz60_1 : w59.cell? ⟨gb312, 1, none⟩ = some (.slice A0_1 l0_1.length c0_1) := (blk_cell BK312.out 1).trans rfl; have hcz60_2 : w59.cell? ⟨gb312, 2, none⟩ = some (.slice A0_2 l0_2.length c0_2) := (blk_cell BK312.out 2).trans rfl; have hcz60_3 : w59.cell? ⟨gb312, 3, none⟩ = some (.int .i64 a0_3) := (blk_cell BK312.out 3).trans rfl; have hfz60_0 := blk_frozen BK312.out 0; have hfz60_1 := blk_frozen BK312.out 1; have hfz60_2 := blk_frozen BK312.out 2; have hfz60_3 := blk_frozen BK312.out 3) | ((with_reducible refine gate_callee (f := 17) rfl ?_); refine goesL_ (some 13) rfl rfl Try.func17 (by kernel_rfl) rfl #[.agg #[.int .i64 a0_0, .slice A0_1 l0_1.length c0_1, .slice A0_2 l0_2.length c0_2, .int .i64 a0_3]] rfl zq8 ?_; (with_reducible refine (laws_toStore.calls k a0_0 _ _ l0_1 _ _ l0_2 a0_3 t314 t315 t318 t321 _ ?side1 ?side2 ?side3 ?side4 A7.out).mono ?_); (case side1 => exact zq11); (case side2 => exact zq12); (case side3 => exact zq15); (case side4 => exact zq16); rintro e w61 ⟨v316, v319, rfl, ho0, ho1, hb⟩; refine ⟨_, rfl, ?_⟩; have n0_ := Aside0.mk (Kd.R_lower ho0 (below_size zq53)); have n1_ := Aside0.mk (Kd.R_lower ho1 (below_size zq53)); have n2_ := Aside0.mk (blk_below (g := gb312) (o := .cells #[.int .i64 a0_0, .slice A0_1 l0_1.length c0_1, .slice A0_2 l0_2.length c0_2, .int .i64 a0_3] 25 (0, 0)) zq52 hb); have n3_ := Aside0.mk (below_step zq53 hb); clear BK312; clear HB; have HO317 := n0_; have HO320 := n1_; have BK312 := n2_; have HB := n3_; clear n0_ n1_ n2_ n3_; (try clear hb); (try clear hb2); (try clear hk); (try clear hi); (try clear ho0); (try clear ho1); obtain ⟨Ao62, co62, eo62⟩ := Kd.R_slice HO317.out; subst eo62; obtain ⟨Ao63, co63, eo63⟩ := Kd.R_slice HO320.out; subst eo63) | ((with_reducible refine gate_callee (f := 20) rfl ?_); refine goesL_ (some 14) rfl rfl Try.func20 (by kernel_rfl) rfl #[.agg #[.int .i64 t314, .slice Ao62 t315.length co62, .slice Ao63 t318.length co63, .int .i64 t321]] rfl zq8 ?_; (with_reducible refine (spec_UsedBy.calls k t314 _ _ t315 _ _ t318 t321 t322 _ ?side1 ?side2 ?side3 ?side4 A8.out).mono ?_); (case side1 => exact zq54); (case side2 => exact zq55); (case side3 => exact zq56); (case side4 => exact zq57); rintro e w64 ⟨rfl, hb⟩; refine ⟨_, rfl, ?_⟩; have n0_ := Aside0.mk (Kd.R_below zq58 hb); have n1_ := Aside0.mk (Kd.R_below zq59 hb); have n2_ := Aside0.mk (blk_below (g := gb312) (o := .cells #[.int .i64 a0_0, .slice A0_1 l0_1.length c0_1, .slice A0_2 l0_2.length c0_2, .int .i64 a0_3] 25 (0, 0)) zq52 hb); have n3_ := Aside0.mk (below_step zq53 hb); clear HO317; clear HO320; clear BK312; clear HB; have HO317 := n0_; have HO320 := n1_; have BK312 := n2_; have HB := n3_; clear n0_ n1_ n2_ n3_; (try clear hb); (try clear hb2); (try clear hk); (try clear hi); have hcz65_0 : w64.cell? ⟨gb312, 0, none⟩ = some (.int .i64 a0_0) := (blk_cell BK312.out 0).trans rfl; have hcz65_1 : w64.cell? ⟨gb312, 1, none⟩ = some (.slice A0_1 l0_1.length c0_1) := (blk_cell BK312.out 1).trans rfl; have hcz65_2 : w64.cell? ⟨gb312, 2, none⟩ = some (.slice A0_2 l0_2.length c0_2) := (blk_cell BK312.out 2).trans rfl; have hcz65_3 : w64.cell? ⟨gb312, 3, none⟩ = some (.int .i64 a0_3) := (blk_cell BK312.out 3).trans rfl; have hfz65_0 := blk_frozen BK312.out 0; have hfz65_1 := blk_frozen BK312.out 1; have hfz65_2 := blk_frozen BK312.out 2; have hfz65_3 := blk_frozen BK312.out 3) | ((with_reducible refine gate_callee (f := 17) rfl ?_); refine goesL_ (some 16) rfl rfl Try.func17 (by kernel_rfl) rfl #[.agg #[.int .i64 a0_0, .slice A0_1 l0_1.length c0_1, .slice A0_2 l0_2.length c0_2, .int .i64 a0_3]] rfl zq8 ?_; (with_reducible refine (laws_toStore.calls k a0_0 _ _ l0_1 _ _ l0_2 a0_3 t323 t324 t327 t330 _ ?side1 ?side2 ?side3 ?side4 A9.out).mono ?_); (case side1 => exact zq11); (case side2 => exact zq12); (case side3 => exact zq15); (case side4 => exact zq16); rintro e w66 ⟨v325, v328, rfl, ho0, ho1, hb⟩; refine ⟨_, rfl, ?_⟩; have n0_ := Aside0.mk (Kd.R_elder' zq58 (Kd.R_base ho0) hb); have n1_ := Aside0.mk (Kd.R_elder' zq59 (Kd.R_base ho1) hb); have n2_ := Aside0.mk (Kd.R_lower (Kd.R_new' ho0 (Kd.R_lt zq58)) (below_size zq53)); have n3_ := Aside0.mk (Kd.R_lower (Kd.R_new' ho1 (Kd.R_lt zq59)) (below_size zq53)); have n4_ := Aside0.mk (blk_below (g := gb312) (o := .cells #[.int .i64 a0_0, .slice A0_1 l0_1.length c0_1, .slice A0_2 l0_2.length c0_2, .int .i64 a0_3] 25 (0, 0)) zq52 hb); have n5_ := Aside0.mk (below_step zq53 hb); clear HO317; clear HO320; clear BK312; clear HB; have HO317 := n0_; have HO320 := n1_; have HO326 := n2_; have HO329 := n3_; have BK312 := n4_; have HB := n5_; clear n0_ n1_ n2_ n3_ n4_ n5_; (try clear hb); (try clear hb2); (try clear hk); (try clear hi); (try clear ho0); (try clear ho1)) | ((with_reducible refine gate_dst (N := 5) rfl ?_); refine box_event ?hg (N := 5) ?hd (cs := #[.int .i64 0, .slice none 0 0, .slice none 0 0, .int .i64 0]) (t := 31) ?hr ?_; (case hd => rfl); (case hg => rfl); (case hr => exact zq2); intro gb331 hg w67 hbox hb; have n0_ := Aside0.mk (Kd.R_below zq58 hb); have n1_ := Aside0.mk (Kd.R_below zq59 hb); have n2_ := Aside0.mk (Kd.R_below zq60 hb); have n3_ := Aside0.mk (Kd.R_below zq61 hb); have n4_ := Aside0.mk (blk_below (g := gb312) (o := .cells #[.int .i64 a0_0, .slice A0_1 l0_1.length c0_1, .slice A0_2 l0_2.length c0_2, .int .i64 a0_3] 25 (0, 0)) zq52 hb); have n5_ := Aside0.mk (below_step zq53 hb); have n6_ := Aside0.mk (hbox); have n7_ := Aside0.mk ((zq146 : w.heap.size ≤ gb331)); have n8_ := Aside0.mk ((zq146 : w.heap.size ≤ gb331)); have n9_ := Aside0.mk ((zq147 : gb312 ≠ gb331)); have n10_ := Aside0.mk ((zq148 : gb331 ≠ gb312)); clear HO317; clear HO320; clear HO326; clear HO329; clear BK312; clear HB; have HO317 := n0_; have HO320 := n1_; have HO326 := n2_; have HO329 := n3_; have BK312 := n4_; have HB := n5_; have BK331 := n6_; have GW331 := n7_; have GE331 := n8_; have NB312_331 := n9_; have NB331_312 := n10_; clear n0_ n1_ n2_ n3_ n4_ n5_ n6_ n7_ n8_ n9_ n10_; clear hb hbox hg; have hnb68 := NB331_312.out; have hnc68 := NB312_331.out; have hcz69_0 : w67.cell? ⟨gb331, 0, none⟩ = some (.int .i64 0) := (blk_cell BK331.out 0).trans rfl; have hcz69_1 : w67.cell? ⟨gb331, 1, none⟩ = some (.slice none 0 0) := (blk_cell BK331.out 1).trans rfl; have hcz69_2 : w67.cell? ⟨gb331, 2, none⟩ = some (.slice none 0 0) := (blk_cell BK331.out 2).trans rfl; have hcz69_3 : w67.cell? ⟨gb331, 3, none⟩ = some (.int .i64 0) := (blk_cell BK331.out 3).trans rfl; have hfz69_0 := blk_frozen BK331.out 0; have hfz69_1 := blk_frozen BK331.out 1; have hfz69_2 := blk_frozen BK331.out 2; have hfz69_3 := blk_frozen BK331.out 3; obtain ⟨Ao70, co70, eo70⟩ := Kd.R_slice HO326.out; subst eo70; obtain ⟨Ao71, co71, eo71⟩ := Kd.R_slice HO329.out; subst eo71) | ((with_reducible refine gate_callee (f := 21) rfl ?_); refine goesL_ (some 18) rfl rfl Try.func21 (by kernel_rfl) rfl #[.agg #[.int .i64 t323, .slice Ao70 t324.length co70, .slice Ao71 t327.length co71, .int .i64 t330]] rfl zq8 ?_; (with_reducible refine (impl_UsedBy.calls k t323 _ _ t324 _ _ t327 t330 t332 _ ?side1 ?side2 ?side3 ?side4 A10.out).mono ?_); (case side1 => refine (Kd.R_reads' (e := 66) (base := w.heap.size) (ok := fun k_ => (True ∧ some k_ ≠ (.slice Ao62 t315.length co62 : Value).ownBlock)) (n := t324.length) (c := co70) ?_).2.2; exact zq77); (case side2 => exact zq63); (case side3 => refine (Kd.R_reads' (e := 68) (base := w.heap.size) (ok := fun k_ => (True ∧ some k_ ≠ (.slice Ao63 t318.length co63 : Value).ownBlock)) (n := t327.length) (c := co71) ?_).2.2; exact zq78); (case side4 => exact zq65); rintro e w72 ⟨rfl, hb⟩; refine ⟨_, rfl, ?_⟩; have n0_ := Aside0.mk (Kd.R_below (by (with_reducible repeat (first | apply Kd.R_alloc | apply Kd.R_drewN | apply Kd.R_drew)); exact (Kd.R_mono (Kd.R_far (p := ⟨gb331, 3, none⟩) (Kd.R_far (p := ⟨gb331, 2, none⟩) (Kd.R_far (p := ⟨gb331, 1, none⟩) (Kd.R_far (p := ⟨gb331, 0, none⟩) (Kd.R_types HO317.out BK331.out (by decide)) (fun _ hk => hk.2) (.int .i64 t323)) (fun _ hk => hk.2) (.slice Ao70 t324.length co70)) (fun _ hk => hk.2) (.slice Ao71 t327.length co71)) (fun _ hk => hk.2) (.int .i64 t330)) (fun _ h_ => h_.1))) hb); have n1_ := Aside0.mk (Kd.R_below (by (with_reducible repeat (first | apply Kd.R_alloc | apply Kd.R_drewN | apply Kd.R_drew)); exact (Kd.R_mono (Kd.R_far (p := ⟨gb331, 3, none⟩) (Kd.R_far (p := ⟨gb331, 2, none⟩) (Kd.R_far (p := ⟨gb331, 1, none⟩) (Kd.R_far (p := ⟨gb331, 0, none⟩) (Kd.R_types HO320.out BK331.out (by decide)) (fun _ hk => hk.2) (.int .i64 t323)) (fun _ hk => hk.2) (.slice Ao70 t324.length co70)) (fun _ hk => hk.2) (.slice Ao71 t327.length co71)) (fun _ hk => hk.2) (.int .i64 t330)) (fun _ h_ => h_.1))) hb); have n2_ := Aside0.mk (Kd.R_below zq77 hb); have n3_ := Aside0.mk (Kd.R_below zq78 hb); have n4_ := Aside0.mk (blk_below (g := gb312) (o := .cells #[.int .i64 a0_0, .slice A0_1 l0_1.length c0_1, .slice A0_2 l0_2.length c0_2, .int .i64 a0_3] 25 (0, 0)) zq66 hb); have n5_ := Aside0.mk (blk_below (g := gb331) (o := .cells #[.int .i64 t323, .slice Ao70 t324.length co70, .slice Ao71 t327.length co71, .int .i64 t330] 31 (0, 0)) (by (with_reducible repeat (first | refine blk_drewN ?_ _ | refine blk_drew ?_ | refine blk_alloc ?_ _)); refine blk_put (cs := #[.int .i64 t323, .slice Ao70 t324.length co70, .slice Ao71 t327.length co71, .int .i64 0]) ?_ 3 _ rfl; (with_reducible repeat (first | refine blk_drewN ?_ _ | refine blk_drew ?_ | refine blk_alloc ?_ _)); refine blk_put (cs := #[.int .i64 t323, .slice Ao70 t324.length co70, .slice none 0 0, .int .i64 0]) ?_ 2 _ rfl; (with_reducible repeat (first | refine blk_drewN ?_ _ | refine blk_drew ?_ | refine blk_alloc ?_ _)); refine blk_put (cs := #[.int .i64 t323, .slice none 0 0, .slice none 0 0, .int .i64 0]) ?_ 1 _ rfl; (with_reducible repeat (first | refine blk_drewN ?_ _ | refine blk_drew ?_ | refine blk_alloc ?_ _)); refine blk_put (cs := #[.int .i64 0, .slice none 0 0, .slice none 0 0, .int .i64 0]) ?_ 0 _ rfl; (with_reducible repeat (first | refine blk_drewN ?_ _ | refine blk_drew ?_ | refine blk_alloc ?_ _)); exact BK331.out) hb); have n6_ := Aside0.mk (below_step zq67 hb); clear HO317; clear HO320; clear HO326; clear HO329; clear BK312; clear BK331; clear HB; have HO317 := n0_; have HO320 := n1_; have HO326 := n2_; have HO329 := n3_; have BK312 := n4_; have BK331 := n5_; have HB := n6_; clear n0_ n1_ n2_ n3_ n4_ n5_ n6_; (try clear hb); (try clear hb2); (try clear hk); (try clear hi)))
   go_ret
   exact ⟨zq4, zq67⟩

/-- THE ONE PURE STATEMENT of laws_FnExactUsedBy. -/
def laws_FnExactUsedBy.Pure : Prop := ∀ (a0_0 : Int) (l0_1 : List (S95)) (l0_2 : List (S97)) (a0_3 : Int), (Lit.int .i64 a0_0).wf = true → (l0_1.length ≤ maxLen ∧ ∀ y0_ ∈ l0_1, (y0_.f0.size ≤ maxLen ∧ y0_.f1.size ≤ maxLen)) → (l0_2.length ≤ maxLen ∧ ∀ y0_ ∈ l0_2, ((Lit.int .i64 y0_.f0).wf = true ∧ y0_.f1.size ≤ maxLen)) → (Lit.int .i64 a0_3).wf = true → ∃ k, laws_FnExactUsedBy.f k a0_0 l0_1 l0_2 a0_3 = some true

end Go.Proofs.Ytacaeebjanglgaa.QFnExactUsedBy
