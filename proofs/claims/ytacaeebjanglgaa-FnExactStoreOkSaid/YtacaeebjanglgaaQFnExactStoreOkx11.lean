/- Written by wip/myprint.py of this repo (the kit's print, with additions of this session). -/
import Derived.Test.YtacaeebjanglgaaQFnExactStoreOkx0
import Derived.Test.YtacaeebjanglgaaQFnExactStoreOkx1
import Derived.Test.YtacaeebjanglgaaQFnExactStoreOkx4
import Derived.Test.YtacaeebjanglgaaQFnExactStoreOkx5
import Derived.Test.YtacaeebjanglgaaQFnExactStoreOkx9
import Derived.Test.YtacaeebjanglgaaQFnExactStoreOkx10
set_option maxRecDepth 100000
namespace Go.Proofs.Ytacaeebjanglgaa.QFnExactStoreOk
open Go.RowKit Go.Proofs.YtacaeebjanglgaaW.PrintWords Go.Proofs.YtacaeebjanglgaaW.PrintLast Go.Proofs.YtacaeebjanglgaaW.PrintMore
attribute [local go_sem] max2_int min2_int max_two min_two max_three min_three max_four min_four   -- for this text's walks alone
set_option linter.unusedVariables false
set_option linter.unusedSimpArgs false

/-! ### laws_FnExactStoreOk: function 3 -/
def laws_FnExactStoreOk.f (k : Nat) (a0_0 : Int) (l0_1 : List (S95)) (l0_2 : List (S97)) (a0_3 : Int) : Option (Bool) := (laws_szStore.f k a0_0 l0_1 l0_2 a0_3 1048576).bind fun t309 => (if t309 < 0 then (some true) else ((laws_toStore.f k a0_0 l0_1 l0_2 a0_3).bind fun bt310 => ((spec_StoreOk.f k bt310.1 bt310.2.1 bt310.2.2.1 bt310.2.2.2).bind fun t318 => ((laws_toStore.f k a0_0 l0_1 l0_2 a0_3).bind fun bt319 => ((impl_StoreOk.f k bt319.1 bt319.2.1 bt319.2.2.1 bt319.2.2.2).bind fun t328 => (if (t328 != t318) = true then (some false) else ((laws_toStore.f k a0_0 l0_1 l0_2 a0_3).bind fun bt329 => ((laws_eqStore.f k bt319.1 bt319.2.1 bt319.2.2.1 bt319.2.2.2 bt329.1 bt329.2.1 bt329.2.2.1 bt329.2.2.2).bind fun t337 => (if t337 = true then (some true) else (some false))))))))))
theorem laws_FnExactStoreOk.mono : ∀ a0 a1 a2 a3 k, LeO (laws_FnExactStoreOk.f k a0 a1 a2 a3) (laws_FnExactStoreOk.f (k + 1) a0 a1 a2 a3) := by
 intro a0 a1 a2 a3 k
 unfold laws_FnExactStoreOk.f
 repeat' first
   | (with_reducible exact impl_StoreOk.mono _ _ _ _ _)
   | (with_reducible exact laws_eqStore.mono _ _ _ _ _ _ _ _ _)
   | (with_reducible exact laws_szStore.mono _ _ _ _ _ _)
   | (with_reducible exact laws_toStore.mono _ _ _ _ _)
   | (with_reducible exact spec_StoreOk.mono _ _ _ _ _)
   | (with_reducible exact LeO.refl _)
   | (with_reducible exact LeO.none _)
   | (with_reducible refine LeO.ite ?_ ?_)
   | (with_reducible refine LeO.bind ?_ (fun _ => ?_))
   | exact impl_StoreOk.mono _ _ _ _ _
   | exact laws_eqStore.mono _ _ _ _ _ _ _ _ _
   | exact laws_szStore.mono _ _ _ _ _ _
   | exact laws_toStore.mono _ _ _ _ _
   | exact spec_StoreOk.mono _ _ _ _ _
   | exact LeO.none _
   | refine LeO.ite ?_ ?_
   | refine LeO.bind ?_ (fun _ => ?_)
set_option maxHeartbeats 8000000 in
set_option maxRecDepth 100000 in
theorem laws_FnExactStoreOk.calls (k : Nat) (a0_0 : Int) (A0_1 : Option Addr) (c0_1 : Nat) (l0_1 : List (S95)) (A0_2 : Option Addr) (c0_2 : Nat) (l0_2 : List (S97)) (a0_3 : Int) (r : Bool) (w : World) (hr0_1 : Kd.C k95 w A0_1 l0_1.length l0_1) (hc0_1 : l0_1.length ≤ c0_1) (hr0_2 : Kd.C k97 w A0_2 l0_2.length l0_2) (hc0_2 : l0_2.length ≤ c0_2) (h : laws_FnExactStoreOk.f k a0_0 l0_1 l0_2 a0_3 = some r) :
  Calls Try.prog 3 #[.agg #[.int .i64 a0_0, .slice A0_1 l0_1.length c0_1, .slice A0_2 l0_2.length c0_2, .int .i64 a0_3]] w fun e w' => e = .returned (.bool r) ∧ Below w.heap.size w w' := by
 have hu25 := Try.underlying25
 have hu31 := Try.underlying31
 have HR0_1 := Aside0.mk hr0_1
 have HC0_1 := Aside0.mk hc0_1
 clear hr0_1 hc0_1
 have HR0_2 := Aside0.mk hr0_2
 have HC0_2 := Aside0.mk hc0_2
 clear hr0_2 hc0_2
 have HB := Aside0.mk (Below.refl w.heap.size w)
 have H : ((laws_szStore.f k a0_0 l0_1 l0_2 a0_3 1048576).bind fun t309 => (if t309 < 0 then (some true) else ((laws_toStore.f k a0_0 l0_1 l0_2 a0_3).bind fun bt310 => ((spec_StoreOk.f k bt310.1 bt310.2.1 bt310.2.2.1 bt310.2.2.2).bind fun t318 => ((laws_toStore.f k a0_0 l0_1 l0_2 a0_3).bind fun bt319 => ((impl_StoreOk.f k bt319.1 bt319.2.1 bt319.2.2.1 bt319.2.2.2).bind fun t328 => (if (t328 != t318) = true then (some false) else ((laws_toStore.f k a0_0 l0_1 l0_2 a0_3).bind fun bt329 => ((laws_eqStore.f k bt319.1 bt319.2.1 bt319.2.2.1 bt319.2.2.2 bt329.1 bt329.2.1 bt329.2.2.1 bt329.2.2.2).bind fun t337 => (if t337 = true then (some true) else (some false))))))))))) = some r := h
 clear h
 replace H := Option.bind_eq_some_iff.mp H
 obtain ⟨t309, A20, H⟩ := H
 replace H : (if t309 < 0 then (some true) else ((laws_toStore.f k a0_0 l0_1 l0_2 a0_3).bind fun bt310 => ((spec_StoreOk.f k bt310.1 bt310.2.1 bt310.2.2.1 bt310.2.2.2).bind fun t318 => ((laws_toStore.f k a0_0 l0_1 l0_2 a0_3).bind fun bt319 => ((impl_StoreOk.f k bt319.1 bt319.2.1 bt319.2.2.1 bt319.2.2.2).bind fun t328 => (if (t328 != t318) = true then (some false) else ((laws_toStore.f k a0_0 l0_1 l0_2 a0_3).bind fun bt329 => ((laws_eqStore.f k bt319.1 bt319.2.1 bt319.2.2.1 bt319.2.2.2 bt329.1 bt329.2.1 bt329.2.2.1 bt329.2.2.2).bind fun t337 => (if t337 = true then (some true) else (some false)))))))))) = some r := H
 have A2 := Aside0.mk A20
 clear A20
 by_cases c3 : t309 < 0
 ·
  rw [if_pos c3] at H
  have c3b0 : decide (t309 < 0) = true := decide_eq_true c3
  clear c3
  obtain rfl := Option.some.inj H
  go_enter Try.func3, Try.ntmps3
  go_wp2_with (first | ((with_reducible refine gate_dst (N := 1) rfl ?_); refine box_event ?hg (N := 1) ?hd (cs := #[.int .i64 a0_0, .slice A0_1 l0_1.length c0_1, .slice A0_2 l0_2.length c0_2, .int .i64 a0_3]) (t := 25) ?hr ?_; (case hd => rfl); (case hg => rfl); (case hr => exact zq2); intro gb308 hg w4 hbox hb; have n0_ := Aside0.mk (below_step zq3 hb); have n1_ := Aside0.mk (hbox); have n2_ := Aside0.mk ((zq127 : w.heap.size ≤ gb308)); have n3_ := Aside0.mk ((zq127 : w.heap.size ≤ gb308)); clear HB; have HB := n0_; have BK308 := n1_; have GW308 := n2_; have GE308 := n3_; clear n0_ n1_ n2_ n3_; clear hb hbox hg; have hcz5_0 : w4.cell? ⟨gb308, 0, none⟩ = some (.int .i64 a0_0) := (blk_cell BK308.out 0).trans rfl; have hcz5_1 : w4.cell? ⟨gb308, 1, none⟩ = some (.slice A0_1 l0_1.length c0_1) := (blk_cell BK308.out 1).trans rfl; have hcz5_2 : w4.cell? ⟨gb308, 2, none⟩ = some (.slice A0_2 l0_2.length c0_2) := (blk_cell BK308.out 2).trans rfl; have hcz5_3 : w4.cell? ⟨gb308, 3, none⟩ = some (.int .i64 a0_3) := (blk_cell BK308.out 3).trans rfl; have hfz5_0 := blk_frozen BK308.out 0; have hfz5_1 := blk_frozen BK308.out 1; have hfz5_2 := blk_frozen BK308.out 2; have hfz5_3 := blk_frozen BK308.out 3) | ((with_reducible refine gate_callee (f := 15) rfl ?_); refine goesL_ (some 9) rfl rfl Try.func15 (by kernel_rfl) rfl #[.agg #[.int .i64 a0_0, .slice A0_1 l0_1.length c0_1, .slice A0_2 l0_2.length c0_2, .int .i64 a0_3], .int .i64 1048576] rfl zq8 ?_; (with_reducible refine (laws_szStore.calls k a0_0 _ _ l0_1 _ _ l0_2 a0_3 1048576 t309 _ ?side1 ?side2 ?side3 ?side4 A2.out).mono ?_); (case side1 => exact zq11); (case side2 => exact zq12); (case side3 => exact zq15); (case side4 => exact zq16); rintro e w6 ⟨rfl, hb⟩; refine ⟨_, rfl, ?_⟩; have n0_ := Aside0.mk (blk_below (g := gb308) (o := .cells #[.int .i64 a0_0, .slice A0_1 l0_1.length c0_1, .slice A0_2 l0_2.length c0_2, .int .i64 a0_3] 25 (0, 0)) zq26 hb); have n1_ := Aside0.mk (below_step zq27 hb); clear BK308; clear HB; have BK308 := n0_; have HB := n1_; clear n0_ n1_; (try clear hb); (try clear hb2); (try clear hk); (try clear hi)))
  go_ret
  exact ⟨zq4, zq27⟩
 ·
  rw [if_neg c3] at H
  have c3b0 : decide (t309 < 0) = false := decide_eq_false c3
  clear c3
  replace H := Option.bind_eq_some_iff.mp H
  obtain ⟨⟨t310, t311, t314, t317⟩, A70, H⟩ := H
  replace H : ((spec_StoreOk.f k t310 t311 t314 t317).bind fun t318 => ((laws_toStore.f k a0_0 l0_1 l0_2 a0_3).bind fun bt319 => ((impl_StoreOk.f k bt319.1 bt319.2.1 bt319.2.2.1 bt319.2.2.2).bind fun t328 => (if (t328 != t318) = true then (some false) else ((laws_toStore.f k a0_0 l0_1 l0_2 a0_3).bind fun bt329 => ((laws_eqStore.f k bt319.1 bt319.2.1 bt319.2.2.1 bt319.2.2.2 bt329.1 bt329.2.1 bt329.2.2.1 bt329.2.2.2).bind fun t337 => (if t337 = true then (some true) else (some false)))))))) = some r := H
  have A7 := Aside0.mk A70
  clear A70
  replace H := Option.bind_eq_some_iff.mp H
  obtain ⟨t318, A80, H⟩ := H
  replace H : ((laws_toStore.f k a0_0 l0_1 l0_2 a0_3).bind fun bt319 => ((impl_StoreOk.f k bt319.1 bt319.2.1 bt319.2.2.1 bt319.2.2.2).bind fun t328 => (if (t328 != t318) = true then (some false) else ((laws_toStore.f k a0_0 l0_1 l0_2 a0_3).bind fun bt329 => ((laws_eqStore.f k bt319.1 bt319.2.1 bt319.2.2.1 bt319.2.2.2 bt329.1 bt329.2.1 bt329.2.2.1 bt329.2.2.2).bind fun t337 => (if t337 = true then (some true) else (some false))))))) = some r := H
  have A8 := Aside0.mk A80
  clear A80
  replace H := Option.bind_eq_some_iff.mp H
  obtain ⟨⟨t319, t320, t323, t326⟩, A90, H⟩ := H
  replace H : ((impl_StoreOk.f k t319 t320 t323 t326).bind fun t328 => (if (t328 != t318) = true then (some false) else ((laws_toStore.f k a0_0 l0_1 l0_2 a0_3).bind fun bt329 => ((laws_eqStore.f k t319 t320 t323 t326 bt329.1 bt329.2.1 bt329.2.2.1 bt329.2.2.2).bind fun t337 => (if t337 = true then (some true) else (some false)))))) = some r := H
  have A9 := Aside0.mk A90
  clear A90
  replace H := Option.bind_eq_some_iff.mp H
  obtain ⟨t328, A100, H⟩ := H
  replace H : (if (t328 != t318) = true then (some false) else ((laws_toStore.f k a0_0 l0_1 l0_2 a0_3).bind fun bt329 => ((laws_eqStore.f k t319 t320 t323 t326 bt329.1 bt329.2.1 bt329.2.2.1 bt329.2.2.2).bind fun t337 => (if t337 = true then (some true) else (some false))))) = some r := H
  have A10 := Aside0.mk A100
  clear A100
  by_cases c11 : (t328 != t318) = true
  ·
   rw [if_pos c11] at H
   have c11b0 : (t328 != t318) = true := c11
   (try (have c11b1 : decide (t328 = t318) = false := by simpa using c11))
   (try (have c11b2 : (t328 == t318) = false := by simpa using c11))
   (try (have c11b3 : ¬ (t328 = t318) := by simpa using c11))
   clear c11
   obtain rfl := Option.some.inj H
   go_enter Try.func3, Try.ntmps3
   go_wp2_with (first | ((with_reducible refine gate_dst (N := 1) rfl ?_); refine box_event ?hg (N := 1) ?hd (cs := #[.int .i64 a0_0, .slice A0_1 l0_1.length c0_1, .slice A0_2 l0_2.length c0_2, .int .i64 a0_3]) (t := 25) ?hr ?_; (case hd => rfl); (case hg => rfl); (case hr => exact zq2); intro gb308 hg w12 hbox hb; have n0_ := Aside0.mk (below_step zq3 hb); have n1_ := Aside0.mk (hbox); have n2_ := Aside0.mk ((zq127 : w.heap.size ≤ gb308)); have n3_ := Aside0.mk ((zq127 : w.heap.size ≤ gb308)); clear HB; have HB := n0_; have BK308 := n1_; have GW308 := n2_; have GE308 := n3_; clear n0_ n1_ n2_ n3_; clear hb hbox hg; have hcz13_0 : w12.cell? ⟨gb308, 0, none⟩ = some (.int .i64 a0_0) := (blk_cell BK308.out 0).trans rfl; have hcz13_1 : w12.cell? ⟨gb308, 1, none⟩ = some (.slice A0_1 l0_1.length c0_1) := (blk_cell BK308.out 1).trans rfl; have hcz13_2 : w12.cell? ⟨gb308, 2, none⟩ = some (.slice A0_2 l0_2.length c0_2) := (blk_cell BK308.out 2).trans rfl; have hcz13_3 : w12.cell? ⟨gb308, 3, none⟩ = some (.int .i64 a0_3) := (blk_cell BK308.out 3).trans rfl; have hfz13_0 := blk_frozen BK308.out 0; have hfz13_1 := blk_frozen BK308.out 1; have hfz13_2 := blk_frozen BK308.out 2; have hfz13_3 := blk_frozen BK308.out 3) | ((with_reducible refine gate_callee (f := 15) rfl ?_); refine goesL_ (some 9) rfl rfl Try.func15 (by kernel_rfl) rfl #[.agg #[.int .i64 a0_0, .slice A0_1 l0_1.length c0_1, .slice A0_2 l0_2.length c0_2, .int .i64 a0_3], .int .i64 1048576] rfl zq8 ?_; (with_reducible refine (laws_szStore.calls k a0_0 _ _ l0_1 _ _ l0_2 a0_3 1048576 t309 _ ?side1 ?side2 ?side3 ?side4 A2.out).mono ?_); (case side1 => exact zq11); (case side2 => exact zq12); (case side3 => exact zq15); (case side4 => exact zq16); rintro e w14 ⟨rfl, hb⟩; refine ⟨_, rfl, ?_⟩; have n0_ := Aside0.mk (blk_below (g := gb308) (o := .cells #[.int .i64 a0_0, .slice A0_1 l0_1.length c0_1, .slice A0_2 l0_2.length c0_2, .int .i64 a0_3] 25 (0, 0)) zq26 hb); have n1_ := Aside0.mk (below_step zq27 hb); clear BK308; clear HB; have BK308 := n0_; have HB := n1_; clear n0_ n1_; (try clear hb); (try clear hb2); (try clear hk); (try clear hi); have hcz15_0 : w14.cell? ⟨gb308, 0, none⟩ = some (.int .i64 a0_0) := (blk_cell BK308.out 0).trans rfl; have hcz15_1 : w14.cell? ⟨gb308, 1, none⟩ = some (.slice A0_1 l0_1.length c0_1) := (blk_cell BK308.out 1).trans rfl; have hcz15_2 : w14.cell? ⟨gb308, 2, none⟩ = some (.slice A0_2 l0_2.length c0_2) := (blk_cell BK308.out 2).trans rfl; have hcz15_3 : w14.cell? ⟨gb308, 3, none⟩ = some (.int .i64 a0_3) := (blk_cell BK308.out 3).trans rfl; have hfz15_0 := blk_frozen BK308.out 0; have hfz15_1 := blk_frozen BK308.out 1; have hfz15_2 := blk_frozen BK308.out 2; have hfz15_3 := blk_frozen BK308.out 3) | ((with_reducible refine gate_callee (f := 17) rfl ?_); refine goesL_ (some 13) rfl rfl Try.func17 (by kernel_rfl) rfl #[.agg #[.int .i64 a0_0, .slice A0_1 l0_1.length c0_1, .slice A0_2 l0_2.length c0_2, .int .i64 a0_3]] rfl zq8 ?_; (with_reducible refine (laws_toStore.calls k a0_0 _ _ l0_1 _ _ l0_2 a0_3 t310 t311 t314 t317 _ ?side1 ?side2 ?side3 ?side4 A7.out).mono ?_); (case side1 => exact zq11); (case side2 => exact zq12); (case side3 => exact zq15); (case side4 => exact zq16); rintro e w16 ⟨v312, v315, rfl, ho0, ho1, hb⟩; refine ⟨_, rfl, ?_⟩; have n0_ := Aside0.mk (Kd.R_lower ho0 (below_size zq27)); have n1_ := Aside0.mk (Kd.R_lower ho1 (below_size zq27)); have n2_ := Aside0.mk (blk_below (g := gb308) (o := .cells #[.int .i64 a0_0, .slice A0_1 l0_1.length c0_1, .slice A0_2 l0_2.length c0_2, .int .i64 a0_3] 25 (0, 0)) zq26 hb); have n3_ := Aside0.mk (below_step zq27 hb); clear BK308; clear HB; have HO313 := n0_; have HO316 := n1_; have BK308 := n2_; have HB := n3_; clear n0_ n1_ n2_ n3_; (try clear hb); (try clear hb2); (try clear hk); (try clear hi); (try clear ho0); (try clear ho1); obtain ⟨Ao17, co17, eo17⟩ := Kd.R_slice HO313.out; subst eo17; obtain ⟨Ao18, co18, eo18⟩ := Kd.R_slice HO316.out; subst eo18) | ((with_reducible refine gate_callee (f := 16) rfl ?_); refine goesL_ (some 14) rfl rfl Try.func16 (by kernel_rfl) rfl #[.agg #[.int .i64 t310, .slice Ao17 t311.length co17, .slice Ao18 t314.length co18, .int .i64 t317]] rfl zq8 ?_; (with_reducible refine (spec_StoreOk.calls k t310 _ _ t311 _ _ t314 t317 t318 _ ?side1 ?side2 ?side3 ?side4 A8.out).mono ?_); (case side1 => exact zq28); (case side2 => exact zq29); (case side3 => exact zq30); (case side4 => exact zq31); rintro e w19 ⟨rfl, hb⟩; refine ⟨_, rfl, ?_⟩; have n0_ := Aside0.mk (Kd.R_below zq32 hb); have n1_ := Aside0.mk (Kd.R_below zq33 hb); have n2_ := Aside0.mk (blk_below (g := gb308) (o := .cells #[.int .i64 a0_0, .slice A0_1 l0_1.length c0_1, .slice A0_2 l0_2.length c0_2, .int .i64 a0_3] 25 (0, 0)) zq26 hb); have n3_ := Aside0.mk (below_step zq27 hb); clear HO313; clear HO316; clear BK308; clear HB; have HO313 := n0_; have HO316 := n1_; have BK308 := n2_; have HB := n3_; clear n0_ n1_ n2_ n3_; (try clear hb); (try clear hb2); (try clear hk); (try clear hi); have hcz20_0 : w19.cell? ⟨gb308, 0, none⟩ = some (.int .i64 a0_0) := (blk_cell BK308.out 0).trans rfl; have hcz20_1 : w19.cell? ⟨gb308, 1, none⟩ = some (.slice A0_1 l0_1.length c0_1) := (blk_cell BK308.out 1).trans rfl; have hcz20_2 : w19.cell? ⟨gb308, 2, none⟩ = some (.slice A0_2 l0_2.length c0_2) := (blk_cell BK308.out 2).trans rfl; have hcz20_3 : w19.cell? ⟨gb308, 3, none⟩ = some (.int .i64 a0_3) := (blk_cell BK308.out 3).trans rfl; have hfz20_0 := blk_frozen BK308.out 0; have hfz20_1 := blk_frozen BK308.out 1; have hfz20_2 := blk_frozen BK308.out 2; have hfz20_3 := blk_frozen BK308.out 3) | ((with_reducible refine gate_callee (f := 17) rfl ?_); refine goesL_ (some 16) rfl rfl Try.func17 (by kernel_rfl) rfl #[.agg #[.int .i64 a0_0, .slice A0_1 l0_1.length c0_1, .slice A0_2 l0_2.length c0_2, .int .i64 a0_3]] rfl zq8 ?_; (with_reducible refine (laws_toStore.calls k a0_0 _ _ l0_1 _ _ l0_2 a0_3 t319 t320 t323 t326 _ ?side1 ?side2 ?side3 ?side4 A9.out).mono ?_); (case side1 => exact zq11); (case side2 => exact zq12); (case side3 => exact zq15); (case side4 => exact zq16); rintro e w21 ⟨v321, v324, rfl, ho0, ho1, hb⟩; refine ⟨_, rfl, ?_⟩; have n0_ := Aside0.mk (Kd.R_elder' zq32 (Kd.R_base ho0) hb); have n1_ := Aside0.mk (Kd.R_elder' zq33 (Kd.R_base ho1) hb); have n2_ := Aside0.mk (Kd.R_lower (Kd.R_new' ho0 (Kd.R_lt zq32)) (below_size zq27)); have n3_ := Aside0.mk (Kd.R_lower (Kd.R_new' ho1 (Kd.R_lt zq33)) (below_size zq27)); have n4_ := Aside0.mk (blk_below (g := gb308) (o := .cells #[.int .i64 a0_0, .slice A0_1 l0_1.length c0_1, .slice A0_2 l0_2.length c0_2, .int .i64 a0_3] 25 (0, 0)) zq26 hb); have n5_ := Aside0.mk (below_step zq27 hb); clear HO313; clear HO316; clear BK308; clear HB; have HO313 := n0_; have HO316 := n1_; have HO322 := n2_; have HO325 := n3_; have BK308 := n4_; have HB := n5_; clear n0_ n1_ n2_ n3_ n4_ n5_; (try clear hb); (try clear hb2); (try clear hk); (try clear hi); (try clear ho0); (try clear ho1)) | ((with_reducible refine gate_dst (N := 5) rfl ?_); refine box_event ?hg (N := 5) ?hd (cs := #[.int .i64 0, .slice none 0 0, .slice none 0 0, .int .i64 0]) (t := 31) ?hr ?_; (case hd => rfl); (case hg => rfl); (case hr => exact zq2); intro gb327 hg w22 hbox hb; have n0_ := Aside0.mk (Kd.R_below zq32 hb); have n1_ := Aside0.mk (Kd.R_below zq33 hb); have n2_ := Aside0.mk (Kd.R_below zq34 hb); have n3_ := Aside0.mk (Kd.R_below zq35 hb); have n4_ := Aside0.mk (blk_below (g := gb308) (o := .cells #[.int .i64 a0_0, .slice A0_1 l0_1.length c0_1, .slice A0_2 l0_2.length c0_2, .int .i64 a0_3] 25 (0, 0)) zq26 hb); have n5_ := Aside0.mk (below_step zq27 hb); have n6_ := Aside0.mk (hbox); have n7_ := Aside0.mk ((zq131 : w.heap.size ≤ gb327)); have n8_ := Aside0.mk ((zq131 : w.heap.size ≤ gb327)); have n9_ := Aside0.mk ((zq132 : gb308 ≠ gb327)); have n10_ := Aside0.mk ((zq133 : gb327 ≠ gb308)); clear HO313; clear HO316; clear HO322; clear HO325; clear BK308; clear HB; have HO313 := n0_; have HO316 := n1_; have HO322 := n2_; have HO325 := n3_; have BK308 := n4_; have HB := n5_; have BK327 := n6_; have GW327 := n7_; have GE327 := n8_; have NB308_327 := n9_; have NB327_308 := n10_; clear n0_ n1_ n2_ n3_ n4_ n5_ n6_ n7_ n8_ n9_ n10_; clear hb hbox hg; have hnb23 := NB327_308.out; have hnc23 := NB308_327.out; have hcz24_0 : w22.cell? ⟨gb327, 0, none⟩ = some (.int .i64 0) := (blk_cell BK327.out 0).trans rfl; have hcz24_1 : w22.cell? ⟨gb327, 1, none⟩ = some (.slice none 0 0) := (blk_cell BK327.out 1).trans rfl; have hcz24_2 : w22.cell? ⟨gb327, 2, none⟩ = some (.slice none 0 0) := (blk_cell BK327.out 2).trans rfl; have hcz24_3 : w22.cell? ⟨gb327, 3, none⟩ = some (.int .i64 0) := (blk_cell BK327.out 3).trans rfl; have hfz24_0 := blk_frozen BK327.out 0; have hfz24_1 := blk_frozen BK327.out 1; have hfz24_2 := blk_frozen BK327.out 2; have hfz24_3 := blk_frozen BK327.out 3; obtain ⟨Ao25, co25, eo25⟩ := Kd.R_slice HO322.out; subst eo25; obtain ⟨Ao26, co26, eo26⟩ := Kd.R_slice HO325.out; subst eo26) | ((with_reducible refine gate_callee (f := 18) rfl ?_); refine goesL_ (some 18) rfl rfl Try.func18 (by kernel_rfl) rfl #[.agg #[.int .i64 t319, .slice Ao25 t320.length co25, .slice Ao26 t323.length co26, .int .i64 t326]] rfl zq8 ?_; (with_reducible refine (impl_StoreOk.calls k t319 _ _ t320 _ _ t323 t326 t328 _ ?side1 ?side2 ?side3 ?side4 A10.out).mono ?_); (case side1 => refine (Kd.R_reads' (e := 66) (base := w.heap.size) (ok := fun k_ => (True ∧ some k_ ≠ (.slice Ao17 t311.length co17 : Value).ownBlock)) (n := t320.length) (c := co25) ?_).2.2; exact zq36); (case side2 => exact zq37); (case side3 => refine (Kd.R_reads' (e := 68) (base := w.heap.size) (ok := fun k_ => (True ∧ some k_ ≠ (.slice Ao18 t314.length co18 : Value).ownBlock)) (n := t323.length) (c := co26) ?_).2.2; exact zq38); (case side4 => exact zq39); rintro e w27 ⟨rfl, hb⟩; refine ⟨_, rfl, ?_⟩; have n0_ := Aside0.mk (Kd.R_below (by (with_reducible repeat (first | apply Kd.R_alloc | apply Kd.R_drewN | apply Kd.R_drew)); exact (Kd.R_mono (Kd.R_far (p := ⟨gb327, 3, none⟩) (Kd.R_far (p := ⟨gb327, 2, none⟩) (Kd.R_far (p := ⟨gb327, 1, none⟩) (Kd.R_far (p := ⟨gb327, 0, none⟩) (Kd.R_types HO313.out BK327.out (by decide)) (fun _ hk => hk.2) (.int .i64 t319)) (fun _ hk => hk.2) (.slice Ao25 t320.length co25)) (fun _ hk => hk.2) (.slice Ao26 t323.length co26)) (fun _ hk => hk.2) (.int .i64 t326)) (fun _ h_ => h_.1))) hb); have n1_ := Aside0.mk (Kd.R_below (by (with_reducible repeat (first | apply Kd.R_alloc | apply Kd.R_drewN | apply Kd.R_drew)); exact (Kd.R_mono (Kd.R_far (p := ⟨gb327, 3, none⟩) (Kd.R_far (p := ⟨gb327, 2, none⟩) (Kd.R_far (p := ⟨gb327, 1, none⟩) (Kd.R_far (p := ⟨gb327, 0, none⟩) (Kd.R_types HO316.out BK327.out (by decide)) (fun _ hk => hk.2) (.int .i64 t319)) (fun _ hk => hk.2) (.slice Ao25 t320.length co25)) (fun _ hk => hk.2) (.slice Ao26 t323.length co26)) (fun _ hk => hk.2) (.int .i64 t326)) (fun _ h_ => h_.1))) hb); have n2_ := Aside0.mk (Kd.R_below zq36 hb); have n3_ := Aside0.mk (Kd.R_below zq38 hb); have n4_ := Aside0.mk (blk_below (g := gb308) (o := .cells #[.int .i64 a0_0, .slice A0_1 l0_1.length c0_1, .slice A0_2 l0_2.length c0_2, .int .i64 a0_3] 25 (0, 0)) zq40 hb); have n5_ := Aside0.mk (blk_below (g := gb327) (o := .cells #[.int .i64 t319, .slice Ao25 t320.length co25, .slice Ao26 t323.length co26, .int .i64 t326] 31 (0, 0)) (by (with_reducible repeat (first | refine blk_drewN ?_ _ | refine blk_drew ?_ | refine blk_alloc ?_ _)); refine blk_put (cs := #[.int .i64 t319, .slice Ao25 t320.length co25, .slice Ao26 t323.length co26, .int .i64 0]) ?_ 3 _ rfl; (with_reducible repeat (first | refine blk_drewN ?_ _ | refine blk_drew ?_ | refine blk_alloc ?_ _)); refine blk_put (cs := #[.int .i64 t319, .slice Ao25 t320.length co25, .slice none 0 0, .int .i64 0]) ?_ 2 _ rfl; (with_reducible repeat (first | refine blk_drewN ?_ _ | refine blk_drew ?_ | refine blk_alloc ?_ _)); refine blk_put (cs := #[.int .i64 t319, .slice none 0 0, .slice none 0 0, .int .i64 0]) ?_ 1 _ rfl; (with_reducible repeat (first | refine blk_drewN ?_ _ | refine blk_drew ?_ | refine blk_alloc ?_ _)); refine blk_put (cs := #[.int .i64 0, .slice none 0 0, .slice none 0 0, .int .i64 0]) ?_ 0 _ rfl; (with_reducible repeat (first | refine blk_drewN ?_ _ | refine blk_drew ?_ | refine blk_alloc ?_ _)); exact BK327.out) hb); have n6_ := Aside0.mk (below_step zq41 hb); clear HO313; clear HO316; clear HO322; clear HO325; clear BK308; clear BK327; clear HB; have HO313 := n0_; have HO316 := n1_; have HO322 := n2_; have HO325 := n3_; have BK308 := n4_; have BK327 := n5_; have HB := n6_; clear n0_ n1_ n2_ n3_ n4_ n5_ n6_; (try clear hb); (try clear hb2); (try clear hk); (try clear hi)))
   go_ret
   exact ⟨zq4, zq41⟩
  ·
   rw [if_neg c11] at H
   have c11b0 : (t328 != t318) = false := by simpa using c11
   (try (have c11b1 : decide (t328 = t318) = true := by simpa using c11))
   (try (have c11b2 : (t328 == t318) = true := by simpa using c11))
   clear c11
   replace H := Option.bind_eq_some_iff.mp H
   obtain ⟨⟨t329, t330, t333, t336⟩, A280, H⟩ := H
   replace H : ((laws_eqStore.f k t319 t320 t323 t326 t329 t330 t333 t336).bind fun t337 => (if t337 = true then (some true) else (some false))) = some r := H
   have A28 := Aside0.mk A280
   clear A280
   replace H := Option.bind_eq_some_iff.mp H
   obtain ⟨t337, A290, H⟩ := H
   replace H : (if t337 = true then (some true) else (some false)) = some r := H
   have A29 := Aside0.mk A290
   clear A290
   by_cases c30 : t337 = true
   ·
    subst c30
    have H1 : (some true) = some r := by rw [if_pos rfl] at H; exact H
    clear H
    have H := H1
    clear H1
    obtain rfl := Option.some.inj H
    go_enter Try.func3, Try.ntmps3
    try go_wp2_with (first | ((with_reducible refine gate_dst (N := 1) rfl ?_); refine box_event ?hg (N := 1) ?hd (cs := #[.int .i64 a0_0, .slice A0_1 l0_1.length c0_1, .slice A0_2 l0_2.length c0_2, .int .i64 a0_3]) (t := 25) ?hr ?_; (case hd => rfl); (case hg => rfl); (case hr => exact zq2); intro gb308 hg w31 hbox hb; have n0_ := Aside0.mk (below_step zq3 hb); have n1_ := Aside0.mk (hbox); have n2_ := Aside0.mk ((zq127 : w.heap.size ≤ gb308)); have n3_ := Aside0.mk ((zq127 : w.heap.size ≤ gb308)); clear HB; have HB := n0_; have BK308 := n1_; have GW308 := n2_; have GE308 := n3_; clear n0_ n1_ n2_ n3_; clear hb hbox hg; have hcz32_0 : w31.cell? ⟨gb308, 0, none⟩ = some (.int .i64 a0_0) := (blk_cell BK308.out 0).trans rfl; have hcz32_1 : w31.cell? ⟨gb308, 1, none⟩ = some (.slice A0_1 l0_1.length c0_1) := (blk_cell BK308.out 1).trans rfl; have hcz32_2 : w31.cell? ⟨gb308, 2, none⟩ = some (.slice A0_2 l0_2.length c0_2) := (blk_cell BK308.out 2).trans rfl; have hcz32_3 : w31.cell? ⟨gb308, 3, none⟩ = some (.int .i64 a0_3) := (blk_cell BK308.out 3).trans rfl; have hfz32_0 := blk_frozen BK308.out 0; have hfz32_1 := blk_frozen BK308.out 1; have hfz32_2 := blk_frozen BK308.out 2; have hfz32_3 := blk_frozen BK308.out 3) | ((with_reducible refine gate_callee (f := 15) rfl ?_); refine goesL_ (some 9) rfl rfl Try.func15 (by kernel_rfl) rfl #[.agg #[.int .i64 a0_0, .slice A0_1 l0_1.length c0_1, .slice A0_2 l0_2.length c0_2, .int .i64 a0_3], .int .i64 1048576] rfl zq8 ?_; (with_reducible refine (laws_szStore.calls k a0_0 _ _ l0_1 _ _ l0_2 a0_3 1048576 t309 _ ?side1 ?side2 ?side3 ?side4 A2.out).mono ?_); (case side1 => exact zq11); (case side2 => exact zq12); (case side3 => exact zq15); (case side4 => exact zq16); rintro e w33 ⟨rfl, hb⟩; refine ⟨_, rfl, ?_⟩; have n0_ := Aside0.mk (blk_below (g := gb308) (o := .cells #[.int .i64 a0_0, .slice A0_1 l0_1.length c0_1, .slice A0_2 l0_2.length c0_2, .int .i64 a0_3] 25 (0, 0)) zq26 hb); have n1_ := Aside0.mk (below_step zq27 hb); clear BK308; clear HB; have BK308 := n0_; have HB := n1_; clear n0_ n1_; (try clear hb); (try clear hb2); (try clear hk); (try clear hi); have hcz34_0 : w33.cell? ⟨gb308, 0, none⟩ = some (.int .i64 a0_0) := (blk_cell BK308.out 0).trans rfl; have hcz34_1 : w33.cell? ⟨gb308, 1, none⟩ = some (.slice A0_1 l0_1.length c0_1) := (blk_cell BK308.out 1).trans rfl; have hcz34_2 : w33.cell? ⟨gb308, 2, none⟩ = some (.slice A0_2 l0_2.length c0_2) := (blk_cell BK308.out 2).trans rfl; have hcz34_3 : w33.cell? ⟨gb308, 3, none⟩ = some (.int .i64 a0_3) := (blk_cell BK308.out 3).trans rfl; have hfz34_0 := blk_frozen BK308.out 0; have hfz34_1 := blk_frozen BK308.out 1; have hfz34_2 := blk_frozen BK308.out 2; have hfz34_3 := blk_frozen BK308.out 3) | ((with_reducible refine gate_callee (f := 17) rfl ?_); refine goesL_ (some 13) rfl rfl Try.func17 (by kernel_rfl) rfl #[.agg #[.int .i64 a0_0, .slice A0_1 l0_1.length c0_1, .slice A0_2 l0_2.length c0_2, .int .i64 a0_3]] rfl zq8 ?_; (with_reducible refine (laws_toStore.calls k a0_0 _ _ l0_1 _ _ l0_2 a0_3 t310 t311 t314 t317 _ ?side1 ?side2 ?side3 ?side4 A7.out).mono ?_); (case side1 => exact zq11); (case side2 => exact zq12); (case side3 => exact zq15); (case side4 => exact zq16); rintro e w35 ⟨v312, v315, rfl, ho0, ho1, hb⟩; refine ⟨_, rfl, ?_⟩; have n0_ := Aside0.mk (Kd.R_lower ho0 (below_size zq27)); have n1_ := Aside0.mk (Kd.R_lower ho1 (below_size zq27)); have n2_ := Aside0.mk (blk_below (g := gb308) (o := .cells #[.int .i64 a0_0, .slice A0_1 l0_1.length c0_1, .slice A0_2 l0_2.length c0_2, .int .i64 a0_3] 25 (0, 0)) zq26 hb); have n3_ := Aside0.mk (below_step zq27 hb); clear BK308; clear HB; have HO313 := n0_; have HO316 := n1_; have BK308 := n2_; have HB := n3_; clear n0_ n1_ n2_ n3_; (try clear hb); (try clear hb2); (try clear hk); (try clear hi); (try clear ho0); (try clear ho1); obtain ⟨Ao36, co36, eo36⟩ := Kd.R_slice HO313.out; subst eo36; obtain ⟨Ao37, co37, eo37⟩ := Kd.R_slice HO316.out; subst eo37) | ((with_reducible refine gate_callee (f := 16) rfl ?_); refine goesL_ (some 14) rfl rfl Try.func16 (by kernel_rfl) rfl #[.agg #[.int .i64 t310, .slice Ao36 t311.length co36, .slice Ao37 t314.length co37, .int .i64 t317]] rfl zq8 ?_; (with_reducible refine (spec_StoreOk.calls k t310 _ _ t311 _ _ t314 t317 t318 _ ?side1 ?side2 ?side3 ?side4 A8.out).mono ?_); (case side1 => exact zq28); (case side2 => exact zq29); (case side3 => exact zq30); (case side4 => exact zq31); rintro e w38 ⟨rfl, hb⟩; refine ⟨_, rfl, ?_⟩; have n0_ := Aside0.mk (Kd.R_below zq32 hb); have n1_ := Aside0.mk (Kd.R_below zq33 hb); have n2_ := Aside0.mk (blk_below (g := gb308) (o := .cells #[.int .i64 a0_0, .slice A0_1 l0_1.length c0_1, .slice A0_2 l0_2.length c0_2, .int .i64 a0_3] 25 (0, 0)) zq26 hb); have n3_ := Aside0.mk (below_step zq27 hb); clear HO313; clear HO316; clear BK308; clear HB; have HO313 := n0_; have HO316 := n1_; have BK308 := n2_; have HB := n3_; clear n0_ n1_ n2_ n3_; (try clear hb); (try clear hb2); (try clear hk); (try clear hi); have hcz39_0 : w38.cell? ⟨gb308, 0, none⟩ = some (.int .i64 a0_0) := (blk_cell BK308.out 0).trans rfl; have hcz39_1 : w38.cell? ⟨gb308, 1, none⟩ = some (.slice A0_1 l0_1.length c0_1) := (blk_cell BK308.out 1).trans rfl; have hcz39_2 : w38.cell? ⟨gb308, 2, none⟩ = some (.slice A0_2 l0_2.length c0_2) := (blk_cell BK308.out 2).trans rfl; have hcz39_3 : w38.cell? ⟨gb308, 3, none⟩ = some (.int .i64 a0_3) := (blk_cell BK308.out 3).trans rfl; have hfz39_0 := blk_frozen BK308.out 0; have hfz39_1 := blk_frozen BK308.out 1; have hfz39_2 := blk_frozen BK308.out 2; have hfz39_3 := blk_frozen BK308.out 3) | ((with_reducible refine gate_callee (f := 17) rfl ?_); refine goesL_ (some 16) rfl rfl Try.func17 (by kernel_rfl) rfl #[.agg #[.int .i64 a0_0, .slice A0_1 l0_1.length c0_1, .slice A0_2 l0_2.length c0_2, .int .i64 a0_3]] rfl zq8 ?_; (with_reducible refine (laws_toStore.calls k a0_0 _ _ l0_1 _ _ l0_2 a0_3 t319 t320 t323 t326 _ ?side1 ?side2 ?side3 ?side4 A9.out).mono ?_); (case side1 => exact zq11); (case side2 => exact zq12); (case side3 => exact zq15); (case side4 => exact zq16); rintro e w40 ⟨v321, v324, rfl, ho0, ho1, hb⟩; refine ⟨_, rfl, ?_⟩; have n0_ := Aside0.mk (Kd.R_elder' zq32 (Kd.R_base ho0) hb); have n1_ := Aside0.mk (Kd.R_elder' zq33 (Kd.R_base ho1) hb); have n2_ := Aside0.mk (Kd.R_lower (Kd.R_new' ho0 (Kd.R_lt zq32)) (below_size zq27)); have n3_ := Aside0.mk (Kd.R_lower (Kd.R_new' ho1 (Kd.R_lt zq33)) (below_size zq27)); have n4_ := Aside0.mk (blk_below (g := gb308) (o := .cells #[.int .i64 a0_0, .slice A0_1 l0_1.length c0_1, .slice A0_2 l0_2.length c0_2, .int .i64 a0_3] 25 (0, 0)) zq26 hb); have n5_ := Aside0.mk (below_step zq27 hb); clear HO313; clear HO316; clear BK308; clear HB; have HO313 := n0_; have HO316 := n1_; have HO322 := n2_; have HO325 := n3_; have BK308 := n4_; have HB := n5_; clear n0_ n1_ n2_ n3_ n4_ n5_; (try clear hb); (try clear hb2); (try clear hk); (try clear hi); (try clear ho0); (try clear ho1)) | ((with_reducible refine gate_dst (N := 5) rfl ?_); refine box_event ?hg (N := 5) ?hd (cs := #[.int .i64 0, .slice none 0 0, .slice none 0 0, .int .i64 0]) (t := 31) ?hr ?_; (case hd => rfl); (case hg => rfl); (case hr => exact zq2); intro gb327 hg w41 hbox hb; have n0_ := Aside0.mk (Kd.R_below zq32 hb); have n1_ := Aside0.mk (Kd.R_below zq33 hb); have n2_ := Aside0.mk (Kd.R_below zq34 hb); have n3_ := Aside0.mk (Kd.R_below zq35 hb); have n4_ := Aside0.mk (blk_below (g := gb308) (o := .cells #[.int .i64 a0_0, .slice A0_1 l0_1.length c0_1, .slice A0_2 l0_2.length c0_2, .int .i64 a0_3] 25 (0, 0)) zq26 hb); have n5_ := Aside0.mk (below_step zq27 hb); have n6_ := Aside0.mk (hbox); have n7_ := Aside0.mk ((zq131 : w.heap.size ≤ gb327)); have n8_ := Aside0.mk ((zq131 : w.heap.size ≤ gb327)); have n9_ := Aside0.mk ((zq132 : gb308 ≠ gb327)); have n10_ := Aside0.mk ((zq133 : gb327 ≠ gb308)); clear HO313; clear HO316; clear HO322; clear HO325; clear BK308; clear HB; have HO313 := n0_; have HO316 := n1_; have HO322 := n2_; have HO325 := n3_; have BK308 := n4_; have HB := n5_; have BK327 := n6_; have GW327 := n7_; have GE327 := n8_; have NB308_327 := n9_; have NB327_308 := n10_; clear n0_ n1_ n2_ n3_ n4_ n5_ n6_ n7_ n8_ n9_ n10_; clear hb hbox hg; have hnb42 := NB327_308.out; have hnc42 := NB308_327.out; have hcz43_0 : w41.cell? ⟨gb327, 0, none⟩ = some (.int .i64 0) := (blk_cell BK327.out 0).trans rfl; have hcz43_1 : w41.cell? ⟨gb327, 1, none⟩ = some (.slice none 0 0) := (blk_cell BK327.out 1).trans rfl; have hcz43_2 : w41.cell? ⟨gb327, 2, none⟩ = some (.slice none 0 0) := (blk_cell BK327.out 2).trans rfl; have hcz43_3 : w41.cell? ⟨gb327, 3, none⟩ = some (.int .i64 0) := (blk_cell BK327.out 3).trans rfl; have hfz43_0 := blk_frozen BK327.out 0; have hfz43_1 := blk_frozen BK327.out 1; have hfz43_2 := blk_frozen BK327.out 2; have hfz43_3 := blk_frozen BK327.out 3; obtain ⟨Ao44, co44, eo44⟩ := Kd.R_slice HO322.out; subst eo44; obtain ⟨Ao45, co45, eo45⟩ := Kd.R_slice HO325.out; subst eo45) | ((with_reducible refine gate_callee (f := 18) rfl ?_); refine goesL_ (some 18) rfl rfl Try.func18 (by kernel_rfl) rfl #[.agg #[.int .i64 t319, .slice Ao44 t320.length co44, .slice Ao45 t323.length co45, .int .i64 t326]] rfl zq8 ?_; (with_reducible refine (impl_StoreOk.calls k t319 _ _ t320 _ _ t323 t326 t328 _ ?side1 ?side2 ?side3 ?side4 A10.out).mono ?_); (case side1 => refine (Kd.R_reads' (e := 66) (base := w.heap.size) (ok := fun k_ => (True ∧ some k_ ≠ (.slice Ao36 t311.length co36 : Value).ownBlock)) (n := t320.length) (c := co44) ?_).2.2; exact zq42); (case side2 => exact zq37); (case side3 => refine (Kd.R_reads' (e := 68) (base := w.heap.size) (ok := fun k_ => (True ∧ some k_ ≠ (.slice Ao37 t314.length co37 : Value).ownBlock)) (n := t323.length) (c := co45) ?_).2.2; exact zq43); (case side4 => exact zq39); rintro e w46 ⟨rfl, hb⟩; refine ⟨_, rfl, ?_⟩; have n0_ := Aside0.mk (Kd.R_below (by (with_reducible repeat (first | apply Kd.R_alloc | apply Kd.R_drewN | apply Kd.R_drew)); exact (Kd.R_mono (Kd.R_far (p := ⟨gb327, 3, none⟩) (Kd.R_far (p := ⟨gb327, 2, none⟩) (Kd.R_far (p := ⟨gb327, 1, none⟩) (Kd.R_far (p := ⟨gb327, 0, none⟩) (Kd.R_types HO313.out BK327.out (by decide)) (fun _ hk => hk.2) (.int .i64 t319)) (fun _ hk => hk.2) (.slice Ao44 t320.length co44)) (fun _ hk => hk.2) (.slice Ao45 t323.length co45)) (fun _ hk => hk.2) (.int .i64 t326)) (fun _ h_ => h_.1))) hb); have n1_ := Aside0.mk (Kd.R_below (by (with_reducible repeat (first | apply Kd.R_alloc | apply Kd.R_drewN | apply Kd.R_drew)); exact (Kd.R_mono (Kd.R_far (p := ⟨gb327, 3, none⟩) (Kd.R_far (p := ⟨gb327, 2, none⟩) (Kd.R_far (p := ⟨gb327, 1, none⟩) (Kd.R_far (p := ⟨gb327, 0, none⟩) (Kd.R_types HO316.out BK327.out (by decide)) (fun _ hk => hk.2) (.int .i64 t319)) (fun _ hk => hk.2) (.slice Ao44 t320.length co44)) (fun _ hk => hk.2) (.slice Ao45 t323.length co45)) (fun _ hk => hk.2) (.int .i64 t326)) (fun _ h_ => h_.1))) hb); have n2_ := Aside0.mk (Kd.R_below zq42 hb); have n3_ := Aside0.mk (Kd.R_below zq43 hb); have n4_ := Aside0.mk (blk_below (g := gb308) (o := .cells #[.int .i64 a0_0, .slice A0_1 l0_1.length c0_1, .slice A0_2 l0_2.length c0_2, .int .i64 a0_3] 25 (0, 0)) zq40 hb); have n5_ := Aside0.mk (blk_below (g := gb327) (o := .cells #[.int .i64 t319, .slice Ao44 t320.length co44, .slice Ao45 t323.length co45, .int .i64 t326] 31 (0, 0)) (by (with_reducible repeat (first | refine blk_drewN ?_ _ | refine blk_drew ?_ | refine blk_alloc ?_ _)); refine blk_put (cs := #[.int .i64 t319, .slice Ao44 t320.length co44, .slice Ao45 t323.length co45, .int .i64 0]) ?_ 3 _ rfl; (with_reducible repeat (first | refine blk_drewN ?_ _ | refine blk_drew ?_ | refine blk_alloc ?_ _)); refine blk_put (cs := #[.int .i64 t319, .slice Ao44 t320.length co44, .slice none 0 0, .int .i64 0]) ?_ 2 _ rfl; (with_reducible repeat (first | refine blk_drewN ?_ _ | refine blk_drew ?_ | refine blk_alloc ?_ _)); refine blk_put (cs := #[.int .i64 t319, .slice none 0 0, .slice none 0 0, .int .i64 0]) ?_ 1 _ rfl; (with_reducible repeat (first | refine blk_drewN ?_ _ | refine blk_drew ?_ | refine blk_alloc ?_ _)); refine blk_put (cs := #[.int .i64 0, .slice none 0 0, .slice none 0 0, .int .i64 0]) ?_ 0 _ rfl; (with_reducible repeat (first | refine blk_drewN ?_ _ | refine blk_drew ?_ | refine blk_alloc ?_ _)); exact BK327.out) hb); have n6_ := Aside0.mk (below_step zq41 hb); clear HO313; clear HO316; clear HO322; clear HO325; clear BK308; clear BK327; clear HB; have HO313 := n0_; have HO316 := n1_; have HO322 := n2_; have HO325 := n3_; have BK308 := n4_; have BK327 := n5_; have HB := n6_; clear n0_ n1_ n2_ n3_ n4_ n5_ n6_; (try clear hb); (try clear hb2); (try clear hk); (try clear hi)))
    have n0_ := Aside0.mk (Kd.R_drew HO313.out)
    have n1_ := Aside0.mk (Kd.R_drew HO316.out)
    have n2_ := Aside0.mk (Kd.R_drew HO322.out)
    have n3_ := Aside0.mk (Kd.R_drew HO325.out)
    have n4_ := Aside0.mk (blk_drew BK308.out)
    have n5_ := Aside0.mk (blk_drew BK327.out)
    have n6_ := Aside0.mk (below_drew1 HB.out)
    clear HO313
    clear HO316
    clear HO322
    clear HO325
    clear BK308
    clear BK327
    clear HB
    have HO313 := n0_
    have HO316 := n1_
    have HO322 := n2_
    have HO325 := n3_
    have BK308 := n4_
    have BK327 := n5_
    have HB := n6_
    clear n0_ n1_ n2_ n3_ n4_ n5_ n6_
    refine start_ (n := 5) (S := fun w' => w'.cell? ⟨gb327, 0, none⟩ = some (.int .i64 t319) ∧ w'.cell? ⟨gb327, 1, none⟩ = some (.slice Ao44 t320.length co44) ∧ w'.cell? ⟨gb327, 2, none⟩ = some (.slice Ao45 t323.length co45) ∧ w'.cell? ⟨gb327, 3, none⟩ = some (.int .i64 t326) ∧ w'.cell? ⟨gb308, 0, none⟩ = some (.int .i64 a0_0) ∧ w'.cell? ⟨gb308, 1, none⟩ = some (.slice A0_1 l0_1.length c0_1) ∧ w'.cell? ⟨gb308, 2, none⟩ = some (.slice A0_2 l0_2.length c0_2) ∧ w'.cell? ⟨gb308, 3, none⟩ = some (.int .i64 a0_3)) (ds := []) #[false, false, false, false, false] (by kernel_rfl) rfl rfl ⟨(blk_cell BK327.out 0).trans rfl, (blk_cell BK327.out 1).trans rfl, (blk_cell BK327.out 2).trans rfl, (blk_cell BK327.out 3).trans rfl, (blk_cell BK308.out 0).trans rfl, (blk_cell BK308.out 1).trans rfl, (blk_cell BK308.out 2).trans rfl, (blk_cell BK308.out 3).trans rfl⟩ (fun hHeld => ?_)
    generalize w46.drew = w47 at HO313 HO316 HO322 HO325 BK308 BK327 HB hHeld ⊢
    refine take_ (i := 0) (N := some 22) (v := ?_) (a' := ?_) #[true, false, false, false, false] rfl rfl (by kernel_rfl) (fun _ _ _ h => h) (Or.inl ⟨by rfl, ?_⟩) hHeld ?_ ?_
    rotate_left
    exact zq167
    rotate_left
    exact zq163
    refine take_ (i := 1) (N := some 23) (v := ?_) (a' := ?_) #[true, true, false, false, false] rfl rfl (by kernel_rfl) (fun _ _ _ h => h) (Or.inl ⟨by rfl, ?_⟩) hHeld ?_ ?_
    rotate_left
    exact zq167
    rotate_left
    exact zq163
    refine one_ (i := 2) (N := some 24) #[true, true, true, false, false] rfl rfl (by kernel_rfl) (by decide) (fun K hK => ?_)
    refine goes_ Try.func17 (by kernel_rfl) rfl #[.agg #[.int .i64 a0_0, .slice A0_1 l0_1.length c0_1, .slice A0_2 l0_2.length c0_2, .int .i64 a0_3]] (by rfl) rfl rfl zq8 ?_
    with_reducible refine (laws_toStore.calls k a0_0 _ _ l0_1 _ _ l0_2 a0_3 t329 t330 t333 t336 _ ?side1 ?side2 ?side3 ?side4 A28.out).mono ?_
    (case side1 => exact zq11)
    (case side2 => exact zq12)
    (case side3 => exact zq15)
    (case side4 => exact zq16)
    rintro e w48 ⟨v331, v334, rfl, ho0, ho1, hb⟩
    refine ⟨_, rfl, ?_⟩
    have n0_ := Aside0.mk (Kd.R_elder' zq32 (Kd.R_base ho0) hb)
    have n1_ := Aside0.mk (Kd.R_elder' zq33 (Kd.R_base ho1) hb)
    have n2_ := Aside0.mk (Kd.R_elder' zq34 (Kd.R_base ho0) hb)
    have n3_ := Aside0.mk (Kd.R_elder' zq35 (Kd.R_base ho1) hb)
    have n4_ := Aside0.mk (Kd.R_lower (Kd.R_new' (Kd.R_new' ho0 (Kd.R_lt zq32)) (Kd.R_lt zq34)) (below_size zq41))
    have n5_ := Aside0.mk (Kd.R_lower (Kd.R_new' (Kd.R_new' ho1 (Kd.R_lt zq33)) (Kd.R_lt zq35)) (below_size zq41))
    have n6_ := Aside0.mk (blk_below (g := gb308) (o := .cells #[.int .i64 a0_0, .slice A0_1 l0_1.length c0_1, .slice A0_2 l0_2.length c0_2, .int .i64 a0_3] 25 (0, 0)) zq26 hb)
    have n7_ := Aside0.mk (blk_below (g := gb327) (o := .cells #[.int .i64 t319, .slice Ao44 t320.length co44, .slice Ao45 t323.length co45, .int .i64 t326] 31 (0, 0)) zq44 hb)
    have n8_ := Aside0.mk (below_step zq41 hb)
    clear HO313
    clear HO316
    clear HO322
    clear HO325
    clear BK308
    clear BK327
    clear HB
    have HO313 := n0_
    have HO316 := n1_
    have HO322 := n2_
    have HO325 := n3_
    have HO332 := n4_
    have HO335 := n5_
    have BK308 := n6_
    have BK327 := n7_
    have HB := n8_
    clear n0_ n1_ n2_ n3_ n4_ n5_ n6_ n7_ n8_
    (try clear hb)
    (try clear hb2)
    (try clear hk)
    (try clear hi)
    (try clear ho0)
    (try clear ho1)
    obtain ⟨Ao49, co49, eo49⟩ := Kd.R_slice HO332.out
    (first | subst eo49 | (injection eo49 with f1_ f2_ f3_; have f4_ := f1_.symm; have f5_ := f3_.symm; clear f1_ f2_ f3_; subst f4_; subst f5_))
    obtain ⟨Ao50, co50, eo50⟩ := Kd.R_slice HO335.out
    (first | subst eo50 | (injection eo50 with f1_ f2_ f3_; have f4_ := f1_.symm; have f5_ := f3_.symm; clear f1_ f2_ f3_; subst f4_; subst f5_))
    refine hK.out _ _ ⟨(blk_cell BK327.out 0).trans rfl, (blk_cell BK327.out 1).trans rfl, (blk_cell BK327.out 2).trans rfl, (blk_cell BK327.out 3).trans rfl, (blk_cell BK308.out 0).trans rfl, (blk_cell BK308.out 1).trans rfl, (blk_cell BK308.out 2).trans rfl, (blk_cell BK308.out 3).trans rfl⟩ (fun hHeld => ?_)
    clear hK K
    refine norm_ (a' := ?_) ?_ ?_
    rotate_left
    ·
     show Act.put _ (some 24) _ = _
     simp only [Act.put, List.setIfInBounds_toArray, List.set_cons_zero, List.set_cons_succ, i64_w, i32_w]
     rfl
    refine one_ (i := 3) (N := some 25) #[true, true, true, true, false] rfl rfl (by kernel_rfl) (by decide) (fun K hK => ?_)
    refine goes_ Try.func19 (by kernel_rfl) rfl #[.agg #[.int .i64 t319, .slice Ao44 t320.length co44, .slice Ao45 t323.length co45, .int .i64 t326], .agg #[.int .i64 t329, .slice Ao49 t330.length co49, .slice Ao50 t333.length co50, .int .i64 t336]] (by rfl) rfl rfl zq8 ?_
    with_reducible refine (laws_eqStore.calls k t319 _ _ t320 _ _ t323 t326 t329 _ _ t330 _ _ t333 t336 true _ ?side1 ?side2 ?side3 ?side4 ?side5 ?side6 ?side7 ?side8 A29.out).mono ?_
    (case side1 => exact zq45)
    (case side2 => exact zq37)
    (case side3 => exact zq46)
    (case side4 => exact zq39)
    (case side5 => exact zq47)
    (case side6 => exact (Kd.R_reads' HO332.out).2.1)
    (case side7 => exact zq48)
    (case side8 => exact (Kd.R_reads' HO335.out).2.1)
    rintro e w51 ⟨rfl, hb⟩
    refine ⟨_, rfl, ?_⟩
    have n0_ := Aside0.mk (Kd.R_below zq32 hb)
    have n1_ := Aside0.mk (Kd.R_below zq33 hb)
    have n2_ := Aside0.mk (Kd.R_below zq34 hb)
    have n3_ := Aside0.mk (Kd.R_below zq35 hb)
    have n4_ := Aside0.mk (Kd.R_below zq49 hb)
    have n5_ := Aside0.mk (Kd.R_below zq50 hb)
    have n6_ := Aside0.mk (blk_below (g := gb308) (o := .cells #[.int .i64 a0_0, .slice A0_1 l0_1.length c0_1, .slice A0_2 l0_2.length c0_2, .int .i64 a0_3] 25 (0, 0)) zq26 hb)
    have n7_ := Aside0.mk (blk_below (g := gb327) (o := .cells #[.int .i64 t319, .slice Ao44 t320.length co44, .slice Ao45 t323.length co45, .int .i64 t326] 31 (0, 0)) zq44 hb)
    have n8_ := Aside0.mk (below_step zq41 hb)
    clear HO313
    clear HO316
    clear HO322
    clear HO325
    clear HO332
    clear HO335
    clear BK308
    clear BK327
    clear HB
    have HO313 := n0_
    have HO316 := n1_
    have HO322 := n2_
    have HO325 := n3_
    have HO332 := n4_
    have HO335 := n5_
    have BK308 := n6_
    have BK327 := n7_
    have HB := n8_
    clear n0_ n1_ n2_ n3_ n4_ n5_ n6_ n7_ n8_
    (try clear hb)
    (try clear hb2)
    (try clear hk)
    (try clear hi)
    refine hK.out _ _ ⟨(blk_cell BK327.out 0).trans rfl, (blk_cell BK327.out 1).trans rfl, (blk_cell BK327.out 2).trans rfl, (blk_cell BK327.out 3).trans rfl, (blk_cell BK308.out 0).trans rfl, (blk_cell BK308.out 1).trans rfl, (blk_cell BK308.out 2).trans rfl, (blk_cell BK308.out 3).trans rfl⟩ (fun hHeld => ?_)
    clear hK K
    refine norm_ (a' := ?_) ?_ ?_
    rotate_left
    exact zq165
    refine pure_ (i := 4) (N := some 26) (v := ?_) (a' := ?_) #[true, true, true, true, true] rfl rfl (by kernel_rfl) (fun _ _ _ h => h) (Or.inl ⟨by rfl, ?_⟩) ?_ ?_
    rotate_left
    exact zq162
    rotate_left
    exact zq163
    refine done_ (by kernel_rfl) ?_
    try go_wp2
    go_ret
    exact ⟨zq4, zq41⟩
   ·
    replace c30 := Bool.eq_false_iff.mpr c30
    subst c30
    have H1 : (some false) = some r := by rw [if_neg (show ¬ (false = true) by decide)] at H; exact H
    clear H
    have H := H1
    clear H1
    obtain rfl := Option.some.inj H
    go_enter Try.func3, Try.ntmps3
    try go_wp2_with (first | ((with_reducible refine gate_dst (N := 1) rfl ?_); refine box_event ?hg (N := 1) ?hd (cs := #[.int .i64 a0_0, .slice A0_1 l0_1.length c0_1, .slice A0_2 l0_2.length c0_2, .int .i64 a0_3]) (t := 25) ?hr ?_; (case hd => rfl); (case hg => rfl); (case hr => exact zq2); intro gb308 hg w52 hbox hb; have n0_ := Aside0.mk (below_step zq3 hb); have n1_ := Aside0.mk (hbox); have n2_ := Aside0.mk ((zq127 : w.heap.size ≤ gb308)); have n3_ := Aside0.mk ((zq127 : w.heap.size ≤ gb308)); clear HB; have HB := n0_; have BK308 := n1_; have GW308 := n2_; have GE308 := n3_; clear n0_ n1_ n2_ n3_; clear hb hbox hg; have hcz53_0 : w52.cell? ⟨gb308, 0, none⟩ = some (.int .i64 a0_0) := (blk_cell BK308.out 0).trans rfl; have hcz53_1 : w52.cell? ⟨gb308, 1, none⟩ = some (.slice A0_1 l0_1.length c0_1) := (blk_cell BK308.out 1).trans rfl; have hcz53_2 : w52.cell? ⟨gb308, 2, none⟩ = some (.slice A0_2 l0_2.length c0_2) := (blk_cell BK308.out 2).trans rfl; have hcz53_3 : w52.cell? ⟨gb308, 3, none⟩ = some (.int .i64 a0_3) := (blk_cell BK308.out 3).trans rfl; have hfz53_0 := blk_frozen BK308.out 0; have hfz53_1 := blk_frozen BK308.out 1; have hfz53_2 := blk_frozen BK308.out 2; have hfz53_3 := blk_frozen BK308.out 3) | ((with_reducible refine gate_callee (f := 15) rfl ?_); refine goesL_ (some 9) rfl rfl Try.func15 (by kernel_rfl) rfl #[.agg #[.int .i64 a0_0, .slice A0_1 l0_1.length c0_1, .slice A0_2 l0_2.length c0_2, .int .i64 a0_3], .int .i64 1048576] rfl zq8 ?_; (with_reducible refine (laws_szStore.calls k a0_0 _ _ l0_1 _ _ l0_2 a0_3 1048576 t309 _ ?side1 ?side2 ?side3 ?side4 A2.out).mono ?_); (case side1 => exact zq11); (case side2 => exact zq12); (case side3 => exact zq15); (case side4 => exact zq16); rintro e w54 ⟨rfl, hb⟩; refine ⟨_, rfl, ?_⟩; have n0_ := Aside0.mk (blk_below (g := gb308) (o := .cells #[.int .i64 a0_0, .slice A0_1 l0_1.length c0_1, .slice A0_2 l0_2.length c0_2, .int .i64 a0_3] 25 (0, 0)) zq26 hb); have n1_ := Aside0.mk (below_step zq27 hb); clear BK308; clear HB; have BK308 := n0_; have HB := n1_; clear n0_ n1_; (try clear hb); (try clear hb2); (try clear hk); (try clear hi); have hcz55_0 : w54.cell? ⟨gb308, 0, none⟩ = some (.int .i64 a0_0) := (blk_cell BK308.out 0).trans rfl; have hcz55_1 : w54.cell? ⟨gb308, 1, none⟩ = some (.slice A0_1 l0_1.length c0_1) := (blk_cell BK308.out 1).trans rfl; have hcz55_2 : w54.cell? ⟨gb308, 2, none⟩ = some (.slice A0_2 l0_2.length c0_2) := (blk_cell BK308.out 2).trans rfl; have hcz55_3 : w54.cell? ⟨gb308, 3, none⟩ = some (.int .i64 a0_3) := (blk_cell BK308.out 3).trans rfl; have hfz55_0 := blk_frozen BK308.out 0; have hfz55_1 := blk_frozen BK308.out 1; have hfz55_2 := blk_frozen BK308.out 2; have hfz55_3 := blk_frozen BK308.out 3) | ((with_reducible refine gate_callee (f := 17) rfl ?_); refine goesL_ (some 13) rfl rfl Try.func17 (by kernel_rfl) rfl #[.agg #[.int .i64 a0_0, .slice A0_1 l0_1.length c0_1, .slice A0_2 l0_2.length c0_2, .int .i64 a0_3]] rfl zq8 ?_; (with_reducible refine (laws_toStore.calls k a0_0 _ _ l0_1 _ _ l0_2 a0_3 t310 t311 t314 t317 _ ?side1 ?side2 ?side3 ?side4 A7.out).mono ?_); (case side1 => exact zq11); (case side2 => exact zq12); (case side3 => exact zq15); (case side4 => exact zq16); rintro e w56 ⟨v312, v315, rfl, ho0, ho1, hb⟩; refine ⟨_, rfl, ?_⟩; have n0_ := Aside0.mk (Kd.R_lower ho0 (below_size zq27)); have n1_ := Aside0.mk (Kd.R_lower ho1 (below_size zq27)); have n2_ := Aside0.mk (blk_below (g := gb308) (o := .cells #[.int .i64 a0_0, .slice A0_1 l0_1.length c0_1, .slice A0_2 l0_2.length c0_2, .int .i64 a0_3] 25 (0, 0)) zq26 hb); have n3_ := Aside0.mk (below_step zq27 hb); clear BK308; clear HB; have HO313 := n0_; have HO316 := n1_; have BK308 := n2_; have HB := n3_; clear n0_ n1_ n2_ n3_; (try clear hb); (try clear hb2); (try clear hk); (try clear hi); (try clear ho0); (try clear ho1); obtain ⟨Ao57, co57, eo57⟩ := Kd.R_slice HO313.out; subst eo57; obtain ⟨Ao58, co58, eo58⟩ := Kd.R_slice HO316.out; subst eo58) | ((with_reducible refine gate_callee (f := 16) rfl ?_); refine goesL_ (some 14) rfl rfl Try.func16 (by kernel_rfl) rfl #[.agg #[.int .i64 t310, .slice Ao57 t311.length co57, .slice Ao58 t314.length co58, .int .i64 t317]] rfl zq8 ?_; (with_reducible refine (spec_StoreOk.calls k t310 _ _ t311 _ _ t314 t317 t318 _ ?side1 ?side2 ?side3 ?side4 A8.out).mono ?_); (case side1 => exact zq28); (case side2 => exact zq29); (case side3 => exact zq30); (case side4 => exact zq31); rintro e w59 ⟨rfl, hb⟩; refine ⟨_, rfl, ?_⟩; have n0_ := Aside0.mk (Kd.R_below zq32 hb); have n1_ := Aside0.mk (Kd.R_below zq33 hb); have n2_ := Aside0.mk (blk_below (g := gb308) (o := .cells #[.int .i64 a0_0, .slice A0_1 l0_1.length c0_1, .slice A0_2 l0_2.length c0_2, .int .i64 a0_3] 25 (0, 0)) zq26 hb); have n3_ := Aside0.mk (below_step zq27 hb); clear HO313; clear HO316; clear BK308; clear HB; have HO313 := n0_; have HO316 := n1_; have BK308 := n2_; have HB := n3_; clear n0_ n1_ n2_ n3_; (try clear hb); (try clear hb2); (try clear hk); (try clear hi); have hcz60_0 : w59.cell? ⟨gb308, 0, none⟩ = some (.int .i64 a0_0) := (blk_cell BK308.out 0).trans rfl; have hcz60_1 : w59.cell? ⟨gb308, 1, none⟩ = some (.slice A0_1 l0_1.length c0_1) := (blk_cell BK308.out 1).trans rfl; have hcz60_2 : w59.cell? ⟨gb308, 2, none⟩ = some (.slice A0_2 l0_2.length c0_2) := (blk_cell BK308.out 2).trans rfl; have hcz60_3 : w59.cell? ⟨gb308, 3, none⟩ = some (.int .i64 a0_3) := (blk_cell BK308.out 3).trans rfl; have hfz60_0 := blk_frozen BK308.out 0; have hfz60_1 := blk_frozen BK308.out 1; have hfz60_2 := blk_frozen BK308.out 2; have hfz60_3 := blk_frozen BK308.out 3) | ((with_reducible refine gate_callee (f := 17) rfl ?_); refine goesL_ (some 16) rfl rfl Try.func17 (by kernel_rfl) rfl #[.agg #[.int .i64 a0_0, .slice A0_1 l0_1.length c0_1, .slice A0_2 l0_2.length c0_2, .int .i64 a0_3]] rfl zq8 ?_; (with_reducible refine (laws_toStore.calls k a0_0 _ _ l0_1 _ _ l0_2 a0_3 t319 t320 t323 t326 _ ?side1 ?side2 ?side3 ?side4 A9.out).mono ?_); (case side1 => exact zq11); (case side2 => exact zq12); (case side3 => exact zq15); (case side4 => exact zq16); rintro e w61 ⟨v321, v324, rfl, ho0, ho1, hb⟩; refine ⟨_, rfl, ?_⟩; have n0_ := Aside0.mk (Kd.R_elder' zq32 (Kd.R_base ho0) hb); have n1_ := Aside0.mk (Kd.R_elder' zq33 (Kd.R_base ho1) hb); have n2_ := Aside0.mk (Kd.R_lower (Kd.R_new' ho0 (Kd.R_lt zq32)) (below_size zq27)); have n3_ := Aside0.mk (Kd.R_lower (Kd.R_new' ho1 (Kd.R_lt zq33)) (below_size zq27)); have n4_ := Aside0.mk (blk_below (g := gb308) (o := .cells #[.int .i64 a0_0, .slice A0_1 l0_1.length c0_1, .slice A0_2 l0_2.length c0_2, .int .i64 a0_3] 25 (0, 0)) zq26 hb); have n5_ := Aside0.mk (below_step zq27 hb); clear HO313; clear HO316; clear BK308; clear HB; have HO313 := n0_; have HO316 := n1_; have HO322 := n2_; have HO325 := n3_; have BK308 := n4_; have HB := n5_; clear n0_ n1_ n2_ n3_ n4_ n5_; (try clear hb); (try clear hb2); (try clear hk); (try clear hi); (try clear ho0); (try clear ho1)) | ((with_reducible refine gate_dst (N := 5) rfl ?_); refine box_event ?hg (N := 5) ?hd (cs := #[.int .i64 0, .slice none 0 0, .slice none 0 0, .int .i64 0]) (t := 31) ?hr ?_; (case hd => rfl); (case hg => rfl); (case hr => exact zq2); intro gb327 hg w62 hbox hb; have n0_ := Aside0.mk (Kd.R_below zq32 hb); have n1_ := Aside0.mk (Kd.R_below zq33 hb); have n2_ := Aside0.mk (Kd.R_below zq34 hb); have n3_ := Aside0.mk (Kd.R_below zq35 hb); have n4_ := Aside0.mk (blk_below (g := gb308) (o := .cells #[.int .i64 a0_0, .slice A0_1 l0_1.length c0_1, .slice A0_2 l0_2.length c0_2, .int .i64 a0_3] 25 (0, 0)) zq26 hb); have n5_ := Aside0.mk (below_step zq27 hb); have n6_ := Aside0.mk (hbox); have n7_ := Aside0.mk ((zq131 : w.heap.size ≤ gb327)); have n8_ := Aside0.mk ((zq131 : w.heap.size ≤ gb327)); have n9_ := Aside0.mk ((zq132 : gb308 ≠ gb327)); have n10_ := Aside0.mk ((zq133 : gb327 ≠ gb308)); clear HO313; clear HO316; clear HO322; clear HO325; clear BK308; clear HB; have HO313 := n0_; have HO316 := n1_; have HO322 := n2_; have HO325 := n3_; have BK308 := n4_; have HB := n5_; have BK327 := n6_; have GW327 := n7_; have GE327 := n8_; have NB308_327 := n9_; have NB327_308 := n10_; clear n0_ n1_ n2_ n3_ n4_ n5_ n6_ n7_ n8_ n9_ n10_; clear hb hbox hg; have hnb63 := NB327_308.out; have hnc63 := NB308_327.out; have hcz64_0 : w62.cell? ⟨gb327, 0, none⟩ = some (.int .i64 0) := (blk_cell BK327.out 0).trans rfl; have hcz64_1 : w62.cell? ⟨gb327, 1, none⟩ = some (.slice none 0 0) := (blk_cell BK327.out 1).trans rfl; have hcz64_2 : w62.cell? ⟨gb327, 2, none⟩ = some (.slice none 0 0) := (blk_cell BK327.out 2).trans rfl; have hcz64_3 : w62.cell? ⟨gb327, 3, none⟩ = some (.int .i64 0) := (blk_cell BK327.out 3).trans rfl; have hfz64_0 := blk_frozen BK327.out 0; have hfz64_1 := blk_frozen BK327.out 1; have hfz64_2 := blk_frozen BK327.out 2; have hfz64_3 := blk_frozen BK327.out 3; obtain ⟨Ao65, co65, eo65⟩ := Kd.R_slice HO322.out; subst eo65; obtain ⟨Ao66, co66, eo66⟩ := Kd.R_slice HO325.out; subst eo66) | ((with_reducible refine gate_callee (f := 18) rfl ?_); refine goesL_ (some 18) rfl rfl Try.func18 (by kernel_rfl) rfl #[.agg #[.int .i64 t319, .slice Ao65 t320.length co65, .slice Ao66 t323.length co66, .int .i64 t326]] rfl zq8 ?_; (with_reducible refine (impl_StoreOk.calls k t319 _ _ t320 _ _ t323 t326 t328 _ ?side1 ?side2 ?side3 ?side4 A10.out).mono ?_); (case side1 => refine (Kd.R_reads' (e := 66) (base := w.heap.size) (ok := fun k_ => (True ∧ some k_ ≠ (.slice Ao57 t311.length co57 : Value).ownBlock)) (n := t320.length) (c := co65) ?_).2.2; exact zq51); (case side2 => exact zq37); (case side3 => refine (Kd.R_reads' (e := 68) (base := w.heap.size) (ok := fun k_ => (True ∧ some k_ ≠ (.slice Ao58 t314.length co58 : Value).ownBlock)) (n := t323.length) (c := co66) ?_).2.2; exact zq52); (case side4 => exact zq39); rintro e w67 ⟨rfl, hb⟩; refine ⟨_, rfl, ?_⟩; have n0_ := Aside0.mk (Kd.R_below (by (with_reducible repeat (first | apply Kd.R_alloc | apply Kd.R_drewN | apply Kd.R_drew)); exact (Kd.R_mono (Kd.R_far (p := ⟨gb327, 3, none⟩) (Kd.R_far (p := ⟨gb327, 2, none⟩) (Kd.R_far (p := ⟨gb327, 1, none⟩) (Kd.R_far (p := ⟨gb327, 0, none⟩) (Kd.R_types HO313.out BK327.out (by decide)) (fun _ hk => hk.2) (.int .i64 t319)) (fun _ hk => hk.2) (.slice Ao65 t320.length co65)) (fun _ hk => hk.2) (.slice Ao66 t323.length co66)) (fun _ hk => hk.2) (.int .i64 t326)) (fun _ h_ => h_.1))) hb); have n1_ := Aside0.mk (Kd.R_below (by (with_reducible repeat (first | apply Kd.R_alloc | apply Kd.R_drewN | apply Kd.R_drew)); exact (Kd.R_mono (Kd.R_far (p := ⟨gb327, 3, none⟩) (Kd.R_far (p := ⟨gb327, 2, none⟩) (Kd.R_far (p := ⟨gb327, 1, none⟩) (Kd.R_far (p := ⟨gb327, 0, none⟩) (Kd.R_types HO316.out BK327.out (by decide)) (fun _ hk => hk.2) (.int .i64 t319)) (fun _ hk => hk.2) (.slice Ao65 t320.length co65)) (fun _ hk => hk.2) (.slice Ao66 t323.length co66)) (fun _ hk => hk.2) (.int .i64 t326)) (fun _ h_ => h_.1))) hb); have n2_ := Aside0.mk (Kd.R_below zq51 hb); have n3_ := Aside0.mk (Kd.R_below zq52 hb); have n4_ := Aside0.mk (blk_below (g := gb308) (o := .cells #[.int .i64 a0_0, .slice A0_1 l0_1.length c0_1, .slice A0_2 l0_2.length c0_2, .int .i64 a0_3] 25 (0, 0)) zq40 hb); have n5_ := Aside0.mk (blk_below (g := gb327) (o := .cells #[.int .i64 t319, .slice Ao65 t320.length co65, .slice Ao66 t323.length co66, .int .i64 t326] 31 (0, 0)) (by (with_reducible repeat (first | refine blk_drewN ?_ _ | refine blk_drew ?_ | refine blk_alloc ?_ _)); refine blk_put (cs := #[.int .i64 t319, .slice Ao65 t320.length co65, .slice Ao66 t323.length co66, .int .i64 0]) ?_ 3 _ rfl; (with_reducible repeat (first | refine blk_drewN ?_ _ | refine blk_drew ?_ | refine blk_alloc ?_ _)); refine blk_put (cs := #[.int .i64 t319, .slice Ao65 t320.length co65, .slice none 0 0, .int .i64 0]) ?_ 2 _ rfl; (with_reducible repeat (first | refine blk_drewN ?_ _ | refine blk_drew ?_ | refine blk_alloc ?_ _)); refine blk_put (cs := #[.int .i64 t319, .slice none 0 0, .slice none 0 0, .int .i64 0]) ?_ 1 _ rfl; (with_reducible repeat (first | refine blk_drewN ?_ _ | refine blk_drew ?_ | refine blk_alloc ?_ _)); refine blk_put (cs := #[.int .i64 0, .slice none 0 0, .slice none 0 0, .int .i64 0]) ?_ 0 _ rfl; (with_reducible repeat (first | refine blk_drewN ?_ _ | refine blk_drew ?_ | refine blk_alloc ?_ _)); exact BK327.out) hb); have n6_ := Aside0.mk (below_step zq41 hb); clear HO313; clear HO316; clear HO322; clear HO325; clear BK308; clear BK327; clear HB; have HO313 := n0_; have HO316 := n1_; have HO322 := n2_; have HO325 := n3_; have BK308 := n4_; have BK327 := n5_; have HB := n6_; clear n0_ n1_ n2_ n3_ n4_ n5_ n6_; (try clear hb); (try clear hb2); (try clear hk); (try clear hi)))
    have n0_ := Aside0.mk (Kd.R_drew HO313.out)
    have n1_ := Aside0.mk (Kd.R_drew HO316.out)
    have n2_ := Aside0.mk (Kd.R_drew HO322.out)
    have n3_ := Aside0.mk (Kd.R_drew HO325.out)
    have n4_ := Aside0.mk (blk_drew BK308.out)
    have n5_ := Aside0.mk (blk_drew BK327.out)
    have n6_ := Aside0.mk (below_drew1 HB.out)
    clear HO313
    clear HO316
    clear HO322
    clear HO325
    clear BK308
    clear BK327
    clear HB
    have HO313 := n0_
    have HO316 := n1_
    have HO322 := n2_
    have HO325 := n3_
    have BK308 := n4_
    have BK327 := n5_
    have HB := n6_
    clear n0_ n1_ n2_ n3_ n4_ n5_ n6_
    refine start_ (n := 5) (S := fun w' => w'.cell? ⟨gb327, 0, none⟩ = some (.int .i64 t319) ∧ w'.cell? ⟨gb327, 1, none⟩ = some (.slice Ao65 t320.length co65) ∧ w'.cell? ⟨gb327, 2, none⟩ = some (.slice Ao66 t323.length co66) ∧ w'.cell? ⟨gb327, 3, none⟩ = some (.int .i64 t326) ∧ w'.cell? ⟨gb308, 0, none⟩ = some (.int .i64 a0_0) ∧ w'.cell? ⟨gb308, 1, none⟩ = some (.slice A0_1 l0_1.length c0_1) ∧ w'.cell? ⟨gb308, 2, none⟩ = some (.slice A0_2 l0_2.length c0_2) ∧ w'.cell? ⟨gb308, 3, none⟩ = some (.int .i64 a0_3)) (ds := []) #[false, false, false, false, false] (by kernel_rfl) rfl rfl ⟨(blk_cell BK327.out 0).trans rfl, (blk_cell BK327.out 1).trans rfl, (blk_cell BK327.out 2).trans rfl, (blk_cell BK327.out 3).trans rfl, (blk_cell BK308.out 0).trans rfl, (blk_cell BK308.out 1).trans rfl, (blk_cell BK308.out 2).trans rfl, (blk_cell BK308.out 3).trans rfl⟩ (fun hHeld => ?_)
    generalize w67.drew = w68 at HO313 HO316 HO322 HO325 BK308 BK327 HB hHeld ⊢
    refine take_ (i := 0) (N := some 22) (v := ?_) (a' := ?_) #[true, false, false, false, false] rfl rfl (by kernel_rfl) (fun _ _ _ h => h) (Or.inl ⟨by rfl, ?_⟩) hHeld ?_ ?_
    rotate_left
    exact zq167
    rotate_left
    exact zq163
    refine take_ (i := 1) (N := some 23) (v := ?_) (a' := ?_) #[true, true, false, false, false] rfl rfl (by kernel_rfl) (fun _ _ _ h => h) (Or.inl ⟨by rfl, ?_⟩) hHeld ?_ ?_
    rotate_left
    exact zq167
    rotate_left
    exact zq163
    refine one_ (i := 2) (N := some 24) #[true, true, true, false, false] rfl rfl (by kernel_rfl) (by decide) (fun K hK => ?_)
    refine goes_ Try.func17 (by kernel_rfl) rfl #[.agg #[.int .i64 a0_0, .slice A0_1 l0_1.length c0_1, .slice A0_2 l0_2.length c0_2, .int .i64 a0_3]] (by rfl) rfl rfl zq8 ?_
    with_reducible refine (laws_toStore.calls k a0_0 _ _ l0_1 _ _ l0_2 a0_3 t329 t330 t333 t336 _ ?side1 ?side2 ?side3 ?side4 A28.out).mono ?_
    (case side1 => exact zq11)
    (case side2 => exact zq12)
    (case side3 => exact zq15)
    (case side4 => exact zq16)
    rintro e w69 ⟨v331, v334, rfl, ho0, ho1, hb⟩
    refine ⟨_, rfl, ?_⟩
    have n0_ := Aside0.mk (Kd.R_elder' zq32 (Kd.R_base ho0) hb)
    have n1_ := Aside0.mk (Kd.R_elder' zq33 (Kd.R_base ho1) hb)
    have n2_ := Aside0.mk (Kd.R_elder' zq34 (Kd.R_base ho0) hb)
    have n3_ := Aside0.mk (Kd.R_elder' zq35 (Kd.R_base ho1) hb)
    have n4_ := Aside0.mk (Kd.R_lower (Kd.R_new' (Kd.R_new' ho0 (Kd.R_lt zq32)) (Kd.R_lt zq34)) (below_size zq41))
    have n5_ := Aside0.mk (Kd.R_lower (Kd.R_new' (Kd.R_new' ho1 (Kd.R_lt zq33)) (Kd.R_lt zq35)) (below_size zq41))
    have n6_ := Aside0.mk (blk_below (g := gb308) (o := .cells #[.int .i64 a0_0, .slice A0_1 l0_1.length c0_1, .slice A0_2 l0_2.length c0_2, .int .i64 a0_3] 25 (0, 0)) zq26 hb)
    have n7_ := Aside0.mk (blk_below (g := gb327) (o := .cells #[.int .i64 t319, .slice Ao65 t320.length co65, .slice Ao66 t323.length co66, .int .i64 t326] 31 (0, 0)) zq44 hb)
    have n8_ := Aside0.mk (below_step zq41 hb)
    clear HO313
    clear HO316
    clear HO322
    clear HO325
    clear BK308
    clear BK327
    clear HB
    have HO313 := n0_
    have HO316 := n1_
    have HO322 := n2_
    have HO325 := n3_
    have HO332 := n4_
    have HO335 := n5_
    have BK308 := n6_
    have BK327 := n7_
    have HB := n8_
    clear n0_ n1_ n2_ n3_ n4_ n5_ n6_ n7_ n8_
    (try clear hb)
    (try clear hb2)
    (try clear hk)
    (try clear hi)
    (try clear ho0)
    (try clear ho1)
    obtain ⟨Ao70, co70, eo70⟩ := Kd.R_slice HO332.out
    (first | subst eo70 | (injection eo70 with f1_ f2_ f3_; have f4_ := f1_.symm; have f5_ := f3_.symm; clear f1_ f2_ f3_; subst f4_; subst f5_))
    obtain ⟨Ao71, co71, eo71⟩ := Kd.R_slice HO335.out
    (first | subst eo71 | (injection eo71 with f1_ f2_ f3_; have f4_ := f1_.symm; have f5_ := f3_.symm; clear f1_ f2_ f3_; subst f4_; subst f5_))
    refine hK.out _ _ ⟨(blk_cell BK327.out 0).trans rfl, (blk_cell BK327.out 1).trans rfl, (blk_cell BK327.out 2).trans rfl, (blk_cell BK327.out 3).trans rfl, (blk_cell BK308.out 0).trans rfl, (blk_cell BK308.out 1).trans rfl, (blk_cell BK308.out 2).trans rfl, (blk_cell BK308.out 3).trans rfl⟩ (fun hHeld => ?_)
    clear hK K
    refine norm_ (a' := ?_) ?_ ?_
    rotate_left
    ·
     show Act.put _ (some 24) _ = _
     simp only [Act.put, List.setIfInBounds_toArray, List.set_cons_zero, List.set_cons_succ, i64_w, i32_w]
     rfl
    refine one_ (i := 3) (N := some 25) #[true, true, true, true, false] rfl rfl (by kernel_rfl) (by decide) (fun K hK => ?_)
    refine goes_ Try.func19 (by kernel_rfl) rfl #[.agg #[.int .i64 t319, .slice Ao65 t320.length co65, .slice Ao66 t323.length co66, .int .i64 t326], .agg #[.int .i64 t329, .slice Ao70 t330.length co70, .slice Ao71 t333.length co71, .int .i64 t336]] (by rfl) rfl rfl zq8 ?_
    with_reducible refine (laws_eqStore.calls k t319 _ _ t320 _ _ t323 t326 t329 _ _ t330 _ _ t333 t336 false _ ?side1 ?side2 ?side3 ?side4 ?side5 ?side6 ?side7 ?side8 A29.out).mono ?_
    (case side1 => exact zq45)
    (case side2 => exact zq37)
    (case side3 => exact zq46)
    (case side4 => exact zq39)
    (case side5 => exact zq47)
    (case side6 => exact (Kd.R_reads' HO332.out).2.1)
    (case side7 => exact zq48)
    (case side8 => exact (Kd.R_reads' HO335.out).2.1)
    rintro e w72 ⟨rfl, hb⟩
    refine ⟨_, rfl, ?_⟩
    have n0_ := Aside0.mk (Kd.R_below zq32 hb)
    have n1_ := Aside0.mk (Kd.R_below zq33 hb)
    have n2_ := Aside0.mk (Kd.R_below zq34 hb)
    have n3_ := Aside0.mk (Kd.R_below zq35 hb)
    have n4_ := Aside0.mk (Kd.R_below zq49 hb)
    have n5_ := Aside0.mk (Kd.R_below zq50 hb)
    have n6_ := Aside0.mk (blk_below (g := gb308) (o := .cells #[.int .i64 a0_0, .slice A0_1 l0_1.length c0_1, .slice A0_2 l0_2.length c0_2, .int .i64 a0_3] 25 (0, 0)) zq26 hb)
    have n7_ := Aside0.mk (blk_below (g := gb327) (o := .cells #[.int .i64 t319, .slice Ao65 t320.length co65, .slice Ao66 t323.length co66, .int .i64 t326] 31 (0, 0)) zq44 hb)
    have n8_ := Aside0.mk (below_step zq41 hb)
    clear HO313
    clear HO316
    clear HO322
    clear HO325
    clear HO332
    clear HO335
    clear BK308
    clear BK327
    clear HB
    have HO313 := n0_
    have HO316 := n1_
    have HO322 := n2_
    have HO325 := n3_
    have HO332 := n4_
    have HO335 := n5_
    have BK308 := n6_
    have BK327 := n7_
    have HB := n8_
    clear n0_ n1_ n2_ n3_ n4_ n5_ n6_ n7_ n8_
    (try clear hb)
    (try clear hb2)
    (try clear hk)
    (try clear hi)
    refine hK.out _ _ ⟨(blk_cell BK327.out 0).trans rfl, (blk_cell BK327.out 1).trans rfl, (blk_cell BK327.out 2).trans rfl, (blk_cell BK327.out 3).trans rfl, (blk_cell BK308.out 0).trans rfl, (blk_cell BK308.out 1).trans rfl, (blk_cell BK308.out 2).trans rfl, (blk_cell BK308.out 3).trans rfl⟩ (fun hHeld => ?_)
    clear hK K
    refine norm_ (a' := ?_) ?_ ?_
    rotate_left
    exact zq165
    refine pure_ (i := 4) (N := some 26) (v := ?_) (a' := ?_) #[true, true, true, true, true] rfl rfl (by kernel_rfl) (fun _ _ _ h => h) (Or.inl ⟨by rfl, ?_⟩) ?_ ?_
    rotate_left
    exact zq162
    rotate_left
    exact zq163
    refine done_ (by kernel_rfl) ?_
    try go_wp2
    go_ret
    exact ⟨zq4, zq41⟩

/-- THE ONE PURE STATEMENT of laws_FnExactStoreOk. -/
def laws_FnExactStoreOk.Pure : Prop := ∀ (a0_0 : Int) (l0_1 : List (S95)) (l0_2 : List (S97)) (a0_3 : Int), (Lit.int .i64 a0_0).wf = true → (l0_1.length ≤ maxLen ∧ ∀ y0_ ∈ l0_1, (y0_.f0.size ≤ maxLen ∧ y0_.f1.size ≤ maxLen)) → (l0_2.length ≤ maxLen ∧ ∀ y0_ ∈ l0_2, ((Lit.int .i64 y0_.f0).wf = true ∧ y0_.f1.size ≤ maxLen)) → (Lit.int .i64 a0_3).wf = true → ∃ k, laws_FnExactStoreOk.f k a0_0 l0_1 l0_2 a0_3 = some true

end Go.Proofs.Ytacaeebjanglgaa.QFnExactStoreOk
