/- Written by wip/myprint.py of this repo (the kit's print, with additions of this session). -/
import Derived.Test.YtacaeebjanglgaaQFnExactDigestsOfx0
import Derived.Test.YtacaeebjanglgaaQFnExactDigestsOfx1
import Derived.Test.YtacaeebjanglgaaQFnExactDigestsOfx3
import Derived.Test.YtacaeebjanglgaaQFnExactDigestsOfx7
import Derived.Test.YtacaeebjanglgaaQFnExactDigestsOfx11
import Derived.Test.YtacaeebjanglgaaQFnExactDigestsOfx12
set_option maxRecDepth 100000
namespace Go.Proofs.Ytacaeebjanglgaa.QFnExactDigestsOf
open Go.RowKit Go.Proofs.YtacaeebjanglgaaW.PrintWords Go.Proofs.YtacaeebjanglgaaW.PrintLast Go.Proofs.YtacaeebjanglgaaW.PrintMore
attribute [local go_sem] max2_int min2_int max_two min_two max_three min_three max_four min_four   -- for this text's walks alone
set_option linter.unusedVariables false
set_option linter.unusedSimpArgs false

/-! ### laws_FnExactDigestsOf: function 6 -/
def laws_FnExactDigestsOf.j0 : Nat → List ByteArray → List ByteArray → Bool → Int → List (S95) → List (S97) → Int → Option (Bool)
 | 0, _, _, _, _, _, _, _ => none
 | k + 1, x4, x6, x42, x347000, x347001, x347002, x347003 => if x42 = true then (some false) else ((laws_markStringS.f k x6 1).bind fun bt385 => ((laws_heldStringS.f k bt385.2 1).bind fun t387 => (if t387 < 0 then (some false) else (if t387 = bt385.1 then ((laws_toStore.f k x347000 x347001 x347002 x347003).bind fun bt388 => ((impl_DigestsOf.f k bt388.1 bt388.2.1 bt388.2.2.1 bt388.2.2.2).bind fun t396 => ((laws_eqStringS.f k t396 x4).bind fun t399 => (if t399 = true then ((laws_heldStringS.f k bt385.2 1).bind fun t400 => (if t400 < 0 then (some false) else (if t400 = bt385.1 then (some true) else (some false)))) else (some false))))) else (some false)))))
def laws_FnExactDigestsOf.f (k : Nat) (a0_0 : Int) (l0_1 : List (S95)) (l0_2 : List (S97)) (a0_3 : Int) : Option (Bool) := (laws_szStore.f k a0_0 l0_1 l0_2 a0_3 1048576).bind fun t347 => (if t347 < 0 then (some true) else ((laws_toStore.f k a0_0 l0_1 l0_2 a0_3).bind fun bt348 => ((spec_DigestsOf.f k bt348.1 bt348.2.1 bt348.2.2.1 bt348.2.2.2).bind fun t356 => ((laws_toStore.f k a0_0 l0_1 l0_2 a0_3).bind fun bt359 => ((impl_DigestsOf.f k bt359.1 bt359.2.1 bt359.2.2.1 bt359.2.2.2).bind fun t368 => ((laws_eqStringS.f k t368 t356).bind fun t371 => (if t371 = true then ((laws_toStore.f k a0_0 l0_1 l0_2 a0_3).bind fun bt372 => ((laws_eqStore.f k bt359.1 bt359.2.1 bt359.2.2.1 bt359.2.2.2 bt372.1 bt372.2.1 bt372.2.2.1 bt372.2.2.2).bind fun t380 => (if t380 = true then ((laws_markStore.f k bt359.1 bt359.2.1 bt359.2.2.1 bt359.2.2.2 1).bind fun bt381 => (if bt381.1 < 0 then (laws_FnExactDigestsOf.j0 k t356 t368 true a0_0 l0_1 l0_2 a0_3) else ((laws_eqStringS.f k t368 t356).bind fun t384 => (laws_FnExactDigestsOf.j0 k t356 t368 (!t384) a0_0 l0_1 l0_2 a0_3)))) else (some false)))) else (some false))))))))
theorem laws_FnExactDigestsOf.mono_l : ∀ k, (∀ y0 y1 y2 y3 y4 y5 y6, LeO (laws_FnExactDigestsOf.j0 k y0 y1 y2 y3 y4 y5 y6) (laws_FnExactDigestsOf.j0 (k + 1) y0 y1 y2 y3 y4 y5 y6))
 | 0 => fun _ _ _ _ _ _ _ r h => by simp [laws_FnExactDigestsOf.j0] at h
 | k + 1 => by
  have ih0 := laws_FnExactDigestsOf.mono_l k
  ·
   intro y0 y1 y2 y3 y4 y5 y6
   unfold laws_FnExactDigestsOf.j0
   repeat' first
   | (with_reducible exact ih0 _ _ _ _ _ _ _)
   | (with_reducible exact impl_DigestsOf.mono _ _ _ _ _)
   | (with_reducible exact laws_eqStore.mono _ _ _ _ _ _ _ _ _)
   | (with_reducible exact laws_eqStringS.mono _ _ _)
   | (with_reducible exact laws_heldStringS.mono _ _ _)
   | (with_reducible exact laws_markStore.mono _ _ _ _ _ _)
   | (with_reducible exact laws_markStringS.mono _ _ _)
   | (with_reducible exact laws_szStore.mono _ _ _ _ _ _)
   | (with_reducible exact laws_toStore.mono _ _ _ _ _)
   | (with_reducible exact spec_DigestsOf.mono _ _ _ _ _)
   | (with_reducible exact LeO.refl _)
   | (with_reducible exact LeO.none _)
   | (with_reducible refine LeO.ite ?_ ?_)
   | (with_reducible refine LeO.bind ?_ (fun _ => ?_))
   | exact ih0 _ _ _ _ _ _ _
   | exact impl_DigestsOf.mono _ _ _ _ _
   | exact laws_eqStore.mono _ _ _ _ _ _ _ _ _
   | exact laws_eqStringS.mono _ _ _
   | exact laws_heldStringS.mono _ _ _
   | exact laws_markStore.mono _ _ _ _ _ _
   | exact laws_markStringS.mono _ _ _
   | exact laws_szStore.mono _ _ _ _ _ _
   | exact laws_toStore.mono _ _ _ _ _
   | exact spec_DigestsOf.mono _ _ _ _ _
   | exact LeO.none _
   | refine LeO.ite ?_ ?_
   | refine LeO.bind ?_ (fun _ => ?_)
theorem laws_FnExactDigestsOf.mono : ∀ a0 a1 a2 a3 k, LeO (laws_FnExactDigestsOf.f k a0 a1 a2 a3) (laws_FnExactDigestsOf.f (k + 1) a0 a1 a2 a3) := by
 intro a0 a1 a2 a3 k
 have ih0 := laws_FnExactDigestsOf.mono_l k
 unfold laws_FnExactDigestsOf.f
 repeat' first
   | (with_reducible exact ih0 _ _ _ _ _ _ _)
   | (with_reducible exact impl_DigestsOf.mono _ _ _ _ _)
   | (with_reducible exact laws_eqStore.mono _ _ _ _ _ _ _ _ _)
   | (with_reducible exact laws_eqStringS.mono _ _ _)
   | (with_reducible exact laws_heldStringS.mono _ _ _)
   | (with_reducible exact laws_markStore.mono _ _ _ _ _ _)
   | (with_reducible exact laws_markStringS.mono _ _ _)
   | (with_reducible exact laws_szStore.mono _ _ _ _ _ _)
   | (with_reducible exact laws_toStore.mono _ _ _ _ _)
   | (with_reducible exact spec_DigestsOf.mono _ _ _ _ _)
   | (with_reducible exact LeO.refl _)
   | (with_reducible exact LeO.none _)
   | (with_reducible refine LeO.ite ?_ ?_)
   | (with_reducible refine LeO.bind ?_ (fun _ => ?_))
   | exact ih0 _ _ _ _ _ _ _
   | exact impl_DigestsOf.mono _ _ _ _ _
   | exact laws_eqStore.mono _ _ _ _ _ _ _ _ _
   | exact laws_eqStringS.mono _ _ _
   | exact laws_heldStringS.mono _ _ _
   | exact laws_markStore.mono _ _ _ _ _ _
   | exact laws_markStringS.mono _ _ _
   | exact laws_szStore.mono _ _ _ _ _ _
   | exact laws_toStore.mono _ _ _ _ _
   | exact spec_DigestsOf.mono _ _ _ _ _
   | exact LeO.none _
   | refine LeO.ite ?_ ?_
   | refine LeO.bind ?_ (fun _ => ?_)
set_option maxHeartbeats 8000000 in
set_option maxRecDepth 100000 in
theorem laws_FnExactDigestsOf.calls (k : Nat) (a0_0 : Int) (A0_1 : Option Addr) (c0_1 : Nat) (l0_1 : List (S95)) (A0_2 : Option Addr) (c0_2 : Nat) (l0_2 : List (S97)) (a0_3 : Int) (r : Bool) (w : World) (hr0_1 : Kd.C k95 w A0_1 l0_1.length l0_1) (hc0_1 : l0_1.length ≤ c0_1) (hr0_2 : Kd.C k97 w A0_2 l0_2.length l0_2) (hc0_2 : l0_2.length ≤ c0_2) (h : laws_FnExactDigestsOf.f k a0_0 l0_1 l0_2 a0_3 = some r) :
  Calls Try.prog 6 #[.agg #[.int .i64 a0_0, .slice A0_1 l0_1.length c0_1, .slice A0_2 l0_2.length c0_2, .int .i64 a0_3]] w fun e w' => e = .returned (.bool r) ∧ Below w.heap.size w w' := by
 have hu25 := Try.underlying25
 have hu31 := Try.underlying31
 have HR0_1 := Aside0.mk hr0_1
 have HC0_1 := Aside0.mk hc0_1
 clear hr0_1 hc0_1
 have HR0_2 := Aside0.mk hr0_2
 have HC0_2 := Aside0.mk hc0_2
 clear hr0_2 hc0_2
 have HB := Aside0.mk (Below.refl w.heap.size w)
 have H : ((laws_szStore.f k a0_0 l0_1 l0_2 a0_3 1048576).bind fun t347 => (if t347 < 0 then (some true) else ((laws_toStore.f k a0_0 l0_1 l0_2 a0_3).bind fun bt348 => ((spec_DigestsOf.f k bt348.1 bt348.2.1 bt348.2.2.1 bt348.2.2.2).bind fun t356 => ((laws_toStore.f k a0_0 l0_1 l0_2 a0_3).bind fun bt359 => ((impl_DigestsOf.f k bt359.1 bt359.2.1 bt359.2.2.1 bt359.2.2.2).bind fun t368 => ((laws_eqStringS.f k t368 t356).bind fun t371 => (if t371 = true then ((laws_toStore.f k a0_0 l0_1 l0_2 a0_3).bind fun bt372 => ((laws_eqStore.f k bt359.1 bt359.2.1 bt359.2.2.1 bt359.2.2.2 bt372.1 bt372.2.1 bt372.2.2.1 bt372.2.2.2).bind fun t380 => (if t380 = true then ((laws_markStore.f k bt359.1 bt359.2.1 bt359.2.2.1 bt359.2.2.2 1).bind fun bt381 => (if bt381.1 < 0 then (laws_FnExactDigestsOf.j0 k t356 t368 true a0_0 l0_1 l0_2 a0_3) else ((laws_eqStringS.f k t368 t356).bind fun t384 => (laws_FnExactDigestsOf.j0 k t356 t368 (!t384) a0_0 l0_1 l0_2 a0_3)))) else (some false)))) else (some false))))))))) = some r := h
 clear h
 replace H := Option.bind_eq_some_iff.mp H
 obtain ⟨t347, A20, H⟩ := H
 replace H : (if t347 < 0 then (some true) else ((laws_toStore.f k a0_0 l0_1 l0_2 a0_3).bind fun bt348 => ((spec_DigestsOf.f k bt348.1 bt348.2.1 bt348.2.2.1 bt348.2.2.2).bind fun t356 => ((laws_toStore.f k a0_0 l0_1 l0_2 a0_3).bind fun bt359 => ((impl_DigestsOf.f k bt359.1 bt359.2.1 bt359.2.2.1 bt359.2.2.2).bind fun t368 => ((laws_eqStringS.f k t368 t356).bind fun t371 => (if t371 = true then ((laws_toStore.f k a0_0 l0_1 l0_2 a0_3).bind fun bt372 => ((laws_eqStore.f k bt359.1 bt359.2.1 bt359.2.2.1 bt359.2.2.2 bt372.1 bt372.2.1 bt372.2.2.1 bt372.2.2.2).bind fun t380 => (if t380 = true then ((laws_markStore.f k bt359.1 bt359.2.1 bt359.2.2.1 bt359.2.2.2 1).bind fun bt381 => (if bt381.1 < 0 then (laws_FnExactDigestsOf.j0 k t356 t368 true a0_0 l0_1 l0_2 a0_3) else ((laws_eqStringS.f k t368 t356).bind fun t384 => (laws_FnExactDigestsOf.j0 k t356 t368 (!t384) a0_0 l0_1 l0_2 a0_3)))) else (some false)))) else (some false)))))))) = some r := H
 have A2 := Aside0.mk A20
 clear A20
 by_cases c3 : t347 < 0
 ·
  rw [if_pos c3] at H
  have c3b0 : decide (t347 < 0) = true := decide_eq_true c3
  clear c3
  obtain rfl := Option.some.inj H
  go_enter Try.func6, Try.ntmps6
  go_wp2_with (first | ((with_reducible refine gate_dst (N := 1) rfl ?_); refine box_event ?hg (N := 1) ?hd (cs := #[.int .i64 a0_0, .slice A0_1 l0_1.length c0_1, .slice A0_2 l0_2.length c0_2, .int .i64 a0_3]) (t := 25) ?hr ?_; (case hd => rfl); (case hg => rfl); (case hr => exact zq2); intro gb346 hg w4 hbox hb; have n0_ := Aside0.mk (below_step zq3 hb); have n1_ := Aside0.mk (hbox); have n2_ := Aside0.mk ((zq179 : w.heap.size ≤ gb346)); have n3_ := Aside0.mk ((zq179 : w.heap.size ≤ gb346)); clear HB; have HB := n0_; have BK346 := n1_; have GW346 := n2_; have GE346 := n3_; clear n0_ n1_ n2_ n3_; clear hb hbox hg; have hcz5_0 : w4.cell? ⟨gb346, 0, none⟩ = some (.int .i64 a0_0) := (blk_cell BK346.out 0).trans rfl; have hcz5_1 : w4.cell? ⟨gb346, 1, none⟩ = some (.slice A0_1 l0_1.length c0_1) := (blk_cell BK346.out 1).trans rfl; have hcz5_2 : w4.cell? ⟨gb346, 2, none⟩ = some (.slice A0_2 l0_2.length c0_2) := (blk_cell BK346.out 2).trans rfl; have hcz5_3 : w4.cell? ⟨gb346, 3, none⟩ = some (.int .i64 a0_3) := (blk_cell BK346.out 3).trans rfl; have hfz5_0 := blk_frozen BK346.out 0; have hfz5_1 := blk_frozen BK346.out 1; have hfz5_2 := blk_frozen BK346.out 2; have hfz5_3 := blk_frozen BK346.out 3) | ((with_reducible refine gate_callee (f := 15) rfl ?_); refine goesL_ (some 13) rfl rfl Try.func15 (by kernel_rfl) rfl #[.agg #[.int .i64 a0_0, .slice A0_1 l0_1.length c0_1, .slice A0_2 l0_2.length c0_2, .int .i64 a0_3], .int .i64 1048576] rfl zq8 ?_; (with_reducible refine (laws_szStore.calls k a0_0 _ _ l0_1 _ _ l0_2 a0_3 1048576 t347 _ ?side1 ?side2 ?side3 ?side4 A2.out).mono ?_); (case side1 => exact zq11); (case side2 => exact zq12); (case side3 => exact zq15); (case side4 => exact zq16); rintro e w6 ⟨rfl, hb⟩; refine ⟨_, rfl, ?_⟩; have n0_ := Aside0.mk (blk_below (g := gb346) (o := .cells #[.int .i64 a0_0, .slice A0_1 l0_1.length c0_1, .slice A0_2 l0_2.length c0_2, .int .i64 a0_3] 25 (0, 0)) zq65 hb); have n1_ := Aside0.mk (below_step zq66 hb); clear BK346; clear HB; have BK346 := n0_; have HB := n1_; clear n0_ n1_; (try clear hb); (try clear hb2); (try clear hk); (try clear hi)))
  go_ret
  exact ⟨zq4, zq66⟩
 ·
  rw [if_neg c3] at H
  have c3b0 : decide (t347 < 0) = false := decide_eq_false c3
  clear c3
  replace H := Option.bind_eq_some_iff.mp H
  obtain ⟨⟨t348, t349, t352, t355⟩, A70, H⟩ := H
  replace H : ((spec_DigestsOf.f k t348 t349 t352 t355).bind fun t356 => ((laws_toStore.f k a0_0 l0_1 l0_2 a0_3).bind fun bt359 => ((impl_DigestsOf.f k bt359.1 bt359.2.1 bt359.2.2.1 bt359.2.2.2).bind fun t368 => ((laws_eqStringS.f k t368 t356).bind fun t371 => (if t371 = true then ((laws_toStore.f k a0_0 l0_1 l0_2 a0_3).bind fun bt372 => ((laws_eqStore.f k bt359.1 bt359.2.1 bt359.2.2.1 bt359.2.2.2 bt372.1 bt372.2.1 bt372.2.2.1 bt372.2.2.2).bind fun t380 => (if t380 = true then ((laws_markStore.f k bt359.1 bt359.2.1 bt359.2.2.1 bt359.2.2.2 1).bind fun bt381 => (if bt381.1 < 0 then (laws_FnExactDigestsOf.j0 k t356 t368 true a0_0 l0_1 l0_2 a0_3) else ((laws_eqStringS.f k t368 t356).bind fun t384 => (laws_FnExactDigestsOf.j0 k t356 t368 (!t384) a0_0 l0_1 l0_2 a0_3)))) else (some false)))) else (some false)))))) = some r := H
  have A7 := Aside0.mk A70
  clear A70
  replace H := Option.bind_eq_some_iff.mp H
  obtain ⟨t356, A80, H⟩ := H
  replace H : ((laws_toStore.f k a0_0 l0_1 l0_2 a0_3).bind fun bt359 => ((impl_DigestsOf.f k bt359.1 bt359.2.1 bt359.2.2.1 bt359.2.2.2).bind fun t368 => ((laws_eqStringS.f k t368 t356).bind fun t371 => (if t371 = true then ((laws_toStore.f k a0_0 l0_1 l0_2 a0_3).bind fun bt372 => ((laws_eqStore.f k bt359.1 bt359.2.1 bt359.2.2.1 bt359.2.2.2 bt372.1 bt372.2.1 bt372.2.2.1 bt372.2.2.2).bind fun t380 => (if t380 = true then ((laws_markStore.f k bt359.1 bt359.2.1 bt359.2.2.1 bt359.2.2.2 1).bind fun bt381 => (if bt381.1 < 0 then (laws_FnExactDigestsOf.j0 k t356 t368 true a0_0 l0_1 l0_2 a0_3) else ((laws_eqStringS.f k t368 t356).bind fun t384 => (laws_FnExactDigestsOf.j0 k t356 t368 (!t384) a0_0 l0_1 l0_2 a0_3)))) else (some false)))) else (some false))))) = some r := H
  have A8 := Aside0.mk A80
  clear A80
  replace H := Option.bind_eq_some_iff.mp H
  obtain ⟨⟨t359, t360, t363, t366⟩, A90, H⟩ := H
  replace H : ((impl_DigestsOf.f k t359 t360 t363 t366).bind fun t368 => ((laws_eqStringS.f k t368 t356).bind fun t371 => (if t371 = true then ((laws_toStore.f k a0_0 l0_1 l0_2 a0_3).bind fun bt372 => ((laws_eqStore.f k t359 t360 t363 t366 bt372.1 bt372.2.1 bt372.2.2.1 bt372.2.2.2).bind fun t380 => (if t380 = true then ((laws_markStore.f k t359 t360 t363 t366 1).bind fun bt381 => (if bt381.1 < 0 then (laws_FnExactDigestsOf.j0 k t356 t368 true a0_0 l0_1 l0_2 a0_3) else ((laws_eqStringS.f k t368 t356).bind fun t384 => (laws_FnExactDigestsOf.j0 k t356 t368 (!t384) a0_0 l0_1 l0_2 a0_3)))) else (some false)))) else (some false)))) = some r := H
  have A9 := Aside0.mk A90
  clear A90
  replace H := Option.bind_eq_some_iff.mp H
  obtain ⟨t368, A100, H⟩ := H
  replace H : ((laws_eqStringS.f k t368 t356).bind fun t371 => (if t371 = true then ((laws_toStore.f k a0_0 l0_1 l0_2 a0_3).bind fun bt372 => ((laws_eqStore.f k t359 t360 t363 t366 bt372.1 bt372.2.1 bt372.2.2.1 bt372.2.2.2).bind fun t380 => (if t380 = true then ((laws_markStore.f k t359 t360 t363 t366 1).bind fun bt381 => (if bt381.1 < 0 then (laws_FnExactDigestsOf.j0 k t356 t368 true a0_0 l0_1 l0_2 a0_3) else ((laws_eqStringS.f k t368 t356).bind fun t384 => (laws_FnExactDigestsOf.j0 k t356 t368 (!t384) a0_0 l0_1 l0_2 a0_3)))) else (some false)))) else (some false))) = some r := H
  have A10 := Aside0.mk A100
  clear A100
  replace H := Option.bind_eq_some_iff.mp H
  obtain ⟨t371, A110, H⟩ := H
  replace H : (if t371 = true then ((laws_toStore.f k a0_0 l0_1 l0_2 a0_3).bind fun bt372 => ((laws_eqStore.f k t359 t360 t363 t366 bt372.1 bt372.2.1 bt372.2.2.1 bt372.2.2.2).bind fun t380 => (if t380 = true then ((laws_markStore.f k t359 t360 t363 t366 1).bind fun bt381 => (if bt381.1 < 0 then (laws_FnExactDigestsOf.j0 k t356 t368 true a0_0 l0_1 l0_2 a0_3) else ((laws_eqStringS.f k t368 t356).bind fun t384 => (laws_FnExactDigestsOf.j0 k t356 t368 (!t384) a0_0 l0_1 l0_2 a0_3)))) else (some false)))) else (some false)) = some r := H
  have A11 := Aside0.mk A110
  clear A110
  by_cases c12 : t371 = true
  ·
   subst c12
   have H1 : ((laws_toStore.f k a0_0 l0_1 l0_2 a0_3).bind fun bt372 => ((laws_eqStore.f k t359 t360 t363 t366 bt372.1 bt372.2.1 bt372.2.2.1 bt372.2.2.2).bind fun t380 => (if t380 = true then ((laws_markStore.f k t359 t360 t363 t366 1).bind fun bt381 => (if bt381.1 < 0 then (laws_FnExactDigestsOf.j0 k t356 t368 true a0_0 l0_1 l0_2 a0_3) else ((laws_eqStringS.f k t368 t356).bind fun t384 => (laws_FnExactDigestsOf.j0 k t356 t368 (!t384) a0_0 l0_1 l0_2 a0_3)))) else (some false)))) = some r := by rw [if_pos rfl] at H; exact H
   clear H
   have H := H1
   clear H1
   replace H := Option.bind_eq_some_iff.mp H
   obtain ⟨⟨t372, t373, t376, t379⟩, A130, H⟩ := H
   replace H : ((laws_eqStore.f k t359 t360 t363 t366 t372 t373 t376 t379).bind fun t380 => (if t380 = true then ((laws_markStore.f k t359 t360 t363 t366 1).bind fun bt381 => (if bt381.1 < 0 then (laws_FnExactDigestsOf.j0 k t356 t368 true a0_0 l0_1 l0_2 a0_3) else ((laws_eqStringS.f k t368 t356).bind fun t384 => (laws_FnExactDigestsOf.j0 k t356 t368 (!t384) a0_0 l0_1 l0_2 a0_3)))) else (some false))) = some r := H
   have A13 := Aside0.mk A130
   clear A130
   replace H := Option.bind_eq_some_iff.mp H
   obtain ⟨t380, A140, H⟩ := H
   replace H : (if t380 = true then ((laws_markStore.f k t359 t360 t363 t366 1).bind fun bt381 => (if bt381.1 < 0 then (laws_FnExactDigestsOf.j0 k t356 t368 true a0_0 l0_1 l0_2 a0_3) else ((laws_eqStringS.f k t368 t356).bind fun t384 => (laws_FnExactDigestsOf.j0 k t356 t368 (!t384) a0_0 l0_1 l0_2 a0_3)))) else (some false)) = some r := H
   have A14 := Aside0.mk A140
   clear A140
   by_cases c15 : t380 = true
   ·
    subst c15
    have H1 : ((laws_markStore.f k t359 t360 t363 t366 1).bind fun bt381 => (if bt381.1 < 0 then (laws_FnExactDigestsOf.j0 k t356 t368 true a0_0 l0_1 l0_2 a0_3) else ((laws_eqStringS.f k t368 t356).bind fun t384 => (laws_FnExactDigestsOf.j0 k t356 t368 (!t384) a0_0 l0_1 l0_2 a0_3)))) = some r := by rw [if_pos rfl] at H; exact H
    clear H
    have H := H1
    clear H1
    replace H := Option.bind_eq_some_iff.mp H
    obtain ⟨⟨t381, t382, t383⟩, A160, H⟩ := H
    replace H : (if t381 < 0 then (laws_FnExactDigestsOf.j0 k t356 t368 true a0_0 l0_1 l0_2 a0_3) else ((laws_eqStringS.f k t368 t356).bind fun t384 => (laws_FnExactDigestsOf.j0 k t356 t368 (!t384) a0_0 l0_1 l0_2 a0_3))) = some r := H
    have A16 := Aside0.mk A160
    clear A160
    have HC17 := Aside0.mk H
    clear H
    go_enter Try.func6, Try.ntmps6
    try go_wp2_with (first | ((with_reducible refine gate_dst (N := 1) rfl ?_); refine box_event ?hg (N := 1) ?hd (cs := #[.int .i64 a0_0, .slice A0_1 l0_1.length c0_1, .slice A0_2 l0_2.length c0_2, .int .i64 a0_3]) (t := 25) ?hr ?_; (case hd => rfl); (case hg => rfl); (case hr => exact zq2); intro gb346 hg w18 hbox hb; have n0_ := Aside0.mk (below_step zq3 hb); have n1_ := Aside0.mk (hbox); have n2_ := Aside0.mk ((zq179 : w.heap.size ≤ gb346)); have n3_ := Aside0.mk ((zq179 : w.heap.size ≤ gb346)); clear HB; have HB := n0_; have BK346 := n1_; have GW346 := n2_; have GE346 := n3_; clear n0_ n1_ n2_ n3_; clear hb hbox hg; have hcz19_0 : w18.cell? ⟨gb346, 0, none⟩ = some (.int .i64 a0_0) := (blk_cell BK346.out 0).trans rfl; have hcz19_1 : w18.cell? ⟨gb346, 1, none⟩ = some (.slice A0_1 l0_1.length c0_1) := (blk_cell BK346.out 1).trans rfl; have hcz19_2 : w18.cell? ⟨gb346, 2, none⟩ = some (.slice A0_2 l0_2.length c0_2) := (blk_cell BK346.out 2).trans rfl; have hcz19_3 : w18.cell? ⟨gb346, 3, none⟩ = some (.int .i64 a0_3) := (blk_cell BK346.out 3).trans rfl; have hfz19_0 := blk_frozen BK346.out 0; have hfz19_1 := blk_frozen BK346.out 1; have hfz19_2 := blk_frozen BK346.out 2; have hfz19_3 := blk_frozen BK346.out 3) | ((with_reducible refine gate_callee (f := 15) rfl ?_); refine goesL_ (some 13) rfl rfl Try.func15 (by kernel_rfl) rfl #[.agg #[.int .i64 a0_0, .slice A0_1 l0_1.length c0_1, .slice A0_2 l0_2.length c0_2, .int .i64 a0_3], .int .i64 1048576] rfl zq8 ?_; (with_reducible refine (laws_szStore.calls k a0_0 _ _ l0_1 _ _ l0_2 a0_3 1048576 t347 _ ?side1 ?side2 ?side3 ?side4 A2.out).mono ?_); (case side1 => exact zq11); (case side2 => exact zq12); (case side3 => exact zq15); (case side4 => exact zq16); rintro e w20 ⟨rfl, hb⟩; refine ⟨_, rfl, ?_⟩; have n0_ := Aside0.mk (blk_below (g := gb346) (o := .cells #[.int .i64 a0_0, .slice A0_1 l0_1.length c0_1, .slice A0_2 l0_2.length c0_2, .int .i64 a0_3] 25 (0, 0)) zq65 hb); have n1_ := Aside0.mk (below_step zq66 hb); clear BK346; clear HB; have BK346 := n0_; have HB := n1_; clear n0_ n1_; (try clear hb); (try clear hb2); (try clear hk); (try clear hi); have hcz21_0 : w20.cell? ⟨gb346, 0, none⟩ = some (.int .i64 a0_0) := (blk_cell BK346.out 0).trans rfl; have hcz21_1 : w20.cell? ⟨gb346, 1, none⟩ = some (.slice A0_1 l0_1.length c0_1) := (blk_cell BK346.out 1).trans rfl; have hcz21_2 : w20.cell? ⟨gb346, 2, none⟩ = some (.slice A0_2 l0_2.length c0_2) := (blk_cell BK346.out 2).trans rfl; have hcz21_3 : w20.cell? ⟨gb346, 3, none⟩ = some (.int .i64 a0_3) := (blk_cell BK346.out 3).trans rfl; have hfz21_0 := blk_frozen BK346.out 0; have hfz21_1 := blk_frozen BK346.out 1; have hfz21_2 := blk_frozen BK346.out 2; have hfz21_3 := blk_frozen BK346.out 3) | ((with_reducible refine gate_callee (f := 17) rfl ?_); refine goesL_ (some 17) rfl rfl Try.func17 (by kernel_rfl) rfl #[.agg #[.int .i64 a0_0, .slice A0_1 l0_1.length c0_1, .slice A0_2 l0_2.length c0_2, .int .i64 a0_3]] rfl zq8 ?_; (with_reducible refine (laws_toStore.calls k a0_0 _ _ l0_1 _ _ l0_2 a0_3 t348 t349 t352 t355 _ ?side1 ?side2 ?side3 ?side4 A7.out).mono ?_); (case side1 => exact zq11); (case side2 => exact zq12); (case side3 => exact zq15); (case side4 => exact zq16); rintro e w22 ⟨v350, v353, rfl, ho0, ho1, hb⟩; refine ⟨_, rfl, ?_⟩; have n0_ := Aside0.mk (Kd.R_lower ho0 (below_size zq66)); have n1_ := Aside0.mk (Kd.R_lower ho1 (below_size zq66)); have n2_ := Aside0.mk (blk_below (g := gb346) (o := .cells #[.int .i64 a0_0, .slice A0_1 l0_1.length c0_1, .slice A0_2 l0_2.length c0_2, .int .i64 a0_3] 25 (0, 0)) zq65 hb); have n3_ := Aside0.mk (below_step zq66 hb); clear BK346; clear HB; have HO351 := n0_; have HO354 := n1_; have BK346 := n2_; have HB := n3_; clear n0_ n1_ n2_ n3_; (try clear hb); (try clear hb2); (try clear hk); (try clear hi); (try clear ho0); (try clear ho1); obtain ⟨Ao23, co23, eo23⟩ := Kd.R_slice HO351.out; subst eo23; obtain ⟨Ao24, co24, eo24⟩ := Kd.R_slice HO354.out; subst eo24) | ((with_reducible refine gate_callee (f := 24) rfl ?_); refine goesL_ (some 18) rfl rfl Try.func24 (by kernel_rfl) rfl #[.agg #[.int .i64 t348, .slice Ao23 t349.length co23, .slice Ao24 t352.length co24, .int .i64 t355]] rfl zq8 ?_; (with_reducible refine (spec_DigestsOf.calls k t348 _ _ t349 _ _ t352 t355 t356 _ ?side1 ?side2 ?side3 ?side4 A8.out).mono ?_); (case side1 => exact zq67); (case side2 => exact zq68); (case side3 => exact zq69); (case side4 => exact zq70); rintro e w25 ⟨v357, rfl, ho0, hb⟩; refine ⟨_, rfl, ?_⟩; have n0_ := Aside0.mk (Kd.R_below zq71 hb); have n1_ := Aside0.mk (Kd.R_below zq72 hb); have n2_ := Aside0.mk (Kd.R_lower ho0 (below_size zq66)); have n3_ := Aside0.mk (blk_below (g := gb346) (o := .cells #[.int .i64 a0_0, .slice A0_1 l0_1.length c0_1, .slice A0_2 l0_2.length c0_2, .int .i64 a0_3] 25 (0, 0)) zq65 hb); have n4_ := Aside0.mk (below_step zq66 hb); clear HO351; clear HO354; clear BK346; clear HB; have HO351 := n0_; have HO354 := n1_; have HO358 := n2_; have BK346 := n3_; have HB := n4_; clear n0_ n1_ n2_ n3_ n4_; (try clear hb); (try clear hb2); (try clear hk); (try clear hi); (try clear ho0); have hcz26_0 : w25.cell? ⟨gb346, 0, none⟩ = some (.int .i64 a0_0) := (blk_cell BK346.out 0).trans rfl; have hcz26_1 : w25.cell? ⟨gb346, 1, none⟩ = some (.slice A0_1 l0_1.length c0_1) := (blk_cell BK346.out 1).trans rfl; have hcz26_2 : w25.cell? ⟨gb346, 2, none⟩ = some (.slice A0_2 l0_2.length c0_2) := (blk_cell BK346.out 2).trans rfl; have hcz26_3 : w25.cell? ⟨gb346, 3, none⟩ = some (.int .i64 a0_3) := (blk_cell BK346.out 3).trans rfl; have hfz26_0 := blk_frozen BK346.out 0; have hfz26_1 := blk_frozen BK346.out 1; have hfz26_2 := blk_frozen BK346.out 2; have hfz26_3 := blk_frozen BK346.out 3) | ((with_reducible refine gate_callee (f := 17) rfl ?_); refine goesL_ (some 20) rfl rfl Try.func17 (by kernel_rfl) rfl #[.agg #[.int .i64 a0_0, .slice A0_1 l0_1.length c0_1, .slice A0_2 l0_2.length c0_2, .int .i64 a0_3]] rfl zq8 ?_; (with_reducible refine (laws_toStore.calls k a0_0 _ _ l0_1 _ _ l0_2 a0_3 t359 t360 t363 t366 _ ?side1 ?side2 ?side3 ?side4 A9.out).mono ?_); (case side1 => exact zq11); (case side2 => exact zq12); (case side3 => exact zq15); (case side4 => exact zq16); rintro e w27 ⟨v361, v364, rfl, ho0, ho1, hb⟩; refine ⟨_, rfl, ?_⟩; have n0_ := Aside0.mk (Kd.R_elder' zq71 (Kd.R_base ho0) hb); have n1_ := Aside0.mk (Kd.R_elder' zq72 (Kd.R_base ho1) hb); have n2_ := Aside0.mk (Kd.R_below zq73 hb); have n3_ := Aside0.mk (Kd.R_lower (Kd.R_new' ho0 (Kd.R_lt zq71)) (below_size zq66)); have n4_ := Aside0.mk (Kd.R_lower (Kd.R_new' ho1 (Kd.R_lt zq72)) (below_size zq66)); have n5_ := Aside0.mk (blk_below (g := gb346) (o := .cells #[.int .i64 a0_0, .slice A0_1 l0_1.length c0_1, .slice A0_2 l0_2.length c0_2, .int .i64 a0_3] 25 (0, 0)) zq65 hb); have n6_ := Aside0.mk (below_step zq66 hb); clear HO351; clear HO354; clear HO358; clear BK346; clear HB; have HO351 := n0_; have HO354 := n1_; have HO358 := n2_; have HO362 := n3_; have HO365 := n4_; have BK346 := n5_; have HB := n6_; clear n0_ n1_ n2_ n3_ n4_ n5_ n6_; (try clear hb); (try clear hb2); (try clear hk); (try clear hi); (try clear ho0); (try clear ho1)) | ((with_reducible refine gate_dst (N := 5) rfl ?_); refine box_event ?hg (N := 5) ?hd (cs := #[.int .i64 0, .slice none 0 0, .slice none 0 0, .int .i64 0]) (t := 31) ?hr ?_; (case hd => rfl); (case hg => rfl); (case hr => exact zq2); intro gb367 hg w28 hbox hb; have n0_ := Aside0.mk (Kd.R_below zq71 hb); have n1_ := Aside0.mk (Kd.R_below zq72 hb); have n2_ := Aside0.mk (Kd.R_below zq73 hb); have n3_ := Aside0.mk (Kd.R_below zq74 hb); have n4_ := Aside0.mk (Kd.R_below zq75 hb); have n5_ := Aside0.mk (blk_below (g := gb346) (o := .cells #[.int .i64 a0_0, .slice A0_1 l0_1.length c0_1, .slice A0_2 l0_2.length c0_2, .int .i64 a0_3] 25 (0, 0)) zq65 hb); have n6_ := Aside0.mk (below_step zq66 hb); have n7_ := Aside0.mk (hbox); have n8_ := Aside0.mk ((zq196 : w.heap.size ≤ gb367)); have n9_ := Aside0.mk ((zq196 : w.heap.size ≤ gb367)); have n10_ := Aside0.mk ((zq197 : gb346 ≠ gb367)); have n11_ := Aside0.mk ((zq198 : gb367 ≠ gb346)); clear HO351; clear HO354; clear HO358; clear HO362; clear HO365; clear BK346; clear HB; have HO351 := n0_; have HO354 := n1_; have HO358 := n2_; have HO362 := n3_; have HO365 := n4_; have BK346 := n5_; have HB := n6_; have BK367 := n7_; have GW367 := n8_; have GE367 := n9_; have NB346_367 := n10_; have NB367_346 := n11_; clear n0_ n1_ n2_ n3_ n4_ n5_ n6_ n7_ n8_ n9_ n10_ n11_; clear hb hbox hg; have hnb29 := NB367_346.out; have hnc29 := NB346_367.out; have hcz30_0 : w28.cell? ⟨gb367, 0, none⟩ = some (.int .i64 0) := (blk_cell BK367.out 0).trans rfl; have hcz30_1 : w28.cell? ⟨gb367, 1, none⟩ = some (.slice none 0 0) := (blk_cell BK367.out 1).trans rfl; have hcz30_2 : w28.cell? ⟨gb367, 2, none⟩ = some (.slice none 0 0) := (blk_cell BK367.out 2).trans rfl; have hcz30_3 : w28.cell? ⟨gb367, 3, none⟩ = some (.int .i64 0) := (blk_cell BK367.out 3).trans rfl; have hfz30_0 := blk_frozen BK367.out 0; have hfz30_1 := blk_frozen BK367.out 1; have hfz30_2 := blk_frozen BK367.out 2; have hfz30_3 := blk_frozen BK367.out 3; obtain ⟨Ao31, co31, eo31⟩ := Kd.R_slice HO362.out; subst eo31; obtain ⟨Ao32, co32, eo32⟩ := Kd.R_slice HO365.out; subst eo32) | ((with_reducible refine gate_callee (f := 25) rfl ?_); refine goesL_ (some 22) rfl rfl Try.func25 (by kernel_rfl) rfl #[.agg #[.int .i64 t359, .slice Ao31 t360.length co31, .slice Ao32 t363.length co32, .int .i64 t366]] rfl zq8 ?_; (with_reducible refine (impl_DigestsOf.calls k t359 _ _ t360 _ _ t363 t366 t368 _ ?side1 ?side2 ?side3 ?side4 A10.out).mono ?_); (case side1 => refine (Kd.R_reads' (e := 66) (base := w.heap.size) (ok := fun k_ => (True ∧ some k_ ≠ (.slice Ao23 t349.length co23 : Value).ownBlock)) (n := t360.length) (c := co31) ?_).2.2; exact zq76); (case side2 => exact zq77); (case side3 => refine (Kd.R_reads' (e := 68) (base := w.heap.size) (ok := fun k_ => (True ∧ some k_ ≠ (.slice Ao24 t352.length co24 : Value).ownBlock)) (n := t363.length) (c := co32) ?_).2.2; exact zq78); (case side4 => exact zq79); rintro e w33 ⟨v369, rfl, ho0, hb⟩; refine ⟨_, rfl, ?_⟩; have n0_ := Aside0.mk (Kd.R_below (by (with_reducible repeat (first | apply Kd.R_alloc | apply Kd.R_drewN | apply Kd.R_drew)); exact (Kd.R_mono (Kd.R_far (p := ⟨gb367, 3, none⟩) (Kd.R_far (p := ⟨gb367, 2, none⟩) (Kd.R_far (p := ⟨gb367, 1, none⟩) (Kd.R_far (p := ⟨gb367, 0, none⟩) (Kd.R_types HO351.out BK367.out (by decide)) (fun _ hk => hk.2) (.int .i64 t359)) (fun _ hk => hk.2) (.slice Ao31 t360.length co31)) (fun _ hk => hk.2) (.slice Ao32 t363.length co32)) (fun _ hk => hk.2) (.int .i64 t366)) (fun _ h_ => h_.1))) hb); have n1_ := Aside0.mk (Kd.R_below (by (with_reducible repeat (first | apply Kd.R_alloc | apply Kd.R_drewN | apply Kd.R_drew)); exact (Kd.R_mono (Kd.R_far (p := ⟨gb367, 3, none⟩) (Kd.R_far (p := ⟨gb367, 2, none⟩) (Kd.R_far (p := ⟨gb367, 1, none⟩) (Kd.R_far (p := ⟨gb367, 0, none⟩) (Kd.R_types HO354.out BK367.out (by decide)) (fun _ hk => hk.2) (.int .i64 t359)) (fun _ hk => hk.2) (.slice Ao31 t360.length co31)) (fun _ hk => hk.2) (.slice Ao32 t363.length co32)) (fun _ hk => hk.2) (.int .i64 t366)) (fun _ h_ => h_.1))) hb); have n2_ := Aside0.mk (Kd.R_elder' zq80 (Kd.R_base ho0) hb); have n3_ := Aside0.mk (Kd.R_below zq76 hb); have n4_ := Aside0.mk (Kd.R_below zq78 hb); have n5_ := Aside0.mk (Kd.R_lower (Kd.R_new' ho0 (Kd.R_lt zq80)) (below_size zq81)); have n6_ := Aside0.mk (blk_below (g := gb346) (o := .cells #[.int .i64 a0_0, .slice A0_1 l0_1.length c0_1, .slice A0_2 l0_2.length c0_2, .int .i64 a0_3] 25 (0, 0)) zq82 hb); have n7_ := Aside0.mk (blk_below (g := gb367) (o := .cells #[.int .i64 t359, .slice Ao31 t360.length co31, .slice Ao32 t363.length co32, .int .i64 t366] 31 (0, 0)) (by (with_reducible repeat (first | refine blk_drewN ?_ _ | refine blk_drew ?_ | refine blk_alloc ?_ _)); refine blk_put (cs := #[.int .i64 t359, .slice Ao31 t360.length co31, .slice Ao32 t363.length co32, .int .i64 0]) ?_ 3 _ rfl; (with_reducible repeat (first | refine blk_drewN ?_ _ | refine blk_drew ?_ | refine blk_alloc ?_ _)); refine blk_put (cs := #[.int .i64 t359, .slice Ao31 t360.length co31, .slice none 0 0, .int .i64 0]) ?_ 2 _ rfl; (with_reducible repeat (first | refine blk_drewN ?_ _ | refine blk_drew ?_ | refine blk_alloc ?_ _)); refine blk_put (cs := #[.int .i64 t359, .slice none 0 0, .slice none 0 0, .int .i64 0]) ?_ 1 _ rfl; (with_reducible repeat (first | refine blk_drewN ?_ _ | refine blk_drew ?_ | refine blk_alloc ?_ _)); refine blk_put (cs := #[.int .i64 0, .slice none 0 0, .slice none 0 0, .int .i64 0]) ?_ 0 _ rfl; (with_reducible repeat (first | refine blk_drewN ?_ _ | refine blk_drew ?_ | refine blk_alloc ?_ _)); exact BK367.out) hb); have n8_ := Aside0.mk (below_step zq81 hb); clear HO351; clear HO354; clear HO358; clear HO362; clear HO365; clear BK346; clear BK367; clear HB; have HO351 := n0_; have HO354 := n1_; have HO358 := n2_; have HO362 := n3_; have HO365 := n4_; have HO370 := n5_; have BK346 := n6_; have BK367 := n7_; have HB := n8_; clear n0_ n1_ n2_ n3_ n4_ n5_ n6_ n7_ n8_; (try clear hb); (try clear hb2); (try clear hk); (try clear hi); (try clear ho0); obtain ⟨Ao34, co34, eo34⟩ := Kd.R_slice HO370.out; subst eo34; obtain ⟨Ao35, co35, eo35⟩ := Kd.R_slice HO358.out; subst eo35) | ((with_reducible refine gate_callee (f := 26) rfl ?_); refine goesL_ (some 25) rfl rfl Try.func26 (by kernel_rfl) rfl #[.slice Ao34 t368.length co34, .slice Ao35 t356.length co35] rfl zq8 ?_; (with_reducible refine (laws_eqStringS.calls k _ _ t368 _ _ t356 true _ ?side1 ?side2 ?side3 ?side4 A11.out).mono ?_); (case side1 => exact zq83); (case side2 => exact zq84); (case side3 => exact zq85); (case side4 => exact zq86); rintro e w' ⟨rfl, ⟨nd, rfl⟩⟩; refine ⟨_, rfl, ?_⟩))
    repeat (rw [drewN_self w33]; generalize hq_ : World.drewN w33 _ = w33; have n0_ : Aside0 (Kd.R k66 66 w33 w.heap.size (fun k_ => some k_ ≠ (.slice Ao31 t360.length co31 : Value).ownBlock) (.slice Ao23 t349.length co23) t349) := ⟨by rw [← hq_]; exact zq87⟩; have n1_ : Aside0 (Kd.R k68 68 w33 w.heap.size (fun k_ => some k_ ≠ (.slice Ao32 t363.length co32 : Value).ownBlock) (.slice Ao24 t352.length co24) t352) := ⟨by rw [← hq_]; exact zq88⟩; have n2_ : Aside0 (Kd.R Kd.string 9 w33 w.heap.size (fun k_ => some k_ ≠ (.slice Ao34 t368.length co34 : Value).ownBlock) (.slice Ao35 t356.length co35) t356) := ⟨by rw [← hq_]; exact zq89⟩; have n3_ : Aside0 (Kd.R k66 66 w33 w.heap.size (fun k_ => some k_ ≠ (.slice Ao23 t349.length co23 : Value).ownBlock) (.slice Ao31 t360.length co31) t360) := ⟨by rw [← hq_]; exact zq90⟩; have n4_ : Aside0 (Kd.R k68 68 w33 w.heap.size (fun k_ => some k_ ≠ (.slice Ao24 t352.length co24 : Value).ownBlock) (.slice Ao32 t363.length co32) t363) := ⟨by rw [← hq_]; exact zq91⟩; have n5_ : Aside0 (Kd.R Kd.string 9 w33 w.heap.size (fun k_ => some k_ ≠ (.slice Ao35 t356.length co35 : Value).ownBlock) (.slice Ao34 t368.length co34) t368) := ⟨by rw [← hq_]; exact zq92⟩; have n6_ : Aside0 (w33.heap[gb346]? = some (.cells #[.int .i64 a0_0, .slice A0_1 l0_1.length c0_1, .slice A0_2 l0_2.length c0_2, .int .i64 a0_3] 25 (0, 0))) := ⟨by rw [← hq_]; exact zq65⟩; have n7_ : Aside0 (w33.heap[gb367]? = some (.cells #[.int .i64 t359, .slice Ao31 t360.length co31, .slice Ao32 t363.length co32, .int .i64 t366] 31 (0, 0))) := ⟨by rw [← hq_]; exact zq93⟩; have n8_ : Aside0 (Below w.heap.size w w33) := ⟨by rw [← hq_]; exact zq81⟩; clear HO351 HO354 HO358 HO362 HO365 HO370 BK346 BK367 HB hq_; have HO351 := n0_; have HO354 := n1_; have HO358 := n2_; have HO362 := n3_; have HO365 := n4_; have HO370 := n5_; have BK346 := n6_; have BK367 := n7_; have HB := n8_; clear n0_ n1_ n2_ n3_ n4_ n5_ n6_ n7_ n8_)
    have n0_ := Aside0.mk (Kd.R_drew HO351.out)
    have n1_ := Aside0.mk (Kd.R_drew HO354.out)
    have n2_ := Aside0.mk (Kd.R_drew HO358.out)
    have n3_ := Aside0.mk (Kd.R_drew HO362.out)
    have n4_ := Aside0.mk (Kd.R_drew HO365.out)
    have n5_ := Aside0.mk (Kd.R_drew HO370.out)
    have n6_ := Aside0.mk (blk_drew BK346.out)
    have n7_ := Aside0.mk (blk_drew BK367.out)
    have n8_ := Aside0.mk (below_drew1 HB.out)
    clear HO351
    clear HO354
    clear HO358
    clear HO362
    clear HO365
    clear HO370
    clear BK346
    clear BK367
    clear HB
    have HO351 := n0_
    have HO354 := n1_
    have HO358 := n2_
    have HO362 := n3_
    have HO365 := n4_
    have HO370 := n5_
    have BK346 := n6_
    have BK367 := n7_
    have HB := n8_
    clear n0_ n1_ n2_ n3_ n4_ n5_ n6_ n7_ n8_
    refine start_ (n := 5) (S := fun w' => w'.cell? ⟨gb367, 0, none⟩ = some (.int .i64 t359) ∧ w'.cell? ⟨gb367, 1, none⟩ = some (.slice Ao31 t360.length co31) ∧ w'.cell? ⟨gb367, 2, none⟩ = some (.slice Ao32 t363.length co32) ∧ w'.cell? ⟨gb367, 3, none⟩ = some (.int .i64 t366) ∧ w'.cell? ⟨gb346, 0, none⟩ = some (.int .i64 a0_0) ∧ w'.cell? ⟨gb346, 1, none⟩ = some (.slice A0_1 l0_1.length c0_1) ∧ w'.cell? ⟨gb346, 2, none⟩ = some (.slice A0_2 l0_2.length c0_2) ∧ w'.cell? ⟨gb346, 3, none⟩ = some (.int .i64 a0_3)) (ds := []) #[false, false, false, false, false] (by kernel_rfl) rfl rfl ⟨(blk_cell BK367.out 0).trans rfl, (blk_cell BK367.out 1).trans rfl, (blk_cell BK367.out 2).trans rfl, (blk_cell BK367.out 3).trans rfl, (blk_cell BK346.out 0).trans rfl, (blk_cell BK346.out 1).trans rfl, (blk_cell BK346.out 2).trans rfl, (blk_cell BK346.out 3).trans rfl⟩ (fun hHeld => ?_)
    generalize w33.drew = w36 at HO351 HO354 HO358 HO362 HO365 HO370 BK346 BK367 HB hHeld ⊢
    refine take_ (i := 0) (N := some 27) (v := ?_) (a' := ?_) #[true, false, false, false, false] rfl rfl (by kernel_rfl) (fun _ _ _ h => h) (Or.inl ⟨by rfl, ?_⟩) hHeld ?_ ?_
    rotate_left
    exact zq220
    rotate_left
    exact zq217
    refine take_ (i := 1) (N := some 28) (v := ?_) (a' := ?_) #[true, true, false, false, false] rfl rfl (by kernel_rfl) (fun _ _ _ h => h) (Or.inl ⟨by rfl, ?_⟩) hHeld ?_ ?_
    rotate_left
    exact zq220
    rotate_left
    exact zq217
    refine one_ (i := 2) (N := some 29) #[true, true, true, false, false] rfl rfl (by kernel_rfl) (by decide) (fun K hK => ?_)
    refine goes_ Try.func17 (by kernel_rfl) rfl #[.agg #[.int .i64 a0_0, .slice A0_1 l0_1.length c0_1, .slice A0_2 l0_2.length c0_2, .int .i64 a0_3]] (by rfl) rfl rfl zq8 ?_
    with_reducible refine (laws_toStore.calls k a0_0 _ _ l0_1 _ _ l0_2 a0_3 t372 t373 t376 t379 _ ?side1 ?side2 ?side3 ?side4 A13.out).mono ?_
    (case side1 => exact zq11)
    (case side2 => exact zq12)
    (case side3 => exact zq15)
    (case side4 => exact zq16)
    rintro e w37 ⟨v374, v377, rfl, ho0, ho1, hb⟩
    refine ⟨_, rfl, ?_⟩
    have n0_ := Aside0.mk (Kd.R_elder' zq71 (Kd.R_base ho0) hb)
    have n1_ := Aside0.mk (Kd.R_elder' zq72 (Kd.R_base ho1) hb)
    have n2_ := Aside0.mk (Kd.R_below zq73 hb)
    have n3_ := Aside0.mk (Kd.R_elder' zq74 (Kd.R_base ho0) hb)
    have n4_ := Aside0.mk (Kd.R_elder' zq75 (Kd.R_base ho1) hb)
    have n5_ := Aside0.mk (Kd.R_below zq94 hb)
    have n6_ := Aside0.mk (Kd.R_lower (Kd.R_new' (Kd.R_new' ho0 (Kd.R_lt zq71)) (Kd.R_lt zq74)) (below_size zq81))
    have n7_ := Aside0.mk (Kd.R_lower (Kd.R_new' (Kd.R_new' ho1 (Kd.R_lt zq72)) (Kd.R_lt zq75)) (below_size zq81))
    have n8_ := Aside0.mk (blk_below (g := gb346) (o := .cells #[.int .i64 a0_0, .slice A0_1 l0_1.length c0_1, .slice A0_2 l0_2.length c0_2, .int .i64 a0_3] 25 (0, 0)) zq65 hb)
    have n9_ := Aside0.mk (blk_below (g := gb367) (o := .cells #[.int .i64 t359, .slice Ao31 t360.length co31, .slice Ao32 t363.length co32, .int .i64 t366] 31 (0, 0)) zq93 hb)
    have n10_ := Aside0.mk (below_step zq81 hb)
    clear HO351
    clear HO354
    clear HO358
    clear HO362
    clear HO365
    clear HO370
    clear BK346
    clear BK367
    clear HB
    have HO351 := n0_
    have HO354 := n1_
    have HO358 := n2_
    have HO362 := n3_
    have HO365 := n4_
    have HO370 := n5_
    have HO375 := n6_
    have HO378 := n7_
    have BK346 := n8_
    have BK367 := n9_
    have HB := n10_
    clear n0_ n1_ n2_ n3_ n4_ n5_ n6_ n7_ n8_ n9_ n10_
    (try clear hb)
    (try clear hb2)
    (try clear hk)
    (try clear hi)
    (try clear ho0)
    (try clear ho1)
    obtain ⟨Ao38, co38, eo38⟩ := Kd.R_slice HO375.out
    (first | subst eo38 | (injection eo38 with f1_ f2_ f3_; have f4_ := f1_.symm; have f5_ := f3_.symm; clear f1_ f2_ f3_; subst f4_; subst f5_))
    obtain ⟨Ao39, co39, eo39⟩ := Kd.R_slice HO378.out
    (first | subst eo39 | (injection eo39 with f1_ f2_ f3_; have f4_ := f1_.symm; have f5_ := f3_.symm; clear f1_ f2_ f3_; subst f4_; subst f5_))
    refine hK.out _ _ ⟨(blk_cell BK367.out 0).trans rfl, (blk_cell BK367.out 1).trans rfl, (blk_cell BK367.out 2).trans rfl, (blk_cell BK367.out 3).trans rfl, (blk_cell BK346.out 0).trans rfl, (blk_cell BK346.out 1).trans rfl, (blk_cell BK346.out 2).trans rfl, (blk_cell BK346.out 3).trans rfl⟩ (fun hHeld => ?_)
    clear hK K
    refine norm_ (a' := ?_) ?_ ?_
    rotate_left
    ·
     show Act.put _ (some 29) _ = _
     simp only [Act.put, List.setIfInBounds_toArray, List.set_cons_zero, List.set_cons_succ, i64_w, i32_w]
     rfl
    refine one_ (i := 3) (N := some 30) #[true, true, true, true, false] rfl rfl (by kernel_rfl) (by decide) (fun K hK => ?_)
    refine goes_ Try.func19 (by kernel_rfl) rfl #[.agg #[.int .i64 t359, .slice Ao31 t360.length co31, .slice Ao32 t363.length co32, .int .i64 t366], .agg #[.int .i64 t372, .slice Ao38 t373.length co38, .slice Ao39 t376.length co39, .int .i64 t379]] (by rfl) rfl rfl zq8 ?_
    with_reducible refine (laws_eqStore.calls k t359 _ _ t360 _ _ t363 t366 t372 _ _ t373 _ _ t376 t379 true _ ?side1 ?side2 ?side3 ?side4 ?side5 ?side6 ?side7 ?side8 A14.out).mono ?_
    (case side1 => exact zq95)
    (case side2 => exact zq77)
    (case side3 => exact zq96)
    (case side4 => exact zq79)
    (case side5 => exact zq97)
    (case side6 => exact (Kd.R_reads' HO375.out).2.1)
    (case side7 => exact zq98)
    (case side8 => exact (Kd.R_reads' HO378.out).2.1)
    rintro e w40 ⟨rfl, hb⟩
    refine ⟨_, rfl, ?_⟩
    have n0_ := Aside0.mk (Kd.R_below zq71 hb)
    have n1_ := Aside0.mk (Kd.R_below zq72 hb)
    have n2_ := Aside0.mk (Kd.R_below zq73 hb)
    have n3_ := Aside0.mk (Kd.R_below zq74 hb)
    have n4_ := Aside0.mk (Kd.R_below zq75 hb)
    have n5_ := Aside0.mk (Kd.R_below zq94 hb)
    have n6_ := Aside0.mk (Kd.R_below zq99 hb)
    have n7_ := Aside0.mk (Kd.R_below zq100 hb)
    have n8_ := Aside0.mk (blk_below (g := gb346) (o := .cells #[.int .i64 a0_0, .slice A0_1 l0_1.length c0_1, .slice A0_2 l0_2.length c0_2, .int .i64 a0_3] 25 (0, 0)) zq65 hb)
    have n9_ := Aside0.mk (blk_below (g := gb367) (o := .cells #[.int .i64 t359, .slice Ao31 t360.length co31, .slice Ao32 t363.length co32, .int .i64 t366] 31 (0, 0)) zq93 hb)
    have n10_ := Aside0.mk (below_step zq81 hb)
    clear HO351
    clear HO354
    clear HO358
    clear HO362
    clear HO365
    clear HO370
    clear HO375
    clear HO378
    clear BK346
    clear BK367
    clear HB
    have HO351 := n0_
    have HO354 := n1_
    have HO358 := n2_
    have HO362 := n3_
    have HO365 := n4_
    have HO370 := n5_
    have HO375 := n6_
    have HO378 := n7_
    have BK346 := n8_
    have BK367 := n9_
    have HB := n10_
    clear n0_ n1_ n2_ n3_ n4_ n5_ n6_ n7_ n8_ n9_ n10_
    (try clear hb)
    (try clear hb2)
    (try clear hk)
    (try clear hi)
    refine hK.out _ _ ⟨(blk_cell BK367.out 0).trans rfl, (blk_cell BK367.out 1).trans rfl, (blk_cell BK367.out 2).trans rfl, (blk_cell BK367.out 3).trans rfl, (blk_cell BK346.out 0).trans rfl, (blk_cell BK346.out 1).trans rfl, (blk_cell BK346.out 2).trans rfl, (blk_cell BK346.out 3).trans rfl⟩ (fun hHeld => ?_)
    clear hK K
    refine norm_ (a' := ?_) ?_ ?_
    rotate_left
    exact zq230
    refine pure_ (i := 4) (N := some 31) (v := ?_) (a' := ?_) #[true, true, true, true, true] rfl rfl (by kernel_rfl) (fun _ _ _ h => h) (Or.inl ⟨by rfl, ?_⟩) ?_ ?_
    rotate_left
    exact zq216
    rotate_left
    exact zq217
    refine done_ (by kernel_rfl) ?_
    have hcz41_0 : w40.cell? ⟨gb367, 0, none⟩ = some (.int .i64 t359) := (blk_cell BK367.out 0).trans rfl
    have hcz41_1 : w40.cell? ⟨gb367, 1, none⟩ = some (.slice Ao31 t360.length co31) := (blk_cell BK367.out 1).trans rfl
    have hcz41_2 : w40.cell? ⟨gb367, 2, none⟩ = some (.slice Ao32 t363.length co32) := (blk_cell BK367.out 2).trans rfl
    have hcz41_3 : w40.cell? ⟨gb367, 3, none⟩ = some (.int .i64 t366) := (blk_cell BK367.out 3).trans rfl
    have hfz41_0 := blk_frozen BK367.out 0
    have hfz41_1 := blk_frozen BK367.out 1
    have hfz41_2 := blk_frozen BK367.out 2
    have hfz41_3 := blk_frozen BK367.out 3
    go_upto_region 14 with (first | ((with_reducible refine gate_callee (f := 27) rfl ?_); refine goesL_ (some 34) rfl rfl Try.func27 (by kernel_rfl) rfl #[.agg #[.int .i64 t359, .slice Ao31 t360.length co31, .slice Ao32 t363.length co32, .int .i64 t366], .int .i64 1] rfl zq8 ?_; (with_reducible refine (laws_markStore.calls k t359 (fun k_ => some k_ = (.slice Ao31 t360.length co31 : Value).ownBlock) (.slice Ao31 t360.length co31) t360 (fun k_ => some k_ = (.slice Ao32 t363.length co32 : Value).ownBlock) (.slice Ao32 t363.length co32) t363 t366 1 t381 t382 t383 w _ ?side1 ?side2 ?side3 A16.out).mono ?_); (case side1 => exact zq81); (case side2 => exact Kd.R_tight rfl HO362.out); (case side3 => exact Kd.R_tight rfl HO365.out); rintro e w42 ⟨rfl, hy0, hy1, hb, hkp⟩; refine ⟨_, rfl, ?_⟩; have n0_ := Aside0.mk (blk_kept zq101 hkp (fun hs_ => Or.elim hs_ (fun e_ => (fun e_ => (Kd.R_ne HO362.out BK346.out (by decide)) e_) e_) (fun e_ => (fun e_ => (Kd.R_ne HO365.out BK346.out (by decide)) e_) e_))); have n1_ := Aside0.mk (Kd.R_mono (ok' := fun k_ => some k_ ≠ (.slice Ao31 t360.length co31 : Value).ownBlock ∧ some k_ ≠ (.slice Ao38 t373.length co38 : Value).ownBlock) (Kd.R_keptB ((Kd.R_apart' HO351.out (Kd.R_typed HO365.out) (by decide))) hkp (fun k_ hk_ hs_ => Or.elim hs_ (fun e_ => by first | exact hk_.1.1.2 e_ | exact hk_.1.1 e_ | exact hk_.1.2 e_ | exact hk_.1.1.1 e_ | exact hk_.1.2.1 e_ | exact hk_.1.2.2 e_ | exact hk_.2 e_ | simp_all) (fun e_ => by first | exact hk_.2 e_ | exact hk_.1.1 e_ | exact hk_.1.2 e_ | exact hk_.1.1.1 e_ | exact hk_.1.1.2 e_ | exact hk_.1.2.1 e_ | exact hk_.1.2.2 e_ | simp_all))) (fun k_ hk_ => by first | exact ⟨hk_.1.1.1.2, hk_.1.1.2⟩ | simp_all)); have n2_ := Aside0.mk (Kd.R_mono (ok' := fun k_ => some k_ ≠ (.slice Ao32 t363.length co32 : Value).ownBlock ∧ some k_ ≠ (.slice Ao39 t376.length co39 : Value).ownBlock) (Kd.R_keptB ((Kd.R_apart' HO354.out (Kd.R_typed HO362.out) (by decide))) hkp (fun k_ hk_ hs_ => Or.elim hs_ (fun e_ => by first | exact hk_.2 e_ | exact hk_.1.1 e_ | exact hk_.1.2 e_ | exact hk_.1.1.1 e_ | exact hk_.1.1.2 e_ | exact hk_.1.2.1 e_ | exact hk_.1.2.2 e_ | simp_all) (fun e_ => by first | exact hk_.1.1.2 e_ | exact hk_.1.1 e_ | exact hk_.1.2 e_ | exact hk_.1.1.1 e_ | exact hk_.1.2.1 e_ | exact hk_.1.2.2 e_ | exact hk_.2 e_ | simp_all))) (fun k_ hk_ => by first | exact ⟨hk_.1.1.1.2, hk_.1.1.2⟩ | simp_all)); have n3_ := Aside0.mk (Kd.R_mono (ok' := fun k_ => some k_ ≠ (.slice Ao34 t368.length co34 : Value).ownBlock) (Kd.R_keptB ((Kd.R_apart' (Kd.R_apart' HO358.out (Kd.R_typed HO362.out) (by decide)) (Kd.R_typed HO365.out) (by decide))) hkp (fun k_ hk_ hs_ => Or.elim hs_ (fun e_ => by first | exact hk_.1.2 e_ | exact hk_.1.1 e_ | exact hk_.1.1.1 e_ | exact hk_.1.1.2 e_ | exact hk_.1.2.1 e_ | exact hk_.1.2.2 e_ | exact hk_.2 e_ | simp_all) (fun e_ => by first | exact hk_.2 e_ | exact hk_.1.1 e_ | exact hk_.1.2 e_ | exact hk_.1.1.1 e_ | exact hk_.1.1.2 e_ | exact hk_.1.2.1 e_ | exact hk_.1.2.2 e_ | simp_all))) (fun k_ hk_ => by first | exact hk_.1.1.1.2 | simp_all)); have n4_ := Aside0.mk (Kd.R_reok rfl hy0 (fun k_ e_ => HO362.out.1 k_ e_)); have n5_ := Aside0.mk (Kd.R_reok rfl hy1 (fun k_ e_ => HO365.out.1 k_ e_)); have n6_ := Aside0.mk (blk_kept zq102 hkp (fun hs_ => Or.elim hs_ (fun e_ => (fun e_ => (Kd.R_ne HO362.out BK367.out (by decide)) e_) e_) (fun e_ => (fun e_ => (Kd.R_ne HO365.out BK367.out (by decide)) e_) e_))); have n7_ := Aside0.mk (Kd.R_mono (ok' := fun k_ => some k_ ≠ (.slice Ao35 t356.length co35 : Value).ownBlock) (Kd.R_keptB ((Kd.R_apart' (Kd.R_apart' HO370.out (Kd.R_typed HO362.out) (by decide)) (Kd.R_typed HO365.out) (by decide))) hkp (fun k_ hk_ hs_ => Or.elim hs_ (fun e_ => by first | exact hk_.1.2 e_ | exact hk_.1.1 e_ | exact hk_.1.1.1 e_ | exact hk_.1.1.2 e_ | exact hk_.1.2.1 e_ | exact hk_.1.2.2 e_ | exact hk_.2 e_ | simp_all) (fun e_ => by first | exact hk_.2 e_ | exact hk_.1.1 e_ | exact hk_.1.2 e_ | exact hk_.1.1.1 e_ | exact hk_.1.1.2 e_ | exact hk_.1.2.1 e_ | exact hk_.1.2.2 e_ | simp_all))) (fun k_ hk_ => by first | exact hk_.1.1.1.2 | simp_all)); have n8_ := Aside0.mk (Kd.R_mono (ok' := fun k_ => some k_ ≠ (.slice Ao23 t349.length co23 : Value).ownBlock ∧ some k_ ≠ (.slice Ao31 t360.length co31 : Value).ownBlock) (Kd.R_keptB ((Kd.R_apart' HO375.out (Kd.R_typed HO365.out) (by decide))) hkp (fun k_ hk_ hs_ => Or.elim hs_ (fun e_ => by first | exact hk_.1.2 e_ | exact hk_.1.1 e_ | exact hk_.1.1.1 e_ | exact hk_.1.1.2 e_ | exact hk_.1.2.1 e_ | exact hk_.1.2.2 e_ | exact hk_.2 e_ | simp_all) (fun e_ => by first | exact hk_.2 e_ | exact hk_.1.1 e_ | exact hk_.1.2 e_ | exact hk_.1.1.1 e_ | exact hk_.1.1.2 e_ | exact hk_.1.2.1 e_ | exact hk_.1.2.2 e_ | simp_all))) (fun k_ hk_ => by first | exact ⟨hk_.1.1.1.2, hk_.1.1.2⟩ | simp_all)); have n9_ := Aside0.mk (Kd.R_mono (ok' := fun k_ => some k_ ≠ (.slice Ao24 t352.length co24 : Value).ownBlock ∧ some k_ ≠ (.slice Ao32 t363.length co32 : Value).ownBlock) (Kd.R_keptB ((Kd.R_apart' HO378.out (Kd.R_typed HO362.out) (by decide))) hkp (fun k_ hk_ hs_ => Or.elim hs_ (fun e_ => by first | exact hk_.2 e_ | exact hk_.1.1 e_ | exact hk_.1.2 e_ | exact hk_.1.1.1 e_ | exact hk_.1.1.2 e_ | exact hk_.1.2.1 e_ | exact hk_.1.2.2 e_ | simp_all) (fun e_ => by first | exact hk_.1.2 e_ | exact hk_.1.1 e_ | exact hk_.1.1.1 e_ | exact hk_.1.1.2 e_ | exact hk_.1.2.1 e_ | exact hk_.1.2.2 e_ | exact hk_.2 e_ | simp_all))) (fun k_ hk_ => by first | exact ⟨hk_.1.1.1.2, hk_.1.1.2⟩ | simp_all)); have n10_ := Aside0.mk (hb); clear BK346; clear HO351; clear HO354; clear HO358; clear HO362; clear HO365; clear BK367; clear HO370; clear HO375; clear HO378; clear HB; have BK346 := n0_; have HO351 := n1_; have HO354 := n2_; have HO358 := n3_; have HO362 := n4_; have HO365 := n5_; have BK367 := n6_; have HO370 := n7_; have HO375 := n8_; have HO378 := n9_; have HB := n10_; clear n0_ n1_ n2_ n3_ n4_ n5_ n6_ n7_ n8_ n9_ n10_; (try clear hb); (try clear hkp); (try clear hy0); (try clear hy1)))
    (try simp only [Act.put, List.setIfInBounds_toArray, List.set_cons_zero, List.set_cons_succ])
    go_cut [42] (fun v42 wc => ∃ (kq : Nat) (x42_16 : Bool), v42 = .bool x42_16 ∧ Aside0 (laws_FnExactDigestsOf.j0 kq t356 t368 x42_16 a0_0 l0_1 l0_2 a0_3 = some r) ∧ Aside0 (kq ≤ k) ∧ Aside0 (Kd.R Kd.string 9 wc w.heap.size (fun k_ => some k_ ≠ ((.slice Ao34 t368.length co34) : Value).ownBlock) (.slice Ao35 t356.length co35) t356) ∧ Aside0 (Kd.R Kd.string 9 wc w.heap.size (fun k_ => some k_ ≠ ((.slice Ao35 t356.length co35) : Value).ownBlock) (.slice Ao34 t368.length co34) t368) ∧ Aside0 (Kd.R k66 66 wc w.heap.size (fun _ => True) (.slice Ao31 t360.length co31) t382) ∧ Aside0 (Kd.R k68 68 wc w.heap.size (fun _ => True) (.slice Ao32 t363.length co32) t383) ∧ Aside0 (wc.heap[gb346]? = some (.cells #[.int .i64 a0_0, (.slice A0_1 l0_1.length c0_1), (.slice A0_2 l0_2.length c0_2), .int .i64 a0_3] 25 (0, 0))) ∧ Aside0 (wc.heap[gb367]? = some (.cells #[.int .i64 t359, (.slice Ao31 t360.length co31), (.slice Ao32 t363.length co32), .int .i64 t366] 31 (0, 0))) ∧ Aside0 (Below w.heap.size w wc))
    case first =>
     have H := HC17.out
     clear HC17
     by_cases c43 : t381 < 0
     ·
      rw [if_pos c43] at H
      have c43b0 : decide (t381 < 0) = true := decide_eq_true c43
      clear c43
      (first | rw [c43b0] | (simp only [i64_w, i32_w]; rw [c43b0]) | skip)
      have H' := Aside0.mk H
      clear H
      go_wp2
      go_meet
      case rel => exact ⟨_, (true), zq6, H', ⟨zq37⟩, ⟨zq73⟩, ⟨zq94⟩, ⟨zq103⟩, ⟨zq104⟩, ⟨zq65⟩, ⟨zq93⟩, ⟨zq81⟩⟩
     ·
      rw [if_neg c43] at H
      have c43b0 : decide (t381 < 0) = false := decide_eq_false c43
      clear c43
      (first | rw [c43b0] | (simp only [i64_w, i32_w]; rw [c43b0]) | skip)
      replace H := Option.bind_eq_some_iff.mp H
      obtain ⟨t384, A440, H⟩ := H
      replace H : (laws_FnExactDigestsOf.j0 k t356 t368 (!t384) a0_0 l0_1 l0_2 a0_3) = some r := H
      have A44 := Aside0.mk A440
      clear A440
      have H' := Aside0.mk H
      clear H
      go_wp2_with (first | (go_at_call 26; (with_reducible refine (laws_eqStringS.calls k _ _ t368 _ _ t356 t384 _ ?side1 ?side2 ?side3 ?side4 A44.out).mono ?_); (case side1 => exact zq83); (case side2 => exact zq84); (case side3 => exact zq85); (case side4 => exact zq86); rintro e w' ⟨rfl, ⟨nd, rfl⟩⟩))
      go_meet
      case rel => exact ⟨_, (!t384), zq6, H', ⟨zq37⟩, ⟨zq73⟩, ⟨zq94⟩, ⟨zq103⟩, ⟨zq104⟩, ⟨zq65⟩, ⟨zq93⟩, ⟨zq81⟩⟩
    case rest =>
     clear HC17
     try clear c1
     try clear c2
     try clear p2
     try clear c3
     try clear c3b0
     try clear c4
     try clear c6
     try clear c12
     try clear c15
     try clear c17
     try clear c19
     try clear c24
     try clear c25
     try clear c26
     try clear c27
     try clear c29
     try clear c43
     try clear c43b0
     try clear hcz19_0
     try clear hcz19_1
     try clear hcz19_2
     try clear hcz19_3
     try clear hcz21_0
     try clear hcz21_1
     try clear hcz21_2
     try clear hcz21_3
     try clear hcz26_0
     try clear hcz26_1
     try clear hcz26_2
     try clear hcz26_3
     try clear hcz30_0
     try clear hcz30_1
     try clear hcz30_2
     try clear hcz30_3
     try clear hcz41_0
     try clear hcz41_1
     try clear hcz41_2
     try clear hcz41_3
     try clear hcz5_0
     try clear hcz5_1
     try clear hcz5_2
     try clear hcz5_3
     try clear hfz19_0
     try clear hfz19_1
     try clear hfz19_2
     try clear hfz19_3
     try clear hfz21_0
     try clear hfz21_1
     try clear hfz21_2
     try clear hfz21_3
     try clear hfz26_0
     try clear hfz26_1
     try clear hfz26_2
     try clear hfz26_3
     try clear hfz30_0
     try clear hfz30_1
     try clear hfz30_2
     try clear hfz30_3
     try clear hfz41_0
     try clear hfz41_1
     try clear hfz41_2
     try clear hfz41_3
     try clear hfz5_0
     try clear hfz5_1
     try clear hfz5_2
     try clear hfz5_3
     obtain ⟨kq, x42_16, rfl, HA, HJ16, HO_4, HO_6, HO_368001, HO_368002, BK346, BK367, HB⟩ := hcut
     have hl368001_16 := (Kd.R_reads' HO_368001.out).1
     rw [hl368001_16] at HO_368001
     (try simp only [hl368001_16])
     (try simp only [hl368001_16] at BK346)
     (try simp only [hl368001_16] at BK367)
     (try simp only [hl368001_16] at HO_4)
     (try simp only [hl368001_16] at HO_6)
     (try simp only [hl368001_16] at HO_368002)
     have hl368002_16 := (Kd.R_reads' HO_368002.out).1
     rw [hl368002_16] at HO_368002
     (try simp only [hl368002_16])
     (try simp only [hl368002_16] at BK346)
     (try simp only [hl368002_16] at BK367)
     (try simp only [hl368002_16] at HO_4)
     (try simp only [hl368002_16] at HO_6)
     (try simp only [hl368002_16] at HO_368001)
     cases kq with
     | zero => exact absurd HA.out (by simp [laws_FnExactDigestsOf.j0])
     | succ kj16 =>
      have H := HA.out
      clear HA
      simp only [laws_FnExactDigestsOf.j0] at H
      by_cases c45 : x42_16 = true
      ·
       subst c45
       have H1 : (some false) = some r := by rw [if_pos rfl] at H; exact H
       clear H
       have H := H1
       clear H1
       obtain rfl := Option.some.inj H
       go_wp2
       go_ret
       exact ⟨zq4, zq81⟩
      ·
       replace c45 := Bool.eq_false_iff.mpr c45
       subst c45
       have H1 : ((laws_markStringS.f kj16 t368 1).bind fun bt385 => ((laws_heldStringS.f kj16 bt385.2 1).bind fun t387 => (if t387 < 0 then (some false) else (if t387 = bt385.1 then ((laws_toStore.f kj16 a0_0 l0_1 l0_2 a0_3).bind fun bt388 => ((impl_DigestsOf.f kj16 bt388.1 bt388.2.1 bt388.2.2.1 bt388.2.2.2).bind fun t396 => ((laws_eqStringS.f kj16 t396 t356).bind fun t399 => (if t399 = true then ((laws_heldStringS.f kj16 bt385.2 1).bind fun t400 => (if t400 < 0 then (some false) else (if t400 = bt385.1 then (some true) else (some false)))) else (some false))))) else (some false))))) = some r := by rw [if_neg (show ¬ (false = true) by decide)] at H; exact H
       clear H
       have H := H1
       clear H1
       replace H := Option.bind_eq_some_iff.mp H
       obtain ⟨⟨t385, t386⟩, A460, H⟩ := H
       replace H : ((laws_heldStringS.f kj16 t386 1).bind fun t387 => (if t387 < 0 then (some false) else (if t387 = t385 then ((laws_toStore.f kj16 a0_0 l0_1 l0_2 a0_3).bind fun bt388 => ((impl_DigestsOf.f kj16 bt388.1 bt388.2.1 bt388.2.2.1 bt388.2.2.2).bind fun t396 => ((laws_eqStringS.f kj16 t396 t356).bind fun t399 => (if t399 = true then ((laws_heldStringS.f kj16 t386 1).bind fun t400 => (if t400 < 0 then (some false) else (if t400 = t385 then (some true) else (some false)))) else (some false))))) else (some false)))) = some r := H
       have A46 := Aside0.mk A460
       clear A460
       replace H := Option.bind_eq_some_iff.mp H
       obtain ⟨t387, A470, H⟩ := H
       replace H : (if t387 < 0 then (some false) else (if t387 = t385 then ((laws_toStore.f kj16 a0_0 l0_1 l0_2 a0_3).bind fun bt388 => ((impl_DigestsOf.f kj16 bt388.1 bt388.2.1 bt388.2.2.1 bt388.2.2.2).bind fun t396 => ((laws_eqStringS.f kj16 t396 t356).bind fun t399 => (if t399 = true then ((laws_heldStringS.f kj16 t386 1).bind fun t400 => (if t400 < 0 then (some false) else (if t400 = t385 then (some true) else (some false)))) else (some false))))) else (some false))) = some r := H
       have A47 := Aside0.mk A470
       clear A470
       by_cases c48 : t387 < 0
       ·
        rw [if_pos c48] at H
        have c48b0 : decide (t387 < 0) = true := decide_eq_true c48
        clear c48
        obtain rfl := Option.some.inj H
        go_wp2_with (first | ((with_reducible refine gate_callee (f := 28) rfl ?_); refine goesL_ (some 45) rfl rfl Try.func28 (by kernel_rfl) rfl #[.slice Ao34 t368.length co34, .int .i64 1] rfl zq8 ?_; (with_reducible refine (laws_markStringS.calls kj16 (fun k_ => some k_ = (.slice Ao34 t368.length co34 : Value).ownBlock) (.slice Ao34 t368.length co34) t368 1 t385 t386 w _ ?side1 ?side2 A46.out).mono ?_); (case side1 => exact zq81); (case side2 => exact zq105); rintro e w49 ⟨rfl, hy0, hb, hkp⟩; refine ⟨_, rfl, ?_⟩; have n0_ := Aside0.mk (Kd.R_mono (ok' := fun k_ => some k_ ≠ (.slice Ao34 t368.length co34 : Value).ownBlock) (Kd.R_keptB (HO_4.out) hkp (fun k_ hk_ hs_ => (hk_) hs_)) (fun k_ hk_ => by first | exact hk_.1 | simp_all)); have n1_ := Aside0.mk (Kd.R_reok rfl hy0 (fun k_ e_ => HO_6.out.1 k_ e_)); have n2_ := Aside0.mk (Kd.R_mono (ok' := fun k_ => True) (Kd.R_keptB ((Kd.R_apart' HO_368001.out (Kd.R_typed HO_6.out) (by decide))) hkp (fun k_ hk_ hs_ => by first | exact (hk_.2) hs_ | simp_all)) (fun k_ hk_ => trivial)); have n3_ := Aside0.mk (Kd.R_mono (ok' := fun k_ => True) (Kd.R_keptB ((Kd.R_apart' HO_368002.out (Kd.R_typed HO_6.out) (by decide))) hkp (fun k_ hk_ hs_ => by first | exact (hk_.2) hs_ | simp_all)) (fun k_ hk_ => trivial)); have n4_ := Aside0.mk (blk_kept zq101 hkp (fun hs_ => (fun e_ => (Kd.R_ne HO_6.out BK346.out (by decide)) e_) hs_)); have n5_ := Aside0.mk (blk_kept zq102 hkp (fun hs_ => (fun e_ => (Kd.R_ne HO_6.out BK367.out (by decide)) e_) hs_)); have n6_ := Aside0.mk (hb); clear HO_4; clear HO_6; clear HO_368001; clear HO_368002; clear BK346; clear BK367; clear HB; have HO_4 := n0_; have HO_6 := n1_; have HO_368001 := n2_; have HO_368002 := n3_; have BK346 := n4_; have BK367 := n5_; have HB := n6_; clear n0_ n1_ n2_ n3_ n4_ n5_ n6_; (try clear hb); (try clear hkp); (try clear hy0)) | ((with_reducible refine gate_callee (f := 29) rfl ?_); refine goesL_ (some 48) rfl rfl Try.func29 (by kernel_rfl) rfl #[.slice Ao34 t386.length co34, .int .i64 1] rfl zq106 ?_; (with_reducible refine (laws_heldStringS.calls kj16 _ _ t386 1 t387 _ ?side1 ?side2 A47.out).mono ?_); (case side1 => exact zq107); (case side2 => exact zq108); rintro e w50 ⟨rfl, hb⟩; refine ⟨_, rfl, ?_⟩; have n0_ := Aside0.mk (Kd.R_below zq109 hb); have n1_ := Aside0.mk (Kd.R_below zq110 hb); have n2_ := Aside0.mk (Kd.R_below zq111 hb); have n3_ := Aside0.mk (Kd.R_below zq112 hb); have n4_ := Aside0.mk (blk_below (g := gb346) (o := .cells #[.int .i64 a0_0, .slice A0_1 l0_1.length c0_1, .slice A0_2 l0_2.length c0_2, .int .i64 a0_3] 25 (0, 0)) zq65 hb); have n5_ := Aside0.mk (blk_below (g := gb367) (o := .cells #[.int .i64 t359, .slice Ao31 t382.length co31, .slice Ao32 t383.length co32, .int .i64 t366] 31 (0, 0)) zq93 hb); have n6_ := Aside0.mk (below_step zq81 hb); clear HO_4; clear HO_6; clear HO_368001; clear HO_368002; clear BK346; clear BK367; clear HB; have HO_4 := n0_; have HO_6 := n1_; have HO_368001 := n2_; have HO_368002 := n3_; have BK346 := n4_; have BK367 := n5_; have HB := n6_; clear n0_ n1_ n2_ n3_ n4_ n5_ n6_; (try clear hb); (try clear hb2); (try clear hk); (try clear hi)))
        go_ret
        exact ⟨zq4, zq81⟩
       ·
        rw [if_neg c48] at H
        have c48b0 : decide (t387 < 0) = false := decide_eq_false c48
        clear c48
        by_cases c51 : t387 = t385
        ·
         rw [if_pos c51] at H
         have c51b0 : (t387 == t385) = true := beq_iff_eq.mpr c51
         have c51b1 : (t387 != t385) = false := bne_eq_false_iff_eq.mpr c51
         clear c51
         replace H := Option.bind_eq_some_iff.mp H
         obtain ⟨⟨t388, t389, t392, t395⟩, A520, H⟩ := H
         replace H : ((impl_DigestsOf.f kj16 t388 t389 t392 t395).bind fun t396 => ((laws_eqStringS.f kj16 t396 t356).bind fun t399 => (if t399 = true then ((laws_heldStringS.f kj16 t386 1).bind fun t400 => (if t400 < 0 then (some false) else (if t400 = t385 then (some true) else (some false)))) else (some false)))) = some r := H
         have A52 := Aside0.mk A520
         clear A520
         replace H := Option.bind_eq_some_iff.mp H
         obtain ⟨t396, A530, H⟩ := H
         replace H : ((laws_eqStringS.f kj16 t396 t356).bind fun t399 => (if t399 = true then ((laws_heldStringS.f kj16 t386 1).bind fun t400 => (if t400 < 0 then (some false) else (if t400 = t385 then (some true) else (some false)))) else (some false))) = some r := H
         have A53 := Aside0.mk A530
         clear A530
         replace H := Option.bind_eq_some_iff.mp H
         obtain ⟨t399, A540, H⟩ := H
         replace H : (if t399 = true then ((laws_heldStringS.f kj16 t386 1).bind fun t400 => (if t400 < 0 then (some false) else (if t400 = t385 then (some true) else (some false)))) else (some false)) = some r := H
         have A54 := Aside0.mk A540
         clear A540
         by_cases c55 : t399 = true
         ·
          subst c55
          have H1 : ((laws_heldStringS.f kj16 t386 1).bind fun t400 => (if t400 < 0 then (some false) else (if t400 = t385 then (some true) else (some false)))) = some r := by rw [if_pos rfl] at H; exact H
          clear H
          have H := H1
          clear H1
          replace H := Option.bind_eq_some_iff.mp H
          obtain ⟨t400, A560, H⟩ := H
          replace H : (if t400 < 0 then (some false) else (if t400 = t385 then (some true) else (some false))) = some r := H
          have A56 := Aside0.mk A560
          clear A560
          by_cases c57 : t400 < 0
          ·
           rw [if_pos c57] at H
           have c57b0 : decide (t400 < 0) = true := decide_eq_true c57
           clear c57
           obtain rfl := Option.some.inj H
           go_wp2_with (first | ((with_reducible refine gate_callee (f := 28) rfl ?_); refine goesL_ (some 45) rfl rfl Try.func28 (by kernel_rfl) rfl #[.slice Ao34 t368.length co34, .int .i64 1] rfl zq8 ?_; (with_reducible refine (laws_markStringS.calls kj16 (fun k_ => some k_ = (.slice Ao34 t368.length co34 : Value).ownBlock) (.slice Ao34 t368.length co34) t368 1 t385 t386 w _ ?side1 ?side2 A46.out).mono ?_); (case side1 => exact zq81); (case side2 => exact zq105); rintro e w58 ⟨rfl, hy0, hb, hkp⟩; refine ⟨_, rfl, ?_⟩; have n0_ := Aside0.mk (Kd.R_mono (ok' := fun k_ => some k_ ≠ (.slice Ao34 t368.length co34 : Value).ownBlock) (Kd.R_keptB (HO_4.out) hkp (fun k_ hk_ hs_ => (hk_) hs_)) (fun k_ hk_ => by first | exact hk_.1 | simp_all)); have n1_ := Aside0.mk (Kd.R_reok rfl hy0 (fun k_ e_ => HO_6.out.1 k_ e_)); have n2_ := Aside0.mk (Kd.R_mono (ok' := fun k_ => True) (Kd.R_keptB ((Kd.R_apart' HO_368001.out (Kd.R_typed HO_6.out) (by decide))) hkp (fun k_ hk_ hs_ => by first | exact (hk_.2) hs_ | simp_all)) (fun k_ hk_ => trivial)); have n3_ := Aside0.mk (Kd.R_mono (ok' := fun k_ => True) (Kd.R_keptB ((Kd.R_apart' HO_368002.out (Kd.R_typed HO_6.out) (by decide))) hkp (fun k_ hk_ hs_ => by first | exact (hk_.2) hs_ | simp_all)) (fun k_ hk_ => trivial)); have n4_ := Aside0.mk (blk_kept zq101 hkp (fun hs_ => (fun e_ => (Kd.R_ne HO_6.out BK346.out (by decide)) e_) hs_)); have n5_ := Aside0.mk (blk_kept zq102 hkp (fun hs_ => (fun e_ => (Kd.R_ne HO_6.out BK367.out (by decide)) e_) hs_)); have n6_ := Aside0.mk (hb); clear HO_4; clear HO_6; clear HO_368001; clear HO_368002; clear BK346; clear BK367; clear HB; have HO_4 := n0_; have HO_6 := n1_; have HO_368001 := n2_; have HO_368002 := n3_; have BK346 := n4_; have BK367 := n5_; have HB := n6_; clear n0_ n1_ n2_ n3_ n4_ n5_ n6_; (try clear hb); (try clear hkp); (try clear hy0)) | ((with_reducible refine gate_callee (f := 29) rfl ?_); refine goesL_ (some 48) rfl rfl Try.func29 (by kernel_rfl) rfl #[.slice Ao34 t386.length co34, .int .i64 1] rfl zq106 ?_; (with_reducible refine (laws_heldStringS.calls kj16 _ _ t386 1 t387 _ ?side1 ?side2 A47.out).mono ?_); (case side1 => exact zq107); (case side2 => exact zq108); rintro e w59 ⟨rfl, hb⟩; refine ⟨_, rfl, ?_⟩; have n0_ := Aside0.mk (Kd.R_below zq109 hb); have n1_ := Aside0.mk (Kd.R_below zq110 hb); have n2_ := Aside0.mk (Kd.R_below zq111 hb); have n3_ := Aside0.mk (Kd.R_below zq112 hb); have n4_ := Aside0.mk (blk_below (g := gb346) (o := .cells #[.int .i64 a0_0, .slice A0_1 l0_1.length c0_1, .slice A0_2 l0_2.length c0_2, .int .i64 a0_3] 25 (0, 0)) zq65 hb); have n5_ := Aside0.mk (blk_below (g := gb367) (o := .cells #[.int .i64 t359, .slice Ao31 t382.length co31, .slice Ao32 t383.length co32, .int .i64 t366] 31 (0, 0)) zq93 hb); have n6_ := Aside0.mk (below_step zq81 hb); clear HO_4; clear HO_6; clear HO_368001; clear HO_368002; clear BK346; clear BK367; clear HB; have HO_4 := n0_; have HO_6 := n1_; have HO_368001 := n2_; have HO_368002 := n3_; have BK346 := n4_; have BK367 := n5_; have HB := n6_; clear n0_ n1_ n2_ n3_ n4_ n5_ n6_; (try clear hb); (try clear hb2); (try clear hk); (try clear hi); have hnb60 := NB346_367.out; have hnc60 := NB367_346.out; have hcz61_0 : w59.cell? ⟨gb346, 0, none⟩ = some (.int .i64 a0_0) := (blk_cell BK346.out 0).trans rfl; have hcz61_1 : w59.cell? ⟨gb346, 1, none⟩ = some (.slice A0_1 l0_1.length c0_1) := (blk_cell BK346.out 1).trans rfl; have hcz61_2 : w59.cell? ⟨gb346, 2, none⟩ = some (.slice A0_2 l0_2.length c0_2) := (blk_cell BK346.out 2).trans rfl; have hcz61_3 : w59.cell? ⟨gb346, 3, none⟩ = some (.int .i64 a0_3) := (blk_cell BK346.out 3).trans rfl; have hfz61_0 := blk_frozen BK346.out 0; have hfz61_1 := blk_frozen BK346.out 1; have hfz61_2 := blk_frozen BK346.out 2; have hfz61_3 := blk_frozen BK346.out 3) | ((with_reducible refine gate_callee (f := 17) rfl ?_); refine goesL_ (some 55) rfl rfl Try.func17 (by kernel_rfl) rfl #[.agg #[.int .i64 a0_0, .slice A0_1 l0_1.length c0_1, .slice A0_2 l0_2.length c0_2, .int .i64 a0_3]] rfl zq8 ?_; (with_reducible refine (laws_toStore.calls kj16 a0_0 _ _ l0_1 _ _ l0_2 a0_3 t388 t389 t392 t395 _ ?side1 ?side2 ?side3 ?side4 A52.out).mono ?_); (case side1 => exact zq11); (case side2 => exact zq12); (case side3 => exact zq15); (case side4 => exact zq16); rintro e w62 ⟨v390, v393, rfl, ho0, ho1, hb⟩; refine ⟨_, rfl, ?_⟩; have n0_ := Aside0.mk (Kd.R_below zq109 hb); have n1_ := Aside0.mk (Kd.R_below zq110 hb); have n2_ := Aside0.mk (Kd.R_elder' zq111 (Kd.R_base ho0) hb); have n3_ := Aside0.mk (Kd.R_elder' zq112 (Kd.R_base ho1) hb); have n4_ := Aside0.mk (Kd.R_lower (Kd.R_new' ho0 (Kd.R_lt zq111)) (below_size zq81)); have n5_ := Aside0.mk (Kd.R_lower (Kd.R_new' ho1 (Kd.R_lt zq112)) (below_size zq81)); have n6_ := Aside0.mk (blk_below (g := gb346) (o := .cells #[.int .i64 a0_0, .slice A0_1 l0_1.length c0_1, .slice A0_2 l0_2.length c0_2, .int .i64 a0_3] 25 (0, 0)) zq65 hb); have n7_ := Aside0.mk (blk_below (g := gb367) (o := .cells #[.int .i64 t359, .slice Ao31 t382.length co31, .slice Ao32 t383.length co32, .int .i64 t366] 31 (0, 0)) zq93 hb); have n8_ := Aside0.mk (below_step zq81 hb); clear HO_4; clear HO_6; clear HO_368001; clear HO_368002; clear BK346; clear BK367; clear HB; have HO_4 := n0_; have HO_6 := n1_; have HO_368001 := n2_; have HO_368002 := n3_; have HO391 := n4_; have HO394 := n5_; have BK346 := n6_; have BK367 := n7_; have HB := n8_; clear n0_ n1_ n2_ n3_ n4_ n5_ n6_ n7_ n8_; (try clear hb); (try clear hb2); (try clear hk); (try clear hi); (try clear ho0); (try clear ho1); obtain ⟨Ao63, co63, eo63⟩ := Kd.R_slice HO391.out; subst eo63; obtain ⟨Ao64, co64, eo64⟩ := Kd.R_slice HO394.out; subst eo64) | ((with_reducible refine gate_callee (f := 25) rfl ?_); refine goesL_ (some 56) rfl rfl Try.func25 (by kernel_rfl) rfl #[.agg #[.int .i64 t388, .slice Ao63 t389.length co63, .slice Ao64 t392.length co64, .int .i64 t395]] rfl zq8 ?_; (with_reducible refine (impl_DigestsOf.calls kj16 t388 _ _ t389 _ _ t392 t395 t396 _ ?side1 ?side2 ?side3 ?side4 A53.out).mono ?_); (case side1 => exact zq113); (case side2 => exact zq114); (case side3 => exact zq115); (case side4 => exact zq116); rintro e w65 ⟨v397, rfl, ho0, hb⟩; refine ⟨_, rfl, ?_⟩; have n0_ := Aside0.mk (Kd.R_elder' zq109 (Kd.R_base ho0) hb); have n1_ := Aside0.mk (Kd.R_elder' zq110 (Kd.R_base ho0) hb); have n2_ := Aside0.mk (Kd.R_below zq111 hb); have n3_ := Aside0.mk (Kd.R_below zq112 hb); have n4_ := Aside0.mk (Kd.R_below zq117 hb); have n5_ := Aside0.mk (Kd.R_below zq118 hb); have n6_ := Aside0.mk (Kd.R_lower (Kd.R_new' (Kd.R_new' ho0 (Kd.R_lt zq109)) (Kd.R_lt zq110)) (below_size zq81)); have n7_ := Aside0.mk (blk_below (g := gb346) (o := .cells #[.int .i64 a0_0, .slice A0_1 l0_1.length c0_1, .slice A0_2 l0_2.length c0_2, .int .i64 a0_3] 25 (0, 0)) zq65 hb); have n8_ := Aside0.mk (blk_below (g := gb367) (o := .cells #[.int .i64 t359, .slice Ao31 t382.length co31, .slice Ao32 t383.length co32, .int .i64 t366] 31 (0, 0)) zq93 hb); have n9_ := Aside0.mk (below_step zq81 hb); clear HO_4; clear HO_6; clear HO_368001; clear HO_368002; clear HO391; clear HO394; clear BK346; clear BK367; clear HB; have HO_4 := n0_; have HO_6 := n1_; have HO_368001 := n2_; have HO_368002 := n3_; have HO391 := n4_; have HO394 := n5_; have HO398 := n6_; have BK346 := n7_; have BK367 := n8_; have HB := n9_; clear n0_ n1_ n2_ n3_ n4_ n5_ n6_ n7_ n8_ n9_; (try clear hb); (try clear hb2); (try clear hk); (try clear hi); (try clear ho0); obtain ⟨Ao66, co66, eo66⟩ := Kd.R_slice HO398.out; subst eo66) | ((with_reducible refine gate_callee (f := 26) rfl ?_); refine goesL_ (some 59) rfl rfl Try.func26 (by kernel_rfl) rfl #[.slice Ao66 t396.length co66, .slice Ao35 t356.length co35] rfl zq8 ?_; (with_reducible refine (laws_eqStringS.calls kj16 _ _ t396 _ _ t356 true _ ?side1 ?side2 ?side3 ?side4 A54.out).mono ?_); (case side1 => exact zq119); (case side2 => exact zq120); (case side3 => exact zq121); (case side4 => exact zq122); rintro e w' ⟨rfl, ⟨nd, rfl⟩⟩; refine ⟨_, rfl, ?_⟩) | ((with_reducible refine gate_callee (f := 29) rfl ?_); refine goesL_ (some 63) rfl rfl Try.func29 (by kernel_rfl) rfl #[.slice Ao34 t386.length co34, .int .i64 1] rfl zq106 ?_; (with_reducible refine (laws_heldStringS.calls kj16 _ _ t386 1 t400 _ ?side1 ?side2 A56.out).mono ?_); (case side1 => exact zq107); (case side2 => exact zq108); rintro e w67 ⟨rfl, hb⟩; refine ⟨_, rfl, ?_⟩; have n0_ := Aside0.mk (Kd.R_below zq109 hb); have n1_ := Aside0.mk (Kd.R_below zq110 hb); have n2_ := Aside0.mk (Kd.R_below zq111 hb); have n3_ := Aside0.mk (Kd.R_below zq112 hb); have n4_ := Aside0.mk (Kd.R_below zq117 hb); have n5_ := Aside0.mk (Kd.R_below zq118 hb); have n6_ := Aside0.mk (Kd.R_below zq123 hb); have n7_ := Aside0.mk (blk_below (g := gb346) (o := .cells #[.int .i64 a0_0, .slice A0_1 l0_1.length c0_1, .slice A0_2 l0_2.length c0_2, .int .i64 a0_3] 25 (0, 0)) zq65 hb); have n8_ := Aside0.mk (blk_below (g := gb367) (o := .cells #[.int .i64 t359, .slice Ao31 t382.length co31, .slice Ao32 t383.length co32, .int .i64 t366] 31 (0, 0)) zq93 hb); have n9_ := Aside0.mk (below_step zq81 hb); clear HO_4; clear HO_6; clear HO_368001; clear HO_368002; clear HO391; clear HO394; clear HO398; clear BK346; clear BK367; clear HB; have HO_4 := n0_; have HO_6 := n1_; have HO_368001 := n2_; have HO_368002 := n3_; have HO391 := n4_; have HO394 := n5_; have HO398 := n6_; have BK346 := n7_; have BK367 := n8_; have HB := n9_; clear n0_ n1_ n2_ n3_ n4_ n5_ n6_ n7_ n8_ n9_; (try clear hb); (try clear hb2); (try clear hk); (try clear hi)))
           go_ret
           exact ⟨zq4, zq81⟩
          ·
           rw [if_neg c57] at H
           have c57b0 : decide (t400 < 0) = false := decide_eq_false c57
           clear c57
           by_cases c68 : t400 = t385
           ·
            rw [if_pos c68] at H
            have c68b0 : (t400 == t385) = true := beq_iff_eq.mpr c68
            have c68b1 : (t400 != t385) = false := bne_eq_false_iff_eq.mpr c68
            clear c68
            obtain rfl := Option.some.inj H
            go_wp2_with (first | ((with_reducible refine gate_callee (f := 28) rfl ?_); refine goesL_ (some 45) rfl rfl Try.func28 (by kernel_rfl) rfl #[.slice Ao34 t368.length co34, .int .i64 1] rfl zq8 ?_; (with_reducible refine (laws_markStringS.calls kj16 (fun k_ => some k_ = (.slice Ao34 t368.length co34 : Value).ownBlock) (.slice Ao34 t368.length co34) t368 1 t385 t386 w _ ?side1 ?side2 A46.out).mono ?_); (case side1 => exact zq81); (case side2 => exact zq105); rintro e w69 ⟨rfl, hy0, hb, hkp⟩; refine ⟨_, rfl, ?_⟩; have n0_ := Aside0.mk (Kd.R_mono (ok' := fun k_ => some k_ ≠ (.slice Ao34 t368.length co34 : Value).ownBlock) (Kd.R_keptB (HO_4.out) hkp (fun k_ hk_ hs_ => (hk_) hs_)) (fun k_ hk_ => by first | exact hk_.1 | simp_all)); have n1_ := Aside0.mk (Kd.R_reok rfl hy0 (fun k_ e_ => HO_6.out.1 k_ e_)); have n2_ := Aside0.mk (Kd.R_mono (ok' := fun k_ => True) (Kd.R_keptB ((Kd.R_apart' HO_368001.out (Kd.R_typed HO_6.out) (by decide))) hkp (fun k_ hk_ hs_ => by first | exact (hk_.2) hs_ | simp_all)) (fun k_ hk_ => trivial)); have n3_ := Aside0.mk (Kd.R_mono (ok' := fun k_ => True) (Kd.R_keptB ((Kd.R_apart' HO_368002.out (Kd.R_typed HO_6.out) (by decide))) hkp (fun k_ hk_ hs_ => by first | exact (hk_.2) hs_ | simp_all)) (fun k_ hk_ => trivial)); have n4_ := Aside0.mk (blk_kept zq101 hkp (fun hs_ => (fun e_ => (Kd.R_ne HO_6.out BK346.out (by decide)) e_) hs_)); have n5_ := Aside0.mk (blk_kept zq102 hkp (fun hs_ => (fun e_ => (Kd.R_ne HO_6.out BK367.out (by decide)) e_) hs_)); have n6_ := Aside0.mk (hb); clear HO_4; clear HO_6; clear HO_368001; clear HO_368002; clear BK346; clear BK367; clear HB; have HO_4 := n0_; have HO_6 := n1_; have HO_368001 := n2_; have HO_368002 := n3_; have BK346 := n4_; have BK367 := n5_; have HB := n6_; clear n0_ n1_ n2_ n3_ n4_ n5_ n6_; (try clear hb); (try clear hkp); (try clear hy0)) | ((with_reducible refine gate_callee (f := 29) rfl ?_); refine goesL_ (some 48) rfl rfl Try.func29 (by kernel_rfl) rfl #[.slice Ao34 t386.length co34, .int .i64 1] rfl zq106 ?_; (with_reducible refine (laws_heldStringS.calls kj16 _ _ t386 1 t387 _ ?side1 ?side2 A47.out).mono ?_); (case side1 => exact zq107); (case side2 => exact zq108); rintro e w70 ⟨rfl, hb⟩; refine ⟨_, rfl, ?_⟩; have n0_ := Aside0.mk (Kd.R_below zq109 hb); have n1_ := Aside0.mk (Kd.R_below zq110 hb); have n2_ := Aside0.mk (Kd.R_below zq111 hb); have n3_ := Aside0.mk (Kd.R_below zq112 hb); have n4_ := Aside0.mk (blk_below (g := gb346) (o := .cells #[.int .i64 a0_0, .slice A0_1 l0_1.length c0_1, .slice A0_2 l0_2.length c0_2, .int .i64 a0_3] 25 (0, 0)) zq65 hb); have n5_ := Aside0.mk (blk_below (g := gb367) (o := .cells #[.int .i64 t359, .slice Ao31 t382.length co31, .slice Ao32 t383.length co32, .int .i64 t366] 31 (0, 0)) zq93 hb); have n6_ := Aside0.mk (below_step zq81 hb); clear HO_4; clear HO_6; clear HO_368001; clear HO_368002; clear BK346; clear BK367; clear HB; have HO_4 := n0_; have HO_6 := n1_; have HO_368001 := n2_; have HO_368002 := n3_; have BK346 := n4_; have BK367 := n5_; have HB := n6_; clear n0_ n1_ n2_ n3_ n4_ n5_ n6_; (try clear hb); (try clear hb2); (try clear hk); (try clear hi); have hnb71 := NB346_367.out; have hnc71 := NB367_346.out; have hcz72_0 : w70.cell? ⟨gb346, 0, none⟩ = some (.int .i64 a0_0) := (blk_cell BK346.out 0).trans rfl; have hcz72_1 : w70.cell? ⟨gb346, 1, none⟩ = some (.slice A0_1 l0_1.length c0_1) := (blk_cell BK346.out 1).trans rfl; have hcz72_2 : w70.cell? ⟨gb346, 2, none⟩ = some (.slice A0_2 l0_2.length c0_2) := (blk_cell BK346.out 2).trans rfl; have hcz72_3 : w70.cell? ⟨gb346, 3, none⟩ = some (.int .i64 a0_3) := (blk_cell BK346.out 3).trans rfl; have hfz72_0 := blk_frozen BK346.out 0; have hfz72_1 := blk_frozen BK346.out 1; have hfz72_2 := blk_frozen BK346.out 2; have hfz72_3 := blk_frozen BK346.out 3) | ((with_reducible refine gate_callee (f := 17) rfl ?_); refine goesL_ (some 55) rfl rfl Try.func17 (by kernel_rfl) rfl #[.agg #[.int .i64 a0_0, .slice A0_1 l0_1.length c0_1, .slice A0_2 l0_2.length c0_2, .int .i64 a0_3]] rfl zq8 ?_; (with_reducible refine (laws_toStore.calls kj16 a0_0 _ _ l0_1 _ _ l0_2 a0_3 t388 t389 t392 t395 _ ?side1 ?side2 ?side3 ?side4 A52.out).mono ?_); (case side1 => exact zq11); (case side2 => exact zq12); (case side3 => exact zq15); (case side4 => exact zq16); rintro e w73 ⟨v390, v393, rfl, ho0, ho1, hb⟩; refine ⟨_, rfl, ?_⟩; have n0_ := Aside0.mk (Kd.R_below zq109 hb); have n1_ := Aside0.mk (Kd.R_below zq110 hb); have n2_ := Aside0.mk (Kd.R_elder' zq111 (Kd.R_base ho0) hb); have n3_ := Aside0.mk (Kd.R_elder' zq112 (Kd.R_base ho1) hb); have n4_ := Aside0.mk (Kd.R_lower (Kd.R_new' ho0 (Kd.R_lt zq111)) (below_size zq81)); have n5_ := Aside0.mk (Kd.R_lower (Kd.R_new' ho1 (Kd.R_lt zq112)) (below_size zq81)); have n6_ := Aside0.mk (blk_below (g := gb346) (o := .cells #[.int .i64 a0_0, .slice A0_1 l0_1.length c0_1, .slice A0_2 l0_2.length c0_2, .int .i64 a0_3] 25 (0, 0)) zq65 hb); have n7_ := Aside0.mk (blk_below (g := gb367) (o := .cells #[.int .i64 t359, .slice Ao31 t382.length co31, .slice Ao32 t383.length co32, .int .i64 t366] 31 (0, 0)) zq93 hb); have n8_ := Aside0.mk (below_step zq81 hb); clear HO_4; clear HO_6; clear HO_368001; clear HO_368002; clear BK346; clear BK367; clear HB; have HO_4 := n0_; have HO_6 := n1_; have HO_368001 := n2_; have HO_368002 := n3_; have HO391 := n4_; have HO394 := n5_; have BK346 := n6_; have BK367 := n7_; have HB := n8_; clear n0_ n1_ n2_ n3_ n4_ n5_ n6_ n7_ n8_; (try clear hb); (try clear hb2); (try clear hk); (try clear hi); (try clear ho0); (try clear ho1); obtain ⟨Ao74, co74, eo74⟩ := Kd.R_slice HO391.out; subst eo74; obtain ⟨Ao75, co75, eo75⟩ := Kd.R_slice HO394.out; subst eo75) | ((with_reducible refine gate_callee (f := 25) rfl ?_); refine goesL_ (some 56) rfl rfl Try.func25 (by kernel_rfl) rfl #[.agg #[.int .i64 t388, .slice Ao74 t389.length co74, .slice Ao75 t392.length co75, .int .i64 t395]] rfl zq8 ?_; (with_reducible refine (impl_DigestsOf.calls kj16 t388 _ _ t389 _ _ t392 t395 t396 _ ?side1 ?side2 ?side3 ?side4 A53.out).mono ?_); (case side1 => exact zq113); (case side2 => exact zq114); (case side3 => exact zq115); (case side4 => exact zq116); rintro e w76 ⟨v397, rfl, ho0, hb⟩; refine ⟨_, rfl, ?_⟩; have n0_ := Aside0.mk (Kd.R_elder' zq109 (Kd.R_base ho0) hb); have n1_ := Aside0.mk (Kd.R_elder' zq110 (Kd.R_base ho0) hb); have n2_ := Aside0.mk (Kd.R_below zq111 hb); have n3_ := Aside0.mk (Kd.R_below zq112 hb); have n4_ := Aside0.mk (Kd.R_below zq117 hb); have n5_ := Aside0.mk (Kd.R_below zq118 hb); have n6_ := Aside0.mk (Kd.R_lower (Kd.R_new' (Kd.R_new' ho0 (Kd.R_lt zq109)) (Kd.R_lt zq110)) (below_size zq81)); have n7_ := Aside0.mk (blk_below (g := gb346) (o := .cells #[.int .i64 a0_0, .slice A0_1 l0_1.length c0_1, .slice A0_2 l0_2.length c0_2, .int .i64 a0_3] 25 (0, 0)) zq65 hb); have n8_ := Aside0.mk (blk_below (g := gb367) (o := .cells #[.int .i64 t359, .slice Ao31 t382.length co31, .slice Ao32 t383.length co32, .int .i64 t366] 31 (0, 0)) zq93 hb); have n9_ := Aside0.mk (below_step zq81 hb); clear HO_4; clear HO_6; clear HO_368001; clear HO_368002; clear HO391; clear HO394; clear BK346; clear BK367; clear HB; have HO_4 := n0_; have HO_6 := n1_; have HO_368001 := n2_; have HO_368002 := n3_; have HO391 := n4_; have HO394 := n5_; have HO398 := n6_; have BK346 := n7_; have BK367 := n8_; have HB := n9_; clear n0_ n1_ n2_ n3_ n4_ n5_ n6_ n7_ n8_ n9_; (try clear hb); (try clear hb2); (try clear hk); (try clear hi); (try clear ho0); obtain ⟨Ao77, co77, eo77⟩ := Kd.R_slice HO398.out; subst eo77) | ((with_reducible refine gate_callee (f := 26) rfl ?_); refine goesL_ (some 59) rfl rfl Try.func26 (by kernel_rfl) rfl #[.slice Ao77 t396.length co77, .slice Ao35 t356.length co35] rfl zq8 ?_; (with_reducible refine (laws_eqStringS.calls kj16 _ _ t396 _ _ t356 true _ ?side1 ?side2 ?side3 ?side4 A54.out).mono ?_); (case side1 => exact zq119); (case side2 => exact zq120); (case side3 => exact zq121); (case side4 => exact zq122); rintro e w' ⟨rfl, ⟨nd, rfl⟩⟩; refine ⟨_, rfl, ?_⟩) | ((with_reducible refine gate_callee (f := 29) rfl ?_); refine goesL_ (some 63) rfl rfl Try.func29 (by kernel_rfl) rfl #[.slice Ao34 t386.length co34, .int .i64 1] rfl zq106 ?_; (with_reducible refine (laws_heldStringS.calls kj16 _ _ t386 1 t400 _ ?side1 ?side2 A56.out).mono ?_); (case side1 => exact zq107); (case side2 => exact zq108); rintro e w78 ⟨rfl, hb⟩; refine ⟨_, rfl, ?_⟩; have n0_ := Aside0.mk (Kd.R_below zq109 hb); have n1_ := Aside0.mk (Kd.R_below zq110 hb); have n2_ := Aside0.mk (Kd.R_below zq111 hb); have n3_ := Aside0.mk (Kd.R_below zq112 hb); have n4_ := Aside0.mk (Kd.R_below zq117 hb); have n5_ := Aside0.mk (Kd.R_below zq118 hb); have n6_ := Aside0.mk (Kd.R_below zq123 hb); have n7_ := Aside0.mk (blk_below (g := gb346) (o := .cells #[.int .i64 a0_0, .slice A0_1 l0_1.length c0_1, .slice A0_2 l0_2.length c0_2, .int .i64 a0_3] 25 (0, 0)) zq65 hb); have n8_ := Aside0.mk (blk_below (g := gb367) (o := .cells #[.int .i64 t359, .slice Ao31 t382.length co31, .slice Ao32 t383.length co32, .int .i64 t366] 31 (0, 0)) zq93 hb); have n9_ := Aside0.mk (below_step zq81 hb); clear HO_4; clear HO_6; clear HO_368001; clear HO_368002; clear HO391; clear HO394; clear HO398; clear BK346; clear BK367; clear HB; have HO_4 := n0_; have HO_6 := n1_; have HO_368001 := n2_; have HO_368002 := n3_; have HO391 := n4_; have HO394 := n5_; have HO398 := n6_; have BK346 := n7_; have BK367 := n8_; have HB := n9_; clear n0_ n1_ n2_ n3_ n4_ n5_ n6_ n7_ n8_ n9_; (try clear hb); (try clear hb2); (try clear hk); (try clear hi)))
            go_ret
            exact ⟨zq4, zq81⟩
           ·
            rw [if_neg c68] at H
            have c68b0 : (t400 == t385) = false := beq_eq_false_iff_ne.mpr c68
            have c68b1 : (t400 != t385) = true := bne_iff_ne.mpr c68
            obtain rfl := Option.some.inj H
            go_wp2_with (first | ((with_reducible refine gate_callee (f := 28) rfl ?_); refine goesL_ (some 45) rfl rfl Try.func28 (by kernel_rfl) rfl #[.slice Ao34 t368.length co34, .int .i64 1] rfl zq8 ?_; (with_reducible refine (laws_markStringS.calls kj16 (fun k_ => some k_ = (.slice Ao34 t368.length co34 : Value).ownBlock) (.slice Ao34 t368.length co34) t368 1 t385 t386 w _ ?side1 ?side2 A46.out).mono ?_); (case side1 => exact zq81); (case side2 => exact zq105); rintro e w79 ⟨rfl, hy0, hb, hkp⟩; refine ⟨_, rfl, ?_⟩; have n0_ := Aside0.mk (Kd.R_mono (ok' := fun k_ => some k_ ≠ (.slice Ao34 t368.length co34 : Value).ownBlock) (Kd.R_keptB (HO_4.out) hkp (fun k_ hk_ hs_ => (hk_) hs_)) (fun k_ hk_ => by first | exact hk_.1 | simp_all)); have n1_ := Aside0.mk (Kd.R_reok rfl hy0 (fun k_ e_ => HO_6.out.1 k_ e_)); have n2_ := Aside0.mk (Kd.R_mono (ok' := fun k_ => True) (Kd.R_keptB ((Kd.R_apart' HO_368001.out (Kd.R_typed HO_6.out) (by decide))) hkp (fun k_ hk_ hs_ => by first | exact (hk_.2) hs_ | simp_all)) (fun k_ hk_ => trivial)); have n3_ := Aside0.mk (Kd.R_mono (ok' := fun k_ => True) (Kd.R_keptB ((Kd.R_apart' HO_368002.out (Kd.R_typed HO_6.out) (by decide))) hkp (fun k_ hk_ hs_ => by first | exact (hk_.2) hs_ | simp_all)) (fun k_ hk_ => trivial)); have n4_ := Aside0.mk (blk_kept zq101 hkp (fun hs_ => (fun e_ => (Kd.R_ne HO_6.out BK346.out (by decide)) e_) hs_)); have n5_ := Aside0.mk (blk_kept zq102 hkp (fun hs_ => (fun e_ => (Kd.R_ne HO_6.out BK367.out (by decide)) e_) hs_)); have n6_ := Aside0.mk (hb); clear HO_4; clear HO_6; clear HO_368001; clear HO_368002; clear BK346; clear BK367; clear HB; have HO_4 := n0_; have HO_6 := n1_; have HO_368001 := n2_; have HO_368002 := n3_; have BK346 := n4_; have BK367 := n5_; have HB := n6_; clear n0_ n1_ n2_ n3_ n4_ n5_ n6_; (try clear hb); (try clear hkp); (try clear hy0)) | ((with_reducible refine gate_callee (f := 29) rfl ?_); refine goesL_ (some 48) rfl rfl Try.func29 (by kernel_rfl) rfl #[.slice Ao34 t386.length co34, .int .i64 1] rfl zq106 ?_; (with_reducible refine (laws_heldStringS.calls kj16 _ _ t386 1 t387 _ ?side1 ?side2 A47.out).mono ?_); (case side1 => exact zq107); (case side2 => exact zq108); rintro e w80 ⟨rfl, hb⟩; refine ⟨_, rfl, ?_⟩; have n0_ := Aside0.mk (Kd.R_below zq109 hb); have n1_ := Aside0.mk (Kd.R_below zq110 hb); have n2_ := Aside0.mk (Kd.R_below zq111 hb); have n3_ := Aside0.mk (Kd.R_below zq112 hb); have n4_ := Aside0.mk (blk_below (g := gb346) (o := .cells #[.int .i64 a0_0, .slice A0_1 l0_1.length c0_1, .slice A0_2 l0_2.length c0_2, .int .i64 a0_3] 25 (0, 0)) zq65 hb); have n5_ := Aside0.mk (blk_below (g := gb367) (o := .cells #[.int .i64 t359, .slice Ao31 t382.length co31, .slice Ao32 t383.length co32, .int .i64 t366] 31 (0, 0)) zq93 hb); have n6_ := Aside0.mk (below_step zq81 hb); clear HO_4; clear HO_6; clear HO_368001; clear HO_368002; clear BK346; clear BK367; clear HB; have HO_4 := n0_; have HO_6 := n1_; have HO_368001 := n2_; have HO_368002 := n3_; have BK346 := n4_; have BK367 := n5_; have HB := n6_; clear n0_ n1_ n2_ n3_ n4_ n5_ n6_; (try clear hb); (try clear hb2); (try clear hk); (try clear hi); have hnb81 := NB346_367.out; have hnc81 := NB367_346.out; have hcz82_0 : w80.cell? ⟨gb346, 0, none⟩ = some (.int .i64 a0_0) := (blk_cell BK346.out 0).trans rfl; have hcz82_1 : w80.cell? ⟨gb346, 1, none⟩ = some (.slice A0_1 l0_1.length c0_1) := (blk_cell BK346.out 1).trans rfl; have hcz82_2 : w80.cell? ⟨gb346, 2, none⟩ = some (.slice A0_2 l0_2.length c0_2) := (blk_cell BK346.out 2).trans rfl; have hcz82_3 : w80.cell? ⟨gb346, 3, none⟩ = some (.int .i64 a0_3) := (blk_cell BK346.out 3).trans rfl; have hfz82_0 := blk_frozen BK346.out 0; have hfz82_1 := blk_frozen BK346.out 1; have hfz82_2 := blk_frozen BK346.out 2; have hfz82_3 := blk_frozen BK346.out 3) | ((with_reducible refine gate_callee (f := 17) rfl ?_); refine goesL_ (some 55) rfl rfl Try.func17 (by kernel_rfl) rfl #[.agg #[.int .i64 a0_0, .slice A0_1 l0_1.length c0_1, .slice A0_2 l0_2.length c0_2, .int .i64 a0_3]] rfl zq8 ?_; (with_reducible refine (laws_toStore.calls kj16 a0_0 _ _ l0_1 _ _ l0_2 a0_3 t388 t389 t392 t395 _ ?side1 ?side2 ?side3 ?side4 A52.out).mono ?_); (case side1 => exact zq11); (case side2 => exact zq12); (case side3 => exact zq15); (case side4 => exact zq16); rintro e w83 ⟨v390, v393, rfl, ho0, ho1, hb⟩; refine ⟨_, rfl, ?_⟩; have n0_ := Aside0.mk (Kd.R_below zq109 hb); have n1_ := Aside0.mk (Kd.R_below zq110 hb); have n2_ := Aside0.mk (Kd.R_elder' zq111 (Kd.R_base ho0) hb); have n3_ := Aside0.mk (Kd.R_elder' zq112 (Kd.R_base ho1) hb); have n4_ := Aside0.mk (Kd.R_lower (Kd.R_new' ho0 (Kd.R_lt zq111)) (below_size zq81)); have n5_ := Aside0.mk (Kd.R_lower (Kd.R_new' ho1 (Kd.R_lt zq112)) (below_size zq81)); have n6_ := Aside0.mk (blk_below (g := gb346) (o := .cells #[.int .i64 a0_0, .slice A0_1 l0_1.length c0_1, .slice A0_2 l0_2.length c0_2, .int .i64 a0_3] 25 (0, 0)) zq65 hb); have n7_ := Aside0.mk (blk_below (g := gb367) (o := .cells #[.int .i64 t359, .slice Ao31 t382.length co31, .slice Ao32 t383.length co32, .int .i64 t366] 31 (0, 0)) zq93 hb); have n8_ := Aside0.mk (below_step zq81 hb); clear HO_4; clear HO_6; clear HO_368001; clear HO_368002; clear BK346; clear BK367; clear HB; have HO_4 := n0_; have HO_6 := n1_; have HO_368001 := n2_; have HO_368002 := n3_; have HO391 := n4_; have HO394 := n5_; have BK346 := n6_; have BK367 := n7_; have HB := n8_; clear n0_ n1_ n2_ n3_ n4_ n5_ n6_ n7_ n8_; (try clear hb); (try clear hb2); (try clear hk); (try clear hi); (try clear ho0); (try clear ho1); obtain ⟨Ao84, co84, eo84⟩ := Kd.R_slice HO391.out; subst eo84; obtain ⟨Ao85, co85, eo85⟩ := Kd.R_slice HO394.out; subst eo85) | ((with_reducible refine gate_callee (f := 25) rfl ?_); refine goesL_ (some 56) rfl rfl Try.func25 (by kernel_rfl) rfl #[.agg #[.int .i64 t388, .slice Ao84 t389.length co84, .slice Ao85 t392.length co85, .int .i64 t395]] rfl zq8 ?_; (with_reducible refine (impl_DigestsOf.calls kj16 t388 _ _ t389 _ _ t392 t395 t396 _ ?side1 ?side2 ?side3 ?side4 A53.out).mono ?_); (case side1 => exact zq113); (case side2 => exact zq114); (case side3 => exact zq115); (case side4 => exact zq116); rintro e w86 ⟨v397, rfl, ho0, hb⟩; refine ⟨_, rfl, ?_⟩; have n0_ := Aside0.mk (Kd.R_elder' zq109 (Kd.R_base ho0) hb); have n1_ := Aside0.mk (Kd.R_elder' zq110 (Kd.R_base ho0) hb); have n2_ := Aside0.mk (Kd.R_below zq111 hb); have n3_ := Aside0.mk (Kd.R_below zq112 hb); have n4_ := Aside0.mk (Kd.R_below zq117 hb); have n5_ := Aside0.mk (Kd.R_below zq118 hb); have n6_ := Aside0.mk (Kd.R_lower (Kd.R_new' (Kd.R_new' ho0 (Kd.R_lt zq109)) (Kd.R_lt zq110)) (below_size zq81)); have n7_ := Aside0.mk (blk_below (g := gb346) (o := .cells #[.int .i64 a0_0, .slice A0_1 l0_1.length c0_1, .slice A0_2 l0_2.length c0_2, .int .i64 a0_3] 25 (0, 0)) zq65 hb); have n8_ := Aside0.mk (blk_below (g := gb367) (o := .cells #[.int .i64 t359, .slice Ao31 t382.length co31, .slice Ao32 t383.length co32, .int .i64 t366] 31 (0, 0)) zq93 hb); have n9_ := Aside0.mk (below_step zq81 hb); clear HO_4; clear HO_6; clear HO_368001; clear HO_368002; clear HO391; clear HO394; clear BK346; clear BK367; clear HB; have HO_4 := n0_; have HO_6 := n1_; have HO_368001 := n2_; have HO_368002 := n3_; have HO391 := n4_; have HO394 := n5_; have HO398 := n6_; have BK346 := n7_; have BK367 := n8_; have HB := n9_; clear n0_ n1_ n2_ n3_ n4_ n5_ n6_ n7_ n8_ n9_; (try clear hb); (try clear hb2); (try clear hk); (try clear hi); (try clear ho0); obtain ⟨Ao87, co87, eo87⟩ := Kd.R_slice HO398.out; subst eo87) | ((with_reducible refine gate_callee (f := 26) rfl ?_); refine goesL_ (some 59) rfl rfl Try.func26 (by kernel_rfl) rfl #[.slice Ao87 t396.length co87, .slice Ao35 t356.length co35] rfl zq8 ?_; (with_reducible refine (laws_eqStringS.calls kj16 _ _ t396 _ _ t356 true _ ?side1 ?side2 ?side3 ?side4 A54.out).mono ?_); (case side1 => exact zq119); (case side2 => exact zq120); (case side3 => exact zq121); (case side4 => exact zq122); rintro e w' ⟨rfl, ⟨nd, rfl⟩⟩; refine ⟨_, rfl, ?_⟩) | ((with_reducible refine gate_callee (f := 29) rfl ?_); refine goesL_ (some 63) rfl rfl Try.func29 (by kernel_rfl) rfl #[.slice Ao34 t386.length co34, .int .i64 1] rfl zq106 ?_; (with_reducible refine (laws_heldStringS.calls kj16 _ _ t386 1 t400 _ ?side1 ?side2 A56.out).mono ?_); (case side1 => exact zq107); (case side2 => exact zq108); rintro e w88 ⟨rfl, hb⟩; refine ⟨_, rfl, ?_⟩; have n0_ := Aside0.mk (Kd.R_below zq109 hb); have n1_ := Aside0.mk (Kd.R_below zq110 hb); have n2_ := Aside0.mk (Kd.R_below zq111 hb); have n3_ := Aside0.mk (Kd.R_below zq112 hb); have n4_ := Aside0.mk (Kd.R_below zq117 hb); have n5_ := Aside0.mk (Kd.R_below zq118 hb); have n6_ := Aside0.mk (Kd.R_below zq123 hb); have n7_ := Aside0.mk (blk_below (g := gb346) (o := .cells #[.int .i64 a0_0, .slice A0_1 l0_1.length c0_1, .slice A0_2 l0_2.length c0_2, .int .i64 a0_3] 25 (0, 0)) zq65 hb); have n8_ := Aside0.mk (blk_below (g := gb367) (o := .cells #[.int .i64 t359, .slice Ao31 t382.length co31, .slice Ao32 t383.length co32, .int .i64 t366] 31 (0, 0)) zq93 hb); have n9_ := Aside0.mk (below_step zq81 hb); clear HO_4; clear HO_6; clear HO_368001; clear HO_368002; clear HO391; clear HO394; clear HO398; clear BK346; clear BK367; clear HB; have HO_4 := n0_; have HO_6 := n1_; have HO_368001 := n2_; have HO_368002 := n3_; have HO391 := n4_; have HO394 := n5_; have HO398 := n6_; have BK346 := n7_; have BK367 := n8_; have HB := n9_; clear n0_ n1_ n2_ n3_ n4_ n5_ n6_ n7_ n8_ n9_; (try clear hb); (try clear hb2); (try clear hk); (try clear hi)))
            go_ret
            exact ⟨zq4, zq81⟩
         ·
          replace c55 := Bool.eq_false_iff.mpr c55
          subst c55
          have H1 : (some false) = some r := by rw [if_neg (show ¬ (false = true) by decide)] at H; exact H
          clear H
          have H := H1
          clear H1
          obtain rfl := Option.some.inj H
          go_wp2_with (first | ((with_reducible refine gate_callee (f := 28) rfl ?_); refine goesL_ (some 45) rfl rfl Try.func28 (by kernel_rfl) rfl #[.slice Ao34 t368.length co34, .int .i64 1] rfl zq8 ?_; (with_reducible refine (laws_markStringS.calls kj16 (fun k_ => some k_ = (.slice Ao34 t368.length co34 : Value).ownBlock) (.slice Ao34 t368.length co34) t368 1 t385 t386 w _ ?side1 ?side2 A46.out).mono ?_); (case side1 => exact zq81); (case side2 => exact zq105); rintro e w89 ⟨rfl, hy0, hb, hkp⟩; refine ⟨_, rfl, ?_⟩; have n0_ := Aside0.mk (Kd.R_mono (ok' := fun k_ => some k_ ≠ (.slice Ao34 t368.length co34 : Value).ownBlock) (Kd.R_keptB (HO_4.out) hkp (fun k_ hk_ hs_ => (hk_) hs_)) (fun k_ hk_ => by first | exact hk_.1 | simp_all)); have n1_ := Aside0.mk (Kd.R_reok rfl hy0 (fun k_ e_ => HO_6.out.1 k_ e_)); have n2_ := Aside0.mk (Kd.R_mono (ok' := fun k_ => True) (Kd.R_keptB ((Kd.R_apart' HO_368001.out (Kd.R_typed HO_6.out) (by decide))) hkp (fun k_ hk_ hs_ => by first | exact (hk_.2) hs_ | simp_all)) (fun k_ hk_ => trivial)); have n3_ := Aside0.mk (Kd.R_mono (ok' := fun k_ => True) (Kd.R_keptB ((Kd.R_apart' HO_368002.out (Kd.R_typed HO_6.out) (by decide))) hkp (fun k_ hk_ hs_ => by first | exact (hk_.2) hs_ | simp_all)) (fun k_ hk_ => trivial)); have n4_ := Aside0.mk (blk_kept zq101 hkp (fun hs_ => (fun e_ => (Kd.R_ne HO_6.out BK346.out (by decide)) e_) hs_)); have n5_ := Aside0.mk (blk_kept zq102 hkp (fun hs_ => (fun e_ => (Kd.R_ne HO_6.out BK367.out (by decide)) e_) hs_)); have n6_ := Aside0.mk (hb); clear HO_4; clear HO_6; clear HO_368001; clear HO_368002; clear BK346; clear BK367; clear HB; have HO_4 := n0_; have HO_6 := n1_; have HO_368001 := n2_; have HO_368002 := n3_; have BK346 := n4_; have BK367 := n5_; have HB := n6_; clear n0_ n1_ n2_ n3_ n4_ n5_ n6_; (try clear hb); (try clear hkp); (try clear hy0)) | ((with_reducible refine gate_callee (f := 29) rfl ?_); refine goesL_ (some 48) rfl rfl Try.func29 (by kernel_rfl) rfl #[.slice Ao34 t386.length co34, .int .i64 1] rfl zq106 ?_; (with_reducible refine (laws_heldStringS.calls kj16 _ _ t386 1 t387 _ ?side1 ?side2 A47.out).mono ?_); (case side1 => exact zq107); (case side2 => exact zq108); rintro e w90 ⟨rfl, hb⟩; refine ⟨_, rfl, ?_⟩; have n0_ := Aside0.mk (Kd.R_below zq109 hb); have n1_ := Aside0.mk (Kd.R_below zq110 hb); have n2_ := Aside0.mk (Kd.R_below zq111 hb); have n3_ := Aside0.mk (Kd.R_below zq112 hb); have n4_ := Aside0.mk (blk_below (g := gb346) (o := .cells #[.int .i64 a0_0, .slice A0_1 l0_1.length c0_1, .slice A0_2 l0_2.length c0_2, .int .i64 a0_3] 25 (0, 0)) zq65 hb); have n5_ := Aside0.mk (blk_below (g := gb367) (o := .cells #[.int .i64 t359, .slice Ao31 t382.length co31, .slice Ao32 t383.length co32, .int .i64 t366] 31 (0, 0)) zq93 hb); have n6_ := Aside0.mk (below_step zq81 hb); clear HO_4; clear HO_6; clear HO_368001; clear HO_368002; clear BK346; clear BK367; clear HB; have HO_4 := n0_; have HO_6 := n1_; have HO_368001 := n2_; have HO_368002 := n3_; have BK346 := n4_; have BK367 := n5_; have HB := n6_; clear n0_ n1_ n2_ n3_ n4_ n5_ n6_; (try clear hb); (try clear hb2); (try clear hk); (try clear hi); have hnb91 := NB346_367.out; have hnc91 := NB367_346.out; have hcz92_0 : w90.cell? ⟨gb346, 0, none⟩ = some (.int .i64 a0_0) := (blk_cell BK346.out 0).trans rfl; have hcz92_1 : w90.cell? ⟨gb346, 1, none⟩ = some (.slice A0_1 l0_1.length c0_1) := (blk_cell BK346.out 1).trans rfl; have hcz92_2 : w90.cell? ⟨gb346, 2, none⟩ = some (.slice A0_2 l0_2.length c0_2) := (blk_cell BK346.out 2).trans rfl; have hcz92_3 : w90.cell? ⟨gb346, 3, none⟩ = some (.int .i64 a0_3) := (blk_cell BK346.out 3).trans rfl; have hfz92_0 := blk_frozen BK346.out 0; have hfz92_1 := blk_frozen BK346.out 1; have hfz92_2 := blk_frozen BK346.out 2; have hfz92_3 := blk_frozen BK346.out 3) | ((with_reducible refine gate_callee (f := 17) rfl ?_); refine goesL_ (some 55) rfl rfl Try.func17 (by kernel_rfl) rfl #[.agg #[.int .i64 a0_0, .slice A0_1 l0_1.length c0_1, .slice A0_2 l0_2.length c0_2, .int .i64 a0_3]] rfl zq8 ?_; (with_reducible refine (laws_toStore.calls kj16 a0_0 _ _ l0_1 _ _ l0_2 a0_3 t388 t389 t392 t395 _ ?side1 ?side2 ?side3 ?side4 A52.out).mono ?_); (case side1 => exact zq11); (case side2 => exact zq12); (case side3 => exact zq15); (case side4 => exact zq16); rintro e w93 ⟨v390, v393, rfl, ho0, ho1, hb⟩; refine ⟨_, rfl, ?_⟩; have n0_ := Aside0.mk (Kd.R_below zq109 hb); have n1_ := Aside0.mk (Kd.R_below zq110 hb); have n2_ := Aside0.mk (Kd.R_elder' zq111 (Kd.R_base ho0) hb); have n3_ := Aside0.mk (Kd.R_elder' zq112 (Kd.R_base ho1) hb); have n4_ := Aside0.mk (Kd.R_lower (Kd.R_new' ho0 (Kd.R_lt zq111)) (below_size zq81)); have n5_ := Aside0.mk (Kd.R_lower (Kd.R_new' ho1 (Kd.R_lt zq112)) (below_size zq81)); have n6_ := Aside0.mk (blk_below (g := gb346) (o := .cells #[.int .i64 a0_0, .slice A0_1 l0_1.length c0_1, .slice A0_2 l0_2.length c0_2, .int .i64 a0_3] 25 (0, 0)) zq65 hb); have n7_ := Aside0.mk (blk_below (g := gb367) (o := .cells #[.int .i64 t359, .slice Ao31 t382.length co31, .slice Ao32 t383.length co32, .int .i64 t366] 31 (0, 0)) zq93 hb); have n8_ := Aside0.mk (below_step zq81 hb); clear HO_4; clear HO_6; clear HO_368001; clear HO_368002; clear BK346; clear BK367; clear HB; have HO_4 := n0_; have HO_6 := n1_; have HO_368001 := n2_; have HO_368002 := n3_; have HO391 := n4_; have HO394 := n5_; have BK346 := n6_; have BK367 := n7_; have HB := n8_; clear n0_ n1_ n2_ n3_ n4_ n5_ n6_ n7_ n8_; (try clear hb); (try clear hb2); (try clear hk); (try clear hi); (try clear ho0); (try clear ho1); obtain ⟨Ao94, co94, eo94⟩ := Kd.R_slice HO391.out; subst eo94; obtain ⟨Ao95, co95, eo95⟩ := Kd.R_slice HO394.out; subst eo95) | ((with_reducible refine gate_callee (f := 25) rfl ?_); refine goesL_ (some 56) rfl rfl Try.func25 (by kernel_rfl) rfl #[.agg #[.int .i64 t388, .slice Ao94 t389.length co94, .slice Ao95 t392.length co95, .int .i64 t395]] rfl zq8 ?_; (with_reducible refine (impl_DigestsOf.calls kj16 t388 _ _ t389 _ _ t392 t395 t396 _ ?side1 ?side2 ?side3 ?side4 A53.out).mono ?_); (case side1 => exact zq113); (case side2 => exact zq114); (case side3 => exact zq115); (case side4 => exact zq116); rintro e w96 ⟨v397, rfl, ho0, hb⟩; refine ⟨_, rfl, ?_⟩; have n0_ := Aside0.mk (Kd.R_elder' zq109 (Kd.R_base ho0) hb); have n1_ := Aside0.mk (Kd.R_elder' zq110 (Kd.R_base ho0) hb); have n2_ := Aside0.mk (Kd.R_below zq111 hb); have n3_ := Aside0.mk (Kd.R_below zq112 hb); have n4_ := Aside0.mk (Kd.R_below zq117 hb); have n5_ := Aside0.mk (Kd.R_below zq118 hb); have n6_ := Aside0.mk (Kd.R_lower (Kd.R_new' (Kd.R_new' ho0 (Kd.R_lt zq109)) (Kd.R_lt zq110)) (below_size zq81)); have n7_ := Aside0.mk (blk_below (g := gb346) (o := .cells #[.int .i64 a0_0, .slice A0_1 l0_1.length c0_1, .slice A0_2 l0_2.length c0_2, .int .i64 a0_3] 25 (0, 0)) zq65 hb); have n8_ := Aside0.mk (blk_below (g := gb367) (o := .cells #[.int .i64 t359, .slice Ao31 t382.length co31, .slice Ao32 t383.length co32, .int .i64 t366] 31 (0, 0)) zq93 hb); have n9_ := Aside0.mk (below_step zq81 hb); clear HO_4; clear HO_6; clear HO_368001; clear HO_368002; clear HO391; clear HO394; clear BK346; clear BK367; clear HB; have HO_4 := n0_; have HO_6 := n1_; have HO_368001 := n2_; have HO_368002 := n3_; have HO391 := n4_; have HO394 := n5_; have HO398 := n6_; have BK346 := n7_; have BK367 := n8_; have HB := n9_; clear n0_ n1_ n2_ n3_ n4_ n5_ n6_ n7_ n8_ n9_; (try clear hb); (try clear hb2); (try clear hk); (try clear hi); (try clear ho0); obtain ⟨Ao97, co97, eo97⟩ := Kd.R_slice HO398.out; subst eo97) | ((with_reducible refine gate_callee (f := 26) rfl ?_); refine goesL_ (some 59) rfl rfl Try.func26 (by kernel_rfl) rfl #[.slice Ao97 t396.length co97, .slice Ao35 t356.length co35] rfl zq8 ?_; (with_reducible refine (laws_eqStringS.calls kj16 _ _ t396 _ _ t356 false _ ?side1 ?side2 ?side3 ?side4 A54.out).mono ?_); (case side1 => exact zq119); (case side2 => exact zq120); (case side3 => exact zq121); (case side4 => exact zq122); rintro e w' ⟨rfl, ⟨nd, rfl⟩⟩; refine ⟨_, rfl, ?_⟩))
          go_ret
          exact ⟨zq4, zq81⟩
        ·
         rw [if_neg c51] at H
         have c51b0 : (t387 == t385) = false := beq_eq_false_iff_ne.mpr c51
         have c51b1 : (t387 != t385) = true := bne_iff_ne.mpr c51
         obtain rfl := Option.some.inj H
         go_wp2_with (first | ((with_reducible refine gate_callee (f := 28) rfl ?_); refine goesL_ (some 45) rfl rfl Try.func28 (by kernel_rfl) rfl #[.slice Ao34 t368.length co34, .int .i64 1] rfl zq8 ?_; (with_reducible refine (laws_markStringS.calls kj16 (fun k_ => some k_ = (.slice Ao34 t368.length co34 : Value).ownBlock) (.slice Ao34 t368.length co34) t368 1 t385 t386 w _ ?side1 ?side2 A46.out).mono ?_); (case side1 => exact zq81); (case side2 => exact zq105); rintro e w98 ⟨rfl, hy0, hb, hkp⟩; refine ⟨_, rfl, ?_⟩; have n0_ := Aside0.mk (Kd.R_mono (ok' := fun k_ => some k_ ≠ (.slice Ao34 t368.length co34 : Value).ownBlock) (Kd.R_keptB (HO_4.out) hkp (fun k_ hk_ hs_ => (hk_) hs_)) (fun k_ hk_ => by first | exact hk_.1 | simp_all)); have n1_ := Aside0.mk (Kd.R_reok rfl hy0 (fun k_ e_ => HO_6.out.1 k_ e_)); have n2_ := Aside0.mk (Kd.R_mono (ok' := fun k_ => True) (Kd.R_keptB ((Kd.R_apart' HO_368001.out (Kd.R_typed HO_6.out) (by decide))) hkp (fun k_ hk_ hs_ => by first | exact (hk_.2) hs_ | simp_all)) (fun k_ hk_ => trivial)); have n3_ := Aside0.mk (Kd.R_mono (ok' := fun k_ => True) (Kd.R_keptB ((Kd.R_apart' HO_368002.out (Kd.R_typed HO_6.out) (by decide))) hkp (fun k_ hk_ hs_ => by first | exact (hk_.2) hs_ | simp_all)) (fun k_ hk_ => trivial)); have n4_ := Aside0.mk (blk_kept zq101 hkp (fun hs_ => (fun e_ => (Kd.R_ne HO_6.out BK346.out (by decide)) e_) hs_)); have n5_ := Aside0.mk (blk_kept zq102 hkp (fun hs_ => (fun e_ => (Kd.R_ne HO_6.out BK367.out (by decide)) e_) hs_)); have n6_ := Aside0.mk (hb); clear HO_4; clear HO_6; clear HO_368001; clear HO_368002; clear BK346; clear BK367; clear HB; have HO_4 := n0_; have HO_6 := n1_; have HO_368001 := n2_; have HO_368002 := n3_; have BK346 := n4_; have BK367 := n5_; have HB := n6_; clear n0_ n1_ n2_ n3_ n4_ n5_ n6_; (try clear hb); (try clear hkp); (try clear hy0)) | ((with_reducible refine gate_callee (f := 29) rfl ?_); refine goesL_ (some 48) rfl rfl Try.func29 (by kernel_rfl) rfl #[.slice Ao34 t386.length co34, .int .i64 1] rfl zq106 ?_; (with_reducible refine (laws_heldStringS.calls kj16 _ _ t386 1 t387 _ ?side1 ?side2 A47.out).mono ?_); (case side1 => exact zq107); (case side2 => exact zq108); rintro e w99 ⟨rfl, hb⟩; refine ⟨_, rfl, ?_⟩; have n0_ := Aside0.mk (Kd.R_below zq109 hb); have n1_ := Aside0.mk (Kd.R_below zq110 hb); have n2_ := Aside0.mk (Kd.R_below zq111 hb); have n3_ := Aside0.mk (Kd.R_below zq112 hb); have n4_ := Aside0.mk (blk_below (g := gb346) (o := .cells #[.int .i64 a0_0, .slice A0_1 l0_1.length c0_1, .slice A0_2 l0_2.length c0_2, .int .i64 a0_3] 25 (0, 0)) zq65 hb); have n5_ := Aside0.mk (blk_below (g := gb367) (o := .cells #[.int .i64 t359, .slice Ao31 t382.length co31, .slice Ao32 t383.length co32, .int .i64 t366] 31 (0, 0)) zq93 hb); have n6_ := Aside0.mk (below_step zq81 hb); clear HO_4; clear HO_6; clear HO_368001; clear HO_368002; clear BK346; clear BK367; clear HB; have HO_4 := n0_; have HO_6 := n1_; have HO_368001 := n2_; have HO_368002 := n3_; have BK346 := n4_; have BK367 := n5_; have HB := n6_; clear n0_ n1_ n2_ n3_ n4_ n5_ n6_; (try clear hb); (try clear hb2); (try clear hk); (try clear hi)))
         go_ret
         exact ⟨zq4, zq81⟩
   ·
    replace c15 := Bool.eq_false_iff.mpr c15
    subst c15
    have H1 : (some false) = some r := by rw [if_neg (show ¬ (false = true) by decide)] at H; exact H
    clear H
    have H := H1
    clear H1
    obtain rfl := Option.some.inj H
    go_enter Try.func6, Try.ntmps6
    try go_wp2_with (first | ((with_reducible refine gate_dst (N := 1) rfl ?_); refine box_event ?hg (N := 1) ?hd (cs := #[.int .i64 a0_0, .slice A0_1 l0_1.length c0_1, .slice A0_2 l0_2.length c0_2, .int .i64 a0_3]) (t := 25) ?hr ?_; (case hd => rfl); (case hg => rfl); (case hr => exact zq2); intro gb346 hg w100 hbox hb; have n0_ := Aside0.mk (below_step zq3 hb); have n1_ := Aside0.mk (hbox); have n2_ := Aside0.mk ((zq179 : w.heap.size ≤ gb346)); have n3_ := Aside0.mk ((zq179 : w.heap.size ≤ gb346)); clear HB; have HB := n0_; have BK346 := n1_; have GW346 := n2_; have GE346 := n3_; clear n0_ n1_ n2_ n3_; clear hb hbox hg; have hcz101_0 : w100.cell? ⟨gb346, 0, none⟩ = some (.int .i64 a0_0) := (blk_cell BK346.out 0).trans rfl; have hcz101_1 : w100.cell? ⟨gb346, 1, none⟩ = some (.slice A0_1 l0_1.length c0_1) := (blk_cell BK346.out 1).trans rfl; have hcz101_2 : w100.cell? ⟨gb346, 2, none⟩ = some (.slice A0_2 l0_2.length c0_2) := (blk_cell BK346.out 2).trans rfl; have hcz101_3 : w100.cell? ⟨gb346, 3, none⟩ = some (.int .i64 a0_3) := (blk_cell BK346.out 3).trans rfl; have hfz101_0 := blk_frozen BK346.out 0; have hfz101_1 := blk_frozen BK346.out 1; have hfz101_2 := blk_frozen BK346.out 2; have hfz101_3 := blk_frozen BK346.out 3) | ((with_reducible refine gate_callee (f := 15) rfl ?_); refine goesL_ (some 13) rfl rfl Try.func15 (by kernel_rfl) rfl #[.agg #[.int .i64 a0_0, .slice A0_1 l0_1.length c0_1, .slice A0_2 l0_2.length c0_2, .int .i64 a0_3], .int .i64 1048576] rfl zq8 ?_; (with_reducible refine (laws_szStore.calls k a0_0 _ _ l0_1 _ _ l0_2 a0_3 1048576 t347 _ ?side1 ?side2 ?side3 ?side4 A2.out).mono ?_); (case side1 => exact zq11); (case side2 => exact zq12); (case side3 => exact zq15); (case side4 => exact zq16); rintro e w102 ⟨rfl, hb⟩; refine ⟨_, rfl, ?_⟩; have n0_ := Aside0.mk (blk_below (g := gb346) (o := .cells #[.int .i64 a0_0, .slice A0_1 l0_1.length c0_1, .slice A0_2 l0_2.length c0_2, .int .i64 a0_3] 25 (0, 0)) zq65 hb); have n1_ := Aside0.mk (below_step zq66 hb); clear BK346; clear HB; have BK346 := n0_; have HB := n1_; clear n0_ n1_; (try clear hb); (try clear hb2); (try clear hk); (try clear hi); have hcz103_0 : w102.cell? ⟨gb346, 0, none⟩ = some (.int .i64 a0_0) := (blk_cell BK346.out 0).trans rfl; have hcz103_1 : w102.cell? ⟨gb346, 1, none⟩ = some (.slice A0_1 l0_1.length c0_1) := (blk_cell BK346.out 1).trans rfl; have hcz103_2 : w102.cell? ⟨gb346, 2, none⟩ = some (.slice A0_2 l0_2.length c0_2) := (blk_cell BK346.out 2).trans rfl; have hcz103_3 : w102.cell? ⟨gb346, 3, none⟩ = some (.int .i64 a0_3) := (blk_cell BK346.out 3).trans rfl; have hfz103_0 := blk_frozen BK346.out 0; have hfz103_1 := blk_frozen BK346.out 1; have hfz103_2 := blk_frozen BK346.out 2; have hfz103_3 := blk_frozen BK346.out 3) | ((with_reducible refine gate_callee (f := 17) rfl ?_); refine goesL_ (some 17) rfl rfl Try.func17 (by kernel_rfl) rfl #[.agg #[.int .i64 a0_0, .slice A0_1 l0_1.length c0_1, .slice A0_2 l0_2.length c0_2, .int .i64 a0_3]] rfl zq8 ?_; (with_reducible refine (laws_toStore.calls k a0_0 _ _ l0_1 _ _ l0_2 a0_3 t348 t349 t352 t355 _ ?side1 ?side2 ?side3 ?side4 A7.out).mono ?_); (case side1 => exact zq11); (case side2 => exact zq12); (case side3 => exact zq15); (case side4 => exact zq16); rintro e w104 ⟨v350, v353, rfl, ho0, ho1, hb⟩; refine ⟨_, rfl, ?_⟩; have n0_ := Aside0.mk (Kd.R_lower ho0 (below_size zq66)); have n1_ := Aside0.mk (Kd.R_lower ho1 (below_size zq66)); have n2_ := Aside0.mk (blk_below (g := gb346) (o := .cells #[.int .i64 a0_0, .slice A0_1 l0_1.length c0_1, .slice A0_2 l0_2.length c0_2, .int .i64 a0_3] 25 (0, 0)) zq65 hb); have n3_ := Aside0.mk (below_step zq66 hb); clear BK346; clear HB; have HO351 := n0_; have HO354 := n1_; have BK346 := n2_; have HB := n3_; clear n0_ n1_ n2_ n3_; (try clear hb); (try clear hb2); (try clear hk); (try clear hi); (try clear ho0); (try clear ho1); obtain ⟨Ao105, co105, eo105⟩ := Kd.R_slice HO351.out; subst eo105; obtain ⟨Ao106, co106, eo106⟩ := Kd.R_slice HO354.out; subst eo106) | ((with_reducible refine gate_callee (f := 24) rfl ?_); refine goesL_ (some 18) rfl rfl Try.func24 (by kernel_rfl) rfl #[.agg #[.int .i64 t348, .slice Ao105 t349.length co105, .slice Ao106 t352.length co106, .int .i64 t355]] rfl zq8 ?_; (with_reducible refine (spec_DigestsOf.calls k t348 _ _ t349 _ _ t352 t355 t356 _ ?side1 ?side2 ?side3 ?side4 A8.out).mono ?_); (case side1 => exact zq67); (case side2 => exact zq68); (case side3 => exact zq69); (case side4 => exact zq70); rintro e w107 ⟨v357, rfl, ho0, hb⟩; refine ⟨_, rfl, ?_⟩; have n0_ := Aside0.mk (Kd.R_below zq71 hb); have n1_ := Aside0.mk (Kd.R_below zq72 hb); have n2_ := Aside0.mk (Kd.R_lower ho0 (below_size zq66)); have n3_ := Aside0.mk (blk_below (g := gb346) (o := .cells #[.int .i64 a0_0, .slice A0_1 l0_1.length c0_1, .slice A0_2 l0_2.length c0_2, .int .i64 a0_3] 25 (0, 0)) zq65 hb); have n4_ := Aside0.mk (below_step zq66 hb); clear HO351; clear HO354; clear BK346; clear HB; have HO351 := n0_; have HO354 := n1_; have HO358 := n2_; have BK346 := n3_; have HB := n4_; clear n0_ n1_ n2_ n3_ n4_; (try clear hb); (try clear hb2); (try clear hk); (try clear hi); (try clear ho0); have hcz108_0 : w107.cell? ⟨gb346, 0, none⟩ = some (.int .i64 a0_0) := (blk_cell BK346.out 0).trans rfl; have hcz108_1 : w107.cell? ⟨gb346, 1, none⟩ = some (.slice A0_1 l0_1.length c0_1) := (blk_cell BK346.out 1).trans rfl; have hcz108_2 : w107.cell? ⟨gb346, 2, none⟩ = some (.slice A0_2 l0_2.length c0_2) := (blk_cell BK346.out 2).trans rfl; have hcz108_3 : w107.cell? ⟨gb346, 3, none⟩ = some (.int .i64 a0_3) := (blk_cell BK346.out 3).trans rfl; have hfz108_0 := blk_frozen BK346.out 0; have hfz108_1 := blk_frozen BK346.out 1; have hfz108_2 := blk_frozen BK346.out 2; have hfz108_3 := blk_frozen BK346.out 3) | ((with_reducible refine gate_callee (f := 17) rfl ?_); refine goesL_ (some 20) rfl rfl Try.func17 (by kernel_rfl) rfl #[.agg #[.int .i64 a0_0, .slice A0_1 l0_1.length c0_1, .slice A0_2 l0_2.length c0_2, .int .i64 a0_3]] rfl zq8 ?_; (with_reducible refine (laws_toStore.calls k a0_0 _ _ l0_1 _ _ l0_2 a0_3 t359 t360 t363 t366 _ ?side1 ?side2 ?side3 ?side4 A9.out).mono ?_); (case side1 => exact zq11); (case side2 => exact zq12); (case side3 => exact zq15); (case side4 => exact zq16); rintro e w109 ⟨v361, v364, rfl, ho0, ho1, hb⟩; refine ⟨_, rfl, ?_⟩; have n0_ := Aside0.mk (Kd.R_elder' zq71 (Kd.R_base ho0) hb); have n1_ := Aside0.mk (Kd.R_elder' zq72 (Kd.R_base ho1) hb); have n2_ := Aside0.mk (Kd.R_below zq73 hb); have n3_ := Aside0.mk (Kd.R_lower (Kd.R_new' ho0 (Kd.R_lt zq71)) (below_size zq66)); have n4_ := Aside0.mk (Kd.R_lower (Kd.R_new' ho1 (Kd.R_lt zq72)) (below_size zq66)); have n5_ := Aside0.mk (blk_below (g := gb346) (o := .cells #[.int .i64 a0_0, .slice A0_1 l0_1.length c0_1, .slice A0_2 l0_2.length c0_2, .int .i64 a0_3] 25 (0, 0)) zq65 hb); have n6_ := Aside0.mk (below_step zq66 hb); clear HO351; clear HO354; clear HO358; clear BK346; clear HB; have HO351 := n0_; have HO354 := n1_; have HO358 := n2_; have HO362 := n3_; have HO365 := n4_; have BK346 := n5_; have HB := n6_; clear n0_ n1_ n2_ n3_ n4_ n5_ n6_; (try clear hb); (try clear hb2); (try clear hk); (try clear hi); (try clear ho0); (try clear ho1)) | ((with_reducible refine gate_dst (N := 5) rfl ?_); refine box_event ?hg (N := 5) ?hd (cs := #[.int .i64 0, .slice none 0 0, .slice none 0 0, .int .i64 0]) (t := 31) ?hr ?_; (case hd => rfl); (case hg => rfl); (case hr => exact zq2); intro gb367 hg w110 hbox hb; have n0_ := Aside0.mk (Kd.R_below zq71 hb); have n1_ := Aside0.mk (Kd.R_below zq72 hb); have n2_ := Aside0.mk (Kd.R_below zq73 hb); have n3_ := Aside0.mk (Kd.R_below zq74 hb); have n4_ := Aside0.mk (Kd.R_below zq75 hb); have n5_ := Aside0.mk (blk_below (g := gb346) (o := .cells #[.int .i64 a0_0, .slice A0_1 l0_1.length c0_1, .slice A0_2 l0_2.length c0_2, .int .i64 a0_3] 25 (0, 0)) zq65 hb); have n6_ := Aside0.mk (below_step zq66 hb); have n7_ := Aside0.mk (hbox); have n8_ := Aside0.mk ((zq196 : w.heap.size ≤ gb367)); have n9_ := Aside0.mk ((zq196 : w.heap.size ≤ gb367)); have n10_ := Aside0.mk ((zq197 : gb346 ≠ gb367)); have n11_ := Aside0.mk ((zq198 : gb367 ≠ gb346)); clear HO351; clear HO354; clear HO358; clear HO362; clear HO365; clear BK346; clear HB; have HO351 := n0_; have HO354 := n1_; have HO358 := n2_; have HO362 := n3_; have HO365 := n4_; have BK346 := n5_; have HB := n6_; have BK367 := n7_; have GW367 := n8_; have GE367 := n9_; have NB346_367 := n10_; have NB367_346 := n11_; clear n0_ n1_ n2_ n3_ n4_ n5_ n6_ n7_ n8_ n9_ n10_ n11_; clear hb hbox hg; have hnb111 := NB367_346.out; have hnc111 := NB346_367.out; have hcz112_0 : w110.cell? ⟨gb367, 0, none⟩ = some (.int .i64 0) := (blk_cell BK367.out 0).trans rfl; have hcz112_1 : w110.cell? ⟨gb367, 1, none⟩ = some (.slice none 0 0) := (blk_cell BK367.out 1).trans rfl; have hcz112_2 : w110.cell? ⟨gb367, 2, none⟩ = some (.slice none 0 0) := (blk_cell BK367.out 2).trans rfl; have hcz112_3 : w110.cell? ⟨gb367, 3, none⟩ = some (.int .i64 0) := (blk_cell BK367.out 3).trans rfl; have hfz112_0 := blk_frozen BK367.out 0; have hfz112_1 := blk_frozen BK367.out 1; have hfz112_2 := blk_frozen BK367.out 2; have hfz112_3 := blk_frozen BK367.out 3; obtain ⟨Ao113, co113, eo113⟩ := Kd.R_slice HO362.out; subst eo113; obtain ⟨Ao114, co114, eo114⟩ := Kd.R_slice HO365.out; subst eo114) | ((with_reducible refine gate_callee (f := 25) rfl ?_); refine goesL_ (some 22) rfl rfl Try.func25 (by kernel_rfl) rfl #[.agg #[.int .i64 t359, .slice Ao113 t360.length co113, .slice Ao114 t363.length co114, .int .i64 t366]] rfl zq8 ?_; (with_reducible refine (impl_DigestsOf.calls k t359 _ _ t360 _ _ t363 t366 t368 _ ?side1 ?side2 ?side3 ?side4 A10.out).mono ?_); (case side1 => refine (Kd.R_reads' (e := 66) (base := w.heap.size) (ok := fun k_ => (True ∧ some k_ ≠ (.slice Ao105 t349.length co105 : Value).ownBlock)) (n := t360.length) (c := co113) ?_).2.2; exact zq124); (case side2 => exact zq77); (case side3 => refine (Kd.R_reads' (e := 68) (base := w.heap.size) (ok := fun k_ => (True ∧ some k_ ≠ (.slice Ao106 t352.length co106 : Value).ownBlock)) (n := t363.length) (c := co114) ?_).2.2; exact zq125); (case side4 => exact zq79); rintro e w115 ⟨v369, rfl, ho0, hb⟩; refine ⟨_, rfl, ?_⟩; have n0_ := Aside0.mk (Kd.R_below (by (with_reducible repeat (first | apply Kd.R_alloc | apply Kd.R_drewN | apply Kd.R_drew)); exact (Kd.R_mono (Kd.R_far (p := ⟨gb367, 3, none⟩) (Kd.R_far (p := ⟨gb367, 2, none⟩) (Kd.R_far (p := ⟨gb367, 1, none⟩) (Kd.R_far (p := ⟨gb367, 0, none⟩) (Kd.R_types HO351.out BK367.out (by decide)) (fun _ hk => hk.2) (.int .i64 t359)) (fun _ hk => hk.2) (.slice Ao113 t360.length co113)) (fun _ hk => hk.2) (.slice Ao114 t363.length co114)) (fun _ hk => hk.2) (.int .i64 t366)) (fun _ h_ => h_.1))) hb); have n1_ := Aside0.mk (Kd.R_below (by (with_reducible repeat (first | apply Kd.R_alloc | apply Kd.R_drewN | apply Kd.R_drew)); exact (Kd.R_mono (Kd.R_far (p := ⟨gb367, 3, none⟩) (Kd.R_far (p := ⟨gb367, 2, none⟩) (Kd.R_far (p := ⟨gb367, 1, none⟩) (Kd.R_far (p := ⟨gb367, 0, none⟩) (Kd.R_types HO354.out BK367.out (by decide)) (fun _ hk => hk.2) (.int .i64 t359)) (fun _ hk => hk.2) (.slice Ao113 t360.length co113)) (fun _ hk => hk.2) (.slice Ao114 t363.length co114)) (fun _ hk => hk.2) (.int .i64 t366)) (fun _ h_ => h_.1))) hb); have n2_ := Aside0.mk (Kd.R_elder' zq126 (Kd.R_base ho0) hb); have n3_ := Aside0.mk (Kd.R_below zq124 hb); have n4_ := Aside0.mk (Kd.R_below zq125 hb); have n5_ := Aside0.mk (Kd.R_lower (Kd.R_new' ho0 (Kd.R_lt zq126)) (below_size zq81)); have n6_ := Aside0.mk (blk_below (g := gb346) (o := .cells #[.int .i64 a0_0, .slice A0_1 l0_1.length c0_1, .slice A0_2 l0_2.length c0_2, .int .i64 a0_3] 25 (0, 0)) zq82 hb); have n7_ := Aside0.mk (blk_below (g := gb367) (o := .cells #[.int .i64 t359, .slice Ao113 t360.length co113, .slice Ao114 t363.length co114, .int .i64 t366] 31 (0, 0)) (by (with_reducible repeat (first | refine blk_drewN ?_ _ | refine blk_drew ?_ | refine blk_alloc ?_ _)); refine blk_put (cs := #[.int .i64 t359, .slice Ao113 t360.length co113, .slice Ao114 t363.length co114, .int .i64 0]) ?_ 3 _ rfl; (with_reducible repeat (first | refine blk_drewN ?_ _ | refine blk_drew ?_ | refine blk_alloc ?_ _)); refine blk_put (cs := #[.int .i64 t359, .slice Ao113 t360.length co113, .slice none 0 0, .int .i64 0]) ?_ 2 _ rfl; (with_reducible repeat (first | refine blk_drewN ?_ _ | refine blk_drew ?_ | refine blk_alloc ?_ _)); refine blk_put (cs := #[.int .i64 t359, .slice none 0 0, .slice none 0 0, .int .i64 0]) ?_ 1 _ rfl; (with_reducible repeat (first | refine blk_drewN ?_ _ | refine blk_drew ?_ | refine blk_alloc ?_ _)); refine blk_put (cs := #[.int .i64 0, .slice none 0 0, .slice none 0 0, .int .i64 0]) ?_ 0 _ rfl; (with_reducible repeat (first | refine blk_drewN ?_ _ | refine blk_drew ?_ | refine blk_alloc ?_ _)); exact BK367.out) hb); have n8_ := Aside0.mk (below_step zq81 hb); clear HO351; clear HO354; clear HO358; clear HO362; clear HO365; clear BK346; clear BK367; clear HB; have HO351 := n0_; have HO354 := n1_; have HO358 := n2_; have HO362 := n3_; have HO365 := n4_; have HO370 := n5_; have BK346 := n6_; have BK367 := n7_; have HB := n8_; clear n0_ n1_ n2_ n3_ n4_ n5_ n6_ n7_ n8_; (try clear hb); (try clear hb2); (try clear hk); (try clear hi); (try clear ho0); obtain ⟨Ao116, co116, eo116⟩ := Kd.R_slice HO370.out; subst eo116; obtain ⟨Ao117, co117, eo117⟩ := Kd.R_slice HO358.out; subst eo117) | ((with_reducible refine gate_callee (f := 26) rfl ?_); refine goesL_ (some 25) rfl rfl Try.func26 (by kernel_rfl) rfl #[.slice Ao116 t368.length co116, .slice Ao117 t356.length co117] rfl zq8 ?_; (with_reducible refine (laws_eqStringS.calls k _ _ t368 _ _ t356 true _ ?side1 ?side2 ?side3 ?side4 A11.out).mono ?_); (case side1 => exact zq83); (case side2 => exact zq84); (case side3 => exact zq85); (case side4 => exact zq86); rintro e w' ⟨rfl, ⟨nd, rfl⟩⟩; refine ⟨_, rfl, ?_⟩))
    repeat (rw [drewN_self w115]; generalize hq_ : World.drewN w115 _ = w115; have n0_ : Aside0 (Kd.R k66 66 w115 w.heap.size (fun k_ => some k_ ≠ (.slice Ao113 t360.length co113 : Value).ownBlock) (.slice Ao105 t349.length co105) t349) := ⟨by rw [← hq_]; exact zq87⟩; have n1_ : Aside0 (Kd.R k68 68 w115 w.heap.size (fun k_ => some k_ ≠ (.slice Ao114 t363.length co114 : Value).ownBlock) (.slice Ao106 t352.length co106) t352) := ⟨by rw [← hq_]; exact zq88⟩; have n2_ : Aside0 (Kd.R Kd.string 9 w115 w.heap.size (fun k_ => some k_ ≠ (.slice Ao116 t368.length co116 : Value).ownBlock) (.slice Ao117 t356.length co117) t356) := ⟨by rw [← hq_]; exact zq89⟩; have n3_ : Aside0 (Kd.R k66 66 w115 w.heap.size (fun k_ => some k_ ≠ (.slice Ao105 t349.length co105 : Value).ownBlock) (.slice Ao113 t360.length co113) t360) := ⟨by rw [← hq_]; exact zq90⟩; have n4_ : Aside0 (Kd.R k68 68 w115 w.heap.size (fun k_ => some k_ ≠ (.slice Ao106 t352.length co106 : Value).ownBlock) (.slice Ao114 t363.length co114) t363) := ⟨by rw [← hq_]; exact zq91⟩; have n5_ : Aside0 (Kd.R Kd.string 9 w115 w.heap.size (fun k_ => some k_ ≠ (.slice Ao117 t356.length co117 : Value).ownBlock) (.slice Ao116 t368.length co116) t368) := ⟨by rw [← hq_]; exact zq92⟩; have n6_ : Aside0 (w115.heap[gb346]? = some (.cells #[.int .i64 a0_0, .slice A0_1 l0_1.length c0_1, .slice A0_2 l0_2.length c0_2, .int .i64 a0_3] 25 (0, 0))) := ⟨by rw [← hq_]; exact zq65⟩; have n7_ : Aside0 (w115.heap[gb367]? = some (.cells #[.int .i64 t359, .slice Ao113 t360.length co113, .slice Ao114 t363.length co114, .int .i64 t366] 31 (0, 0))) := ⟨by rw [← hq_]; exact zq93⟩; have n8_ : Aside0 (Below w.heap.size w w115) := ⟨by rw [← hq_]; exact zq81⟩; clear HO351 HO354 HO358 HO362 HO365 HO370 BK346 BK367 HB hq_; have HO351 := n0_; have HO354 := n1_; have HO358 := n2_; have HO362 := n3_; have HO365 := n4_; have HO370 := n5_; have BK346 := n6_; have BK367 := n7_; have HB := n8_; clear n0_ n1_ n2_ n3_ n4_ n5_ n6_ n7_ n8_)
    have n0_ := Aside0.mk (Kd.R_drew HO351.out)
    have n1_ := Aside0.mk (Kd.R_drew HO354.out)
    have n2_ := Aside0.mk (Kd.R_drew HO358.out)
    have n3_ := Aside0.mk (Kd.R_drew HO362.out)
    have n4_ := Aside0.mk (Kd.R_drew HO365.out)
    have n5_ := Aside0.mk (Kd.R_drew HO370.out)
    have n6_ := Aside0.mk (blk_drew BK346.out)
    have n7_ := Aside0.mk (blk_drew BK367.out)
    have n8_ := Aside0.mk (below_drew1 HB.out)
    clear HO351
    clear HO354
    clear HO358
    clear HO362
    clear HO365
    clear HO370
    clear BK346
    clear BK367
    clear HB
    have HO351 := n0_
    have HO354 := n1_
    have HO358 := n2_
    have HO362 := n3_
    have HO365 := n4_
    have HO370 := n5_
    have BK346 := n6_
    have BK367 := n7_
    have HB := n8_
    clear n0_ n1_ n2_ n3_ n4_ n5_ n6_ n7_ n8_
    refine start_ (n := 5) (S := fun w' => w'.cell? ⟨gb367, 0, none⟩ = some (.int .i64 t359) ∧ w'.cell? ⟨gb367, 1, none⟩ = some (.slice Ao113 t360.length co113) ∧ w'.cell? ⟨gb367, 2, none⟩ = some (.slice Ao114 t363.length co114) ∧ w'.cell? ⟨gb367, 3, none⟩ = some (.int .i64 t366) ∧ w'.cell? ⟨gb346, 0, none⟩ = some (.int .i64 a0_0) ∧ w'.cell? ⟨gb346, 1, none⟩ = some (.slice A0_1 l0_1.length c0_1) ∧ w'.cell? ⟨gb346, 2, none⟩ = some (.slice A0_2 l0_2.length c0_2) ∧ w'.cell? ⟨gb346, 3, none⟩ = some (.int .i64 a0_3)) (ds := []) #[false, false, false, false, false] (by kernel_rfl) rfl rfl ⟨(blk_cell BK367.out 0).trans rfl, (blk_cell BK367.out 1).trans rfl, (blk_cell BK367.out 2).trans rfl, (blk_cell BK367.out 3).trans rfl, (blk_cell BK346.out 0).trans rfl, (blk_cell BK346.out 1).trans rfl, (blk_cell BK346.out 2).trans rfl, (blk_cell BK346.out 3).trans rfl⟩ (fun hHeld => ?_)
    generalize w115.drew = w118 at HO351 HO354 HO358 HO362 HO365 HO370 BK346 BK367 HB hHeld ⊢
    refine take_ (i := 0) (N := some 27) (v := ?_) (a' := ?_) #[true, false, false, false, false] rfl rfl (by kernel_rfl) (fun _ _ _ h => h) (Or.inl ⟨by rfl, ?_⟩) hHeld ?_ ?_
    rotate_left
    exact zq220
    rotate_left
    exact zq217
    refine take_ (i := 1) (N := some 28) (v := ?_) (a' := ?_) #[true, true, false, false, false] rfl rfl (by kernel_rfl) (fun _ _ _ h => h) (Or.inl ⟨by rfl, ?_⟩) hHeld ?_ ?_
    rotate_left
    exact zq220
    rotate_left
    exact zq217
    refine one_ (i := 2) (N := some 29) #[true, true, true, false, false] rfl rfl (by kernel_rfl) (by decide) (fun K hK => ?_)
    refine goes_ Try.func17 (by kernel_rfl) rfl #[.agg #[.int .i64 a0_0, .slice A0_1 l0_1.length c0_1, .slice A0_2 l0_2.length c0_2, .int .i64 a0_3]] (by rfl) rfl rfl zq8 ?_
    with_reducible refine (laws_toStore.calls k a0_0 _ _ l0_1 _ _ l0_2 a0_3 t372 t373 t376 t379 _ ?side1 ?side2 ?side3 ?side4 A13.out).mono ?_
    (case side1 => exact zq11)
    (case side2 => exact zq12)
    (case side3 => exact zq15)
    (case side4 => exact zq16)
    rintro e w119 ⟨v374, v377, rfl, ho0, ho1, hb⟩
    refine ⟨_, rfl, ?_⟩
    have n0_ := Aside0.mk (Kd.R_elder' zq71 (Kd.R_base ho0) hb)
    have n1_ := Aside0.mk (Kd.R_elder' zq72 (Kd.R_base ho1) hb)
    have n2_ := Aside0.mk (Kd.R_below zq73 hb)
    have n3_ := Aside0.mk (Kd.R_elder' zq74 (Kd.R_base ho0) hb)
    have n4_ := Aside0.mk (Kd.R_elder' zq75 (Kd.R_base ho1) hb)
    have n5_ := Aside0.mk (Kd.R_below zq94 hb)
    have n6_ := Aside0.mk (Kd.R_lower (Kd.R_new' (Kd.R_new' ho0 (Kd.R_lt zq71)) (Kd.R_lt zq74)) (below_size zq81))
    have n7_ := Aside0.mk (Kd.R_lower (Kd.R_new' (Kd.R_new' ho1 (Kd.R_lt zq72)) (Kd.R_lt zq75)) (below_size zq81))
    have n8_ := Aside0.mk (blk_below (g := gb346) (o := .cells #[.int .i64 a0_0, .slice A0_1 l0_1.length c0_1, .slice A0_2 l0_2.length c0_2, .int .i64 a0_3] 25 (0, 0)) zq65 hb)
    have n9_ := Aside0.mk (blk_below (g := gb367) (o := .cells #[.int .i64 t359, .slice Ao113 t360.length co113, .slice Ao114 t363.length co114, .int .i64 t366] 31 (0, 0)) zq93 hb)
    have n10_ := Aside0.mk (below_step zq81 hb)
    clear HO351
    clear HO354
    clear HO358
    clear HO362
    clear HO365
    clear HO370
    clear BK346
    clear BK367
    clear HB
    have HO351 := n0_
    have HO354 := n1_
    have HO358 := n2_
    have HO362 := n3_
    have HO365 := n4_
    have HO370 := n5_
    have HO375 := n6_
    have HO378 := n7_
    have BK346 := n8_
    have BK367 := n9_
    have HB := n10_
    clear n0_ n1_ n2_ n3_ n4_ n5_ n6_ n7_ n8_ n9_ n10_
    (try clear hb)
    (try clear hb2)
    (try clear hk)
    (try clear hi)
    (try clear ho0)
    (try clear ho1)
    obtain ⟨Ao120, co120, eo120⟩ := Kd.R_slice HO375.out
    (first | subst eo120 | (injection eo120 with f1_ f2_ f3_; have f4_ := f1_.symm; have f5_ := f3_.symm; clear f1_ f2_ f3_; subst f4_; subst f5_))
    obtain ⟨Ao121, co121, eo121⟩ := Kd.R_slice HO378.out
    (first | subst eo121 | (injection eo121 with f1_ f2_ f3_; have f4_ := f1_.symm; have f5_ := f3_.symm; clear f1_ f2_ f3_; subst f4_; subst f5_))
    refine hK.out _ _ ⟨(blk_cell BK367.out 0).trans rfl, (blk_cell BK367.out 1).trans rfl, (blk_cell BK367.out 2).trans rfl, (blk_cell BK367.out 3).trans rfl, (blk_cell BK346.out 0).trans rfl, (blk_cell BK346.out 1).trans rfl, (blk_cell BK346.out 2).trans rfl, (blk_cell BK346.out 3).trans rfl⟩ (fun hHeld => ?_)
    clear hK K
    refine norm_ (a' := ?_) ?_ ?_
    rotate_left
    ·
     show Act.put _ (some 29) _ = _
     simp only [Act.put, List.setIfInBounds_toArray, List.set_cons_zero, List.set_cons_succ, i64_w, i32_w]
     rfl
    refine one_ (i := 3) (N := some 30) #[true, true, true, true, false] rfl rfl (by kernel_rfl) (by decide) (fun K hK => ?_)
    refine goes_ Try.func19 (by kernel_rfl) rfl #[.agg #[.int .i64 t359, .slice Ao113 t360.length co113, .slice Ao114 t363.length co114, .int .i64 t366], .agg #[.int .i64 t372, .slice Ao120 t373.length co120, .slice Ao121 t376.length co121, .int .i64 t379]] (by rfl) rfl rfl zq8 ?_
    with_reducible refine (laws_eqStore.calls k t359 _ _ t360 _ _ t363 t366 t372 _ _ t373 _ _ t376 t379 false _ ?side1 ?side2 ?side3 ?side4 ?side5 ?side6 ?side7 ?side8 A14.out).mono ?_
    (case side1 => exact zq95)
    (case side2 => exact zq77)
    (case side3 => exact zq96)
    (case side4 => exact zq79)
    (case side5 => exact zq97)
    (case side6 => exact (Kd.R_reads' HO375.out).2.1)
    (case side7 => exact zq98)
    (case side8 => exact (Kd.R_reads' HO378.out).2.1)
    rintro e w122 ⟨rfl, hb⟩
    refine ⟨_, rfl, ?_⟩
    have n0_ := Aside0.mk (Kd.R_below zq71 hb)
    have n1_ := Aside0.mk (Kd.R_below zq72 hb)
    have n2_ := Aside0.mk (Kd.R_below zq73 hb)
    have n3_ := Aside0.mk (Kd.R_below zq74 hb)
    have n4_ := Aside0.mk (Kd.R_below zq75 hb)
    have n5_ := Aside0.mk (Kd.R_below zq94 hb)
    have n6_ := Aside0.mk (Kd.R_below zq99 hb)
    have n7_ := Aside0.mk (Kd.R_below zq100 hb)
    have n8_ := Aside0.mk (blk_below (g := gb346) (o := .cells #[.int .i64 a0_0, .slice A0_1 l0_1.length c0_1, .slice A0_2 l0_2.length c0_2, .int .i64 a0_3] 25 (0, 0)) zq65 hb)
    have n9_ := Aside0.mk (blk_below (g := gb367) (o := .cells #[.int .i64 t359, .slice Ao113 t360.length co113, .slice Ao114 t363.length co114, .int .i64 t366] 31 (0, 0)) zq93 hb)
    have n10_ := Aside0.mk (below_step zq81 hb)
    clear HO351
    clear HO354
    clear HO358
    clear HO362
    clear HO365
    clear HO370
    clear HO375
    clear HO378
    clear BK346
    clear BK367
    clear HB
    have HO351 := n0_
    have HO354 := n1_
    have HO358 := n2_
    have HO362 := n3_
    have HO365 := n4_
    have HO370 := n5_
    have HO375 := n6_
    have HO378 := n7_
    have BK346 := n8_
    have BK367 := n9_
    have HB := n10_
    clear n0_ n1_ n2_ n3_ n4_ n5_ n6_ n7_ n8_ n9_ n10_
    (try clear hb)
    (try clear hb2)
    (try clear hk)
    (try clear hi)
    refine hK.out _ _ ⟨(blk_cell BK367.out 0).trans rfl, (blk_cell BK367.out 1).trans rfl, (blk_cell BK367.out 2).trans rfl, (blk_cell BK367.out 3).trans rfl, (blk_cell BK346.out 0).trans rfl, (blk_cell BK346.out 1).trans rfl, (blk_cell BK346.out 2).trans rfl, (blk_cell BK346.out 3).trans rfl⟩ (fun hHeld => ?_)
    clear hK K
    refine norm_ (a' := ?_) ?_ ?_
    rotate_left
    exact zq230
    refine pure_ (i := 4) (N := some 31) (v := ?_) (a' := ?_) #[true, true, true, true, true] rfl rfl (by kernel_rfl) (fun _ _ _ h => h) (Or.inl ⟨by rfl, ?_⟩) ?_ ?_
    rotate_left
    exact zq216
    rotate_left
    exact zq217
    refine done_ (by kernel_rfl) ?_
    try go_wp2
    go_ret
    exact ⟨zq4, zq81⟩
  ·
   replace c12 := Bool.eq_false_iff.mpr c12
   subst c12
   have H1 : (some false) = some r := by rw [if_neg (show ¬ (false = true) by decide)] at H; exact H
   clear H
   have H := H1
   clear H1
   obtain rfl := Option.some.inj H
   go_enter Try.func6, Try.ntmps6
   go_wp2_with (first | ((with_reducible refine gate_dst (N := 1) rfl ?_); refine box_event ?hg (N := 1) ?hd (cs := #[.int .i64 a0_0, .slice A0_1 l0_1.length c0_1, .slice A0_2 l0_2.length c0_2, .int .i64 a0_3]) (t := 25) ?hr ?_; (case hd => rfl); (case hg => rfl); (case hr => exact zq2); intro gb346 hg w123 hbox hb; have n0_ := Aside0.mk (below_step zq3 hb); have n1_ := Aside0.mk (hbox); have n2_ := Aside0.mk ((zq179 : w.heap.size ≤ gb346)); have n3_ := Aside0.mk ((zq179 : w.heap.size ≤ gb346)); clear HB; have HB := n0_; have BK346 := n1_; have GW346 := n2_; have GE346 := n3_; clear n0_ n1_ n2_ n3_; clear hb hbox hg; have hcz124_0 : w123.cell? ⟨gb346, 0, none⟩ = some (.int .i64 a0_0) := (blk_cell BK346.out 0).trans rfl; have hcz124_1 : w123.cell? ⟨gb346, 1, none⟩ = some (.slice A0_1 l0_1.length c0_1) := (blk_cell BK346.out 1).trans rfl; have hcz124_2 : w123.cell? ⟨gb346, 2, none⟩ = some (.slice A0_2 l0_2.length c0_2) := (blk_cell BK346.out 2).trans rfl; have hcz124_3 : w123.cell? ⟨gb346, 3, none⟩ = some (.int .i64 a0_3) := (blk_cell BK346.out 3).trans rfl; have hfz124_0 := blk_frozen BK346.out 0; have hfz124_1 := blk_frozen BK346.out 1; have hfz124_2 := blk_frozen BK346.out 2; have hfz124_3 := blk_frozen BK346.out 3) | ((with_reducible refine gate_callee (f := 15) rfl ?_); refine goesL_ (some 13) rfl rfl Try.func15 (by kernel_rfl) rfl #[.agg #[.int .i64 a0_0, .slice A0_1 l0_1.length c0_1, .slice A0_2 l0_2.length c0_2, .int .i64 a0_3], .int .i64 1048576] rfl zq8 ?_; (with_reducible refine (laws_szStore.calls k a0_0 _ _ l0_1 _ _ l0_2 a0_3 1048576 t347 _ ?side1 ?side2 ?side3 ?side4 A2.out).mono ?_); (case side1 => exact zq11); (case side2 => exact zq12); (case side3 => exact zq15); (case side4 => exact zq16); rintro e w125 ⟨rfl, hb⟩; refine ⟨_, rfl, ?_⟩; have n0_ := Aside0.mk (blk_below (g := gb346) (o := .cells #[.int .i64 a0_0, .slice A0_1 l0_1.length c0_1, .slice A0_2 l0_2.length c0_2, .int .i64 a0_3] 25 (0, 0)) zq65 hb); have n1_ := Aside0.mk (below_step zq66 hb); clear BK346; clear HB; have BK346 := n0_; have HB := n1_; clear n0_ n1_; (try clear hb); (try clear hb2); (try clear hk); (try clear hi); have hcz126_0 : w125.cell? ⟨gb346, 0, none⟩ = some (.int .i64 a0_0) := (blk_cell BK346.out 0).trans rfl; have hcz126_1 : w125.cell? ⟨gb346, 1, none⟩ = some (.slice A0_1 l0_1.length c0_1) := (blk_cell BK346.out 1).trans rfl; have hcz126_2 : w125.cell? ⟨gb346, 2, none⟩ = some (.slice A0_2 l0_2.length c0_2) := (blk_cell BK346.out 2).trans rfl; have hcz126_3 : w125.cell? ⟨gb346, 3, none⟩ = some (.int .i64 a0_3) := (blk_cell BK346.out 3).trans rfl; have hfz126_0 := blk_frozen BK346.out 0; have hfz126_1 := blk_frozen BK346.out 1; have hfz126_2 := blk_frozen BK346.out 2; have hfz126_3 := blk_frozen BK346.out 3) | ((with_reducible refine gate_callee (f := 17) rfl ?_); refine goesL_ (some 17) rfl rfl Try.func17 (by kernel_rfl) rfl #[.agg #[.int .i64 a0_0, .slice A0_1 l0_1.length c0_1, .slice A0_2 l0_2.length c0_2, .int .i64 a0_3]] rfl zq8 ?_; (with_reducible refine (laws_toStore.calls k a0_0 _ _ l0_1 _ _ l0_2 a0_3 t348 t349 t352 t355 _ ?side1 ?side2 ?side3 ?side4 A7.out).mono ?_); (case side1 => exact zq11); (case side2 => exact zq12); (case side3 => exact zq15); (case side4 => exact zq16); rintro e w127 ⟨v350, v353, rfl, ho0, ho1, hb⟩; refine ⟨_, rfl, ?_⟩; have n0_ := Aside0.mk (Kd.R_lower ho0 (below_size zq66)); have n1_ := Aside0.mk (Kd.R_lower ho1 (below_size zq66)); have n2_ := Aside0.mk (blk_below (g := gb346) (o := .cells #[.int .i64 a0_0, .slice A0_1 l0_1.length c0_1, .slice A0_2 l0_2.length c0_2, .int .i64 a0_3] 25 (0, 0)) zq65 hb); have n3_ := Aside0.mk (below_step zq66 hb); clear BK346; clear HB; have HO351 := n0_; have HO354 := n1_; have BK346 := n2_; have HB := n3_; clear n0_ n1_ n2_ n3_; (try clear hb); (try clear hb2); (try clear hk); (try clear hi); (try clear ho0); (try clear ho1); obtain ⟨Ao128, co128, eo128⟩ := Kd.R_slice HO351.out; subst eo128; obtain ⟨Ao129, co129, eo129⟩ := Kd.R_slice HO354.out; subst eo129) | ((with_reducible refine gate_callee (f := 24) rfl ?_); refine goesL_ (some 18) rfl rfl Try.func24 (by kernel_rfl) rfl #[.agg #[.int .i64 t348, .slice Ao128 t349.length co128, .slice Ao129 t352.length co129, .int .i64 t355]] rfl zq8 ?_; (with_reducible refine (spec_DigestsOf.calls k t348 _ _ t349 _ _ t352 t355 t356 _ ?side1 ?side2 ?side3 ?side4 A8.out).mono ?_); (case side1 => exact zq67); (case side2 => exact zq68); (case side3 => exact zq69); (case side4 => exact zq70); rintro e w130 ⟨v357, rfl, ho0, hb⟩; refine ⟨_, rfl, ?_⟩; have n0_ := Aside0.mk (Kd.R_below zq71 hb); have n1_ := Aside0.mk (Kd.R_below zq72 hb); have n2_ := Aside0.mk (Kd.R_lower ho0 (below_size zq66)); have n3_ := Aside0.mk (blk_below (g := gb346) (o := .cells #[.int .i64 a0_0, .slice A0_1 l0_1.length c0_1, .slice A0_2 l0_2.length c0_2, .int .i64 a0_3] 25 (0, 0)) zq65 hb); have n4_ := Aside0.mk (below_step zq66 hb); clear HO351; clear HO354; clear BK346; clear HB; have HO351 := n0_; have HO354 := n1_; have HO358 := n2_; have BK346 := n3_; have HB := n4_; clear n0_ n1_ n2_ n3_ n4_; (try clear hb); (try clear hb2); (try clear hk); (try clear hi); (try clear ho0); have hcz131_0 : w130.cell? ⟨gb346, 0, none⟩ = some (.int .i64 a0_0) := (blk_cell BK346.out 0).trans rfl; have hcz131_1 : w130.cell? ⟨gb346, 1, none⟩ = some (.slice A0_1 l0_1.length c0_1) := (blk_cell BK346.out 1).trans rfl; have hcz131_2 : w130.cell? ⟨gb346, 2, none⟩ = some (.slice A0_2 l0_2.length c0_2) := (blk_cell BK346.out 2).trans rfl; have hcz131_3 : w130.cell? ⟨gb346, 3, none⟩ = some (.int .i64 a0_3) := (blk_cell BK346.out 3).trans rfl; have hfz131_0 := blk_frozen BK346.out 0; have hfz131_1 := blk_frozen BK346.out 1; have hfz131_2 := blk_frozen BK346.out 2; have hfz131_3 := blk_frozen BK346.out 3) | ((with_reducible refine gate_callee (f := 17) rfl ?_); refine goesL_ (some 20) rfl rfl Try.func17 (by kernel_rfl) rfl #[.agg #[.int .i64 a0_0, .slice A0_1 l0_1.length c0_1, .slice A0_2 l0_2.length c0_2, .int .i64 a0_3]] rfl zq8 ?_; (with_reducible refine (laws_toStore.calls k a0_0 _ _ l0_1 _ _ l0_2 a0_3 t359 t360 t363 t366 _ ?side1 ?side2 ?side3 ?side4 A9.out).mono ?_); (case side1 => exact zq11); (case side2 => exact zq12); (case side3 => exact zq15); (case side4 => exact zq16); rintro e w132 ⟨v361, v364, rfl, ho0, ho1, hb⟩; refine ⟨_, rfl, ?_⟩; have n0_ := Aside0.mk (Kd.R_elder' zq71 (Kd.R_base ho0) hb); have n1_ := Aside0.mk (Kd.R_elder' zq72 (Kd.R_base ho1) hb); have n2_ := Aside0.mk (Kd.R_below zq73 hb); have n3_ := Aside0.mk (Kd.R_lower (Kd.R_new' ho0 (Kd.R_lt zq71)) (below_size zq66)); have n4_ := Aside0.mk (Kd.R_lower (Kd.R_new' ho1 (Kd.R_lt zq72)) (below_size zq66)); have n5_ := Aside0.mk (blk_below (g := gb346) (o := .cells #[.int .i64 a0_0, .slice A0_1 l0_1.length c0_1, .slice A0_2 l0_2.length c0_2, .int .i64 a0_3] 25 (0, 0)) zq65 hb); have n6_ := Aside0.mk (below_step zq66 hb); clear HO351; clear HO354; clear HO358; clear BK346; clear HB; have HO351 := n0_; have HO354 := n1_; have HO358 := n2_; have HO362 := n3_; have HO365 := n4_; have BK346 := n5_; have HB := n6_; clear n0_ n1_ n2_ n3_ n4_ n5_ n6_; (try clear hb); (try clear hb2); (try clear hk); (try clear hi); (try clear ho0); (try clear ho1)) | ((with_reducible refine gate_dst (N := 5) rfl ?_); refine box_event ?hg (N := 5) ?hd (cs := #[.int .i64 0, .slice none 0 0, .slice none 0 0, .int .i64 0]) (t := 31) ?hr ?_; (case hd => rfl); (case hg => rfl); (case hr => exact zq2); intro gb367 hg w133 hbox hb; have n0_ := Aside0.mk (Kd.R_below zq71 hb); have n1_ := Aside0.mk (Kd.R_below zq72 hb); have n2_ := Aside0.mk (Kd.R_below zq73 hb); have n3_ := Aside0.mk (Kd.R_below zq74 hb); have n4_ := Aside0.mk (Kd.R_below zq75 hb); have n5_ := Aside0.mk (blk_below (g := gb346) (o := .cells #[.int .i64 a0_0, .slice A0_1 l0_1.length c0_1, .slice A0_2 l0_2.length c0_2, .int .i64 a0_3] 25 (0, 0)) zq65 hb); have n6_ := Aside0.mk (below_step zq66 hb); have n7_ := Aside0.mk (hbox); have n8_ := Aside0.mk ((zq196 : w.heap.size ≤ gb367)); have n9_ := Aside0.mk ((zq196 : w.heap.size ≤ gb367)); have n10_ := Aside0.mk ((zq197 : gb346 ≠ gb367)); have n11_ := Aside0.mk ((zq198 : gb367 ≠ gb346)); clear HO351; clear HO354; clear HO358; clear HO362; clear HO365; clear BK346; clear HB; have HO351 := n0_; have HO354 := n1_; have HO358 := n2_; have HO362 := n3_; have HO365 := n4_; have BK346 := n5_; have HB := n6_; have BK367 := n7_; have GW367 := n8_; have GE367 := n9_; have NB346_367 := n10_; have NB367_346 := n11_; clear n0_ n1_ n2_ n3_ n4_ n5_ n6_ n7_ n8_ n9_ n10_ n11_; clear hb hbox hg; have hnb134 := NB367_346.out; have hnc134 := NB346_367.out; have hcz135_0 : w133.cell? ⟨gb367, 0, none⟩ = some (.int .i64 0) := (blk_cell BK367.out 0).trans rfl; have hcz135_1 : w133.cell? ⟨gb367, 1, none⟩ = some (.slice none 0 0) := (blk_cell BK367.out 1).trans rfl; have hcz135_2 : w133.cell? ⟨gb367, 2, none⟩ = some (.slice none 0 0) := (blk_cell BK367.out 2).trans rfl; have hcz135_3 : w133.cell? ⟨gb367, 3, none⟩ = some (.int .i64 0) := (blk_cell BK367.out 3).trans rfl; have hfz135_0 := blk_frozen BK367.out 0; have hfz135_1 := blk_frozen BK367.out 1; have hfz135_2 := blk_frozen BK367.out 2; have hfz135_3 := blk_frozen BK367.out 3; obtain ⟨Ao136, co136, eo136⟩ := Kd.R_slice HO362.out; subst eo136; obtain ⟨Ao137, co137, eo137⟩ := Kd.R_slice HO365.out; subst eo137) | ((with_reducible refine gate_callee (f := 25) rfl ?_); refine goesL_ (some 22) rfl rfl Try.func25 (by kernel_rfl) rfl #[.agg #[.int .i64 t359, .slice Ao136 t360.length co136, .slice Ao137 t363.length co137, .int .i64 t366]] rfl zq8 ?_; (with_reducible refine (impl_DigestsOf.calls k t359 _ _ t360 _ _ t363 t366 t368 _ ?side1 ?side2 ?side3 ?side4 A10.out).mono ?_); (case side1 => refine (Kd.R_reads' (e := 66) (base := w.heap.size) (ok := fun k_ => (True ∧ some k_ ≠ (.slice Ao128 t349.length co128 : Value).ownBlock)) (n := t360.length) (c := co136) ?_).2.2; exact zq127); (case side2 => exact zq77); (case side3 => refine (Kd.R_reads' (e := 68) (base := w.heap.size) (ok := fun k_ => (True ∧ some k_ ≠ (.slice Ao129 t352.length co129 : Value).ownBlock)) (n := t363.length) (c := co137) ?_).2.2; exact zq128); (case side4 => exact zq79); rintro e w138 ⟨v369, rfl, ho0, hb⟩; refine ⟨_, rfl, ?_⟩; have n0_ := Aside0.mk (Kd.R_below (by (with_reducible repeat (first | apply Kd.R_alloc | apply Kd.R_drewN | apply Kd.R_drew)); exact (Kd.R_mono (Kd.R_far (p := ⟨gb367, 3, none⟩) (Kd.R_far (p := ⟨gb367, 2, none⟩) (Kd.R_far (p := ⟨gb367, 1, none⟩) (Kd.R_far (p := ⟨gb367, 0, none⟩) (Kd.R_types HO351.out BK367.out (by decide)) (fun _ hk => hk.2) (.int .i64 t359)) (fun _ hk => hk.2) (.slice Ao136 t360.length co136)) (fun _ hk => hk.2) (.slice Ao137 t363.length co137)) (fun _ hk => hk.2) (.int .i64 t366)) (fun _ h_ => h_.1))) hb); have n1_ := Aside0.mk (Kd.R_below (by (with_reducible repeat (first | apply Kd.R_alloc | apply Kd.R_drewN | apply Kd.R_drew)); exact (Kd.R_mono (Kd.R_far (p := ⟨gb367, 3, none⟩) (Kd.R_far (p := ⟨gb367, 2, none⟩) (Kd.R_far (p := ⟨gb367, 1, none⟩) (Kd.R_far (p := ⟨gb367, 0, none⟩) (Kd.R_types HO354.out BK367.out (by decide)) (fun _ hk => hk.2) (.int .i64 t359)) (fun _ hk => hk.2) (.slice Ao136 t360.length co136)) (fun _ hk => hk.2) (.slice Ao137 t363.length co137)) (fun _ hk => hk.2) (.int .i64 t366)) (fun _ h_ => h_.1))) hb); have n2_ := Aside0.mk (Kd.R_elder' zq129 (Kd.R_base ho0) hb); have n3_ := Aside0.mk (Kd.R_below zq127 hb); have n4_ := Aside0.mk (Kd.R_below zq128 hb); have n5_ := Aside0.mk (Kd.R_lower (Kd.R_new' ho0 (Kd.R_lt zq129)) (below_size zq81)); have n6_ := Aside0.mk (blk_below (g := gb346) (o := .cells #[.int .i64 a0_0, .slice A0_1 l0_1.length c0_1, .slice A0_2 l0_2.length c0_2, .int .i64 a0_3] 25 (0, 0)) zq82 hb); have n7_ := Aside0.mk (blk_below (g := gb367) (o := .cells #[.int .i64 t359, .slice Ao136 t360.length co136, .slice Ao137 t363.length co137, .int .i64 t366] 31 (0, 0)) (by (with_reducible repeat (first | refine blk_drewN ?_ _ | refine blk_drew ?_ | refine blk_alloc ?_ _)); refine blk_put (cs := #[.int .i64 t359, .slice Ao136 t360.length co136, .slice Ao137 t363.length co137, .int .i64 0]) ?_ 3 _ rfl; (with_reducible repeat (first | refine blk_drewN ?_ _ | refine blk_drew ?_ | refine blk_alloc ?_ _)); refine blk_put (cs := #[.int .i64 t359, .slice Ao136 t360.length co136, .slice none 0 0, .int .i64 0]) ?_ 2 _ rfl; (with_reducible repeat (first | refine blk_drewN ?_ _ | refine blk_drew ?_ | refine blk_alloc ?_ _)); refine blk_put (cs := #[.int .i64 t359, .slice none 0 0, .slice none 0 0, .int .i64 0]) ?_ 1 _ rfl; (with_reducible repeat (first | refine blk_drewN ?_ _ | refine blk_drew ?_ | refine blk_alloc ?_ _)); refine blk_put (cs := #[.int .i64 0, .slice none 0 0, .slice none 0 0, .int .i64 0]) ?_ 0 _ rfl; (with_reducible repeat (first | refine blk_drewN ?_ _ | refine blk_drew ?_ | refine blk_alloc ?_ _)); exact BK367.out) hb); have n8_ := Aside0.mk (below_step zq81 hb); clear HO351; clear HO354; clear HO358; clear HO362; clear HO365; clear BK346; clear BK367; clear HB; have HO351 := n0_; have HO354 := n1_; have HO358 := n2_; have HO362 := n3_; have HO365 := n4_; have HO370 := n5_; have BK346 := n6_; have BK367 := n7_; have HB := n8_; clear n0_ n1_ n2_ n3_ n4_ n5_ n6_ n7_ n8_; (try clear hb); (try clear hb2); (try clear hk); (try clear hi); (try clear ho0); obtain ⟨Ao139, co139, eo139⟩ := Kd.R_slice HO370.out; subst eo139; obtain ⟨Ao140, co140, eo140⟩ := Kd.R_slice HO358.out; subst eo140) | ((with_reducible refine gate_callee (f := 26) rfl ?_); refine goesL_ (some 25) rfl rfl Try.func26 (by kernel_rfl) rfl #[.slice Ao139 t368.length co139, .slice Ao140 t356.length co140] rfl zq8 ?_; (with_reducible refine (laws_eqStringS.calls k _ _ t368 _ _ t356 false _ ?side1 ?side2 ?side3 ?side4 A11.out).mono ?_); (case side1 => exact zq83); (case side2 => exact zq84); (case side3 => exact zq85); (case side4 => exact zq86); rintro e w' ⟨rfl, ⟨nd, rfl⟩⟩; refine ⟨_, rfl, ?_⟩))
   go_ret
   exact ⟨zq4, zq81⟩

/-- THE ONE PURE STATEMENT of laws_FnExactDigestsOf. -/
def laws_FnExactDigestsOf.Pure : Prop := ∀ (a0_0 : Int) (l0_1 : List (S95)) (l0_2 : List (S97)) (a0_3 : Int), (Lit.int .i64 a0_0).wf = true → (l0_1.length ≤ maxLen ∧ ∀ y0_ ∈ l0_1, (y0_.f0.size ≤ maxLen ∧ y0_.f1.size ≤ maxLen)) → (l0_2.length ≤ maxLen ∧ ∀ y0_ ∈ l0_2, ((Lit.int .i64 y0_.f0).wf = true ∧ y0_.f1.size ≤ maxLen)) → (Lit.int .i64 a0_3).wf = true → ∃ k, laws_FnExactDigestsOf.f k a0_0 l0_1 l0_2 a0_3 = some true

end Go.Proofs.Ytacaeebjanglgaa.QFnExactDigestsOf
